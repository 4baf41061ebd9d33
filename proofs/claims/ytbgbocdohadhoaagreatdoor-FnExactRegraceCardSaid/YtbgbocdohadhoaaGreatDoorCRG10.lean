/- Texts of this session, joined by its own program. -/
import Derived.Shelf.GgClosure.Gives
import Derived.Test.YtbgbocdohadhoaaGreatDoorProg
import Derived.Ground.SlbSplitProg
import Derived.Ground.SlgfProg
import Derived.Shelf.SlGeneric
import Derived.Shelf.SlLaysP
import Derived.Shelf.SlLaysH
import Derived.Test.YtbgbocdohadhoaaGreatDoorCRG9
namespace Go.Proofs.YtbgbocdohadhoaaGreatDoor.Print
open Go Go.RowKit Go.Proofs.YtbgbocdohadhoaaGreatDoorW.PrintWords Go.Proofs.YtbgbocdohadhoaaGreatDoorW.PrintLast Go.Proofs.YtbgbocdohadhoaaGreatDoorW.PrintMore
set_option linter.unusedVariables false
set_option linter.unusedSimpArgs false
section
def rgA (e g n t now : Int) (xs : List Se) (ns : List No) : (Int × Int × Int × Int × List Se × List No) × Int := if validB e g n t xs ns = true ∧ 0 ≤ now ∧ now ≤ 1000000 then ((e, g, n, now, xs.map (rgSe now), ns.map durNo), 0) else ((0, 0, 0, 0, [], []), 1)
structure WK (w0 W : World) (lo hi : Nat) (As : Option Addr) (cs : Nat) (xs : List Se) (An : Option Addr) (cn : Nat) (ns : List No) : Prop where
 x : Kd.R kSe tSe W w0.heap.size (fun k => lo ≤ k ∧ k < hi) (.slice As xs.length cs) xs
 m : Kd.S kNo tNo W w0.heap.size (fun k => lo ≤ k ∧ k < hi) (.slice An ns.length cn) ns
section
variable {w0 W W' : World} {lo hi : Nat} {As An : Option Addr} {cs cn : Nat} {xs : List Se} {ns : List No}
theorem WK.reads (h : WK w0 W lo hi As cs xs An cn ns) : (Kd.C kSe W As xs.length xs ∧ xs.length ≤ cs) ∧ (Kd.C kNo W An ns.length ns ∧ ns.length ≤ cn) :=
 ⟨⟨(Kd.R_reads' h.x).2.2, (Kd.R_reads' h.x).2.1⟩, ⟨(Kd.S_reads' h.m).2.2, (Kd.S_reads' h.m).2.1⟩⟩
theorem WK.below (h : WK w0 W lo hi As cs xs An cn ns) (hb : Below W.heap.size W W') : WK w0 W' lo hi As cs xs An cn ns := ⟨Kd.R_below h.x hb, Kd.S_below h.m hb⟩
theorem WK.kept {S : Nat → Prop} (h : WK w0 W lo hi As cs xs An cn ns) (hk : Kept W W' S) (hS : ∀ k, lo ≤ k → k < hi → ¬ S k) : WK w0 W' lo hi As cs xs An cn ns := ⟨Kd.R_kept h.x hk (fun k ho => hS k ho.1 ho.2), Kd.S_kept h.m hk (fun k ho => hS k ho.1 ho.2)⟩
end
theorem sumNo_durR (ns : List No) : sumL lnNo (ns.map durNo) ≤ sumL lnNo ns := by
 induction ns with
 | nil => exact Nat.le_refl _
 | cons x r ih =>
  have h : lnNo (durNo x) ≤ lnNo x := by unfold lnNo durNo; simp only [List.length_nil]; omega
  simp only [List.map_cons, sumL]
  omega
theorem sumSe_rg (now : Int) (xs : List Se) : sumL lnSe (xs.map (rgSe now)) ≤ sumL lnSe xs := by
 induction xs with
 | nil => exact Nat.le_refl _
 | cons x r ih =>
  have h : lnSe (rgSe now x) ≤ lnSe x := by
   have h2 : lnSe (rgSe now x) = 2 := rfl
   have h3 : lnSe x = 2 + sumL lnEv x.f2 := rfl
   omega
  simp only [List.map_cons, sumL]
  omega
theorem rgA_ok (e g n t now : Int) (xs : List Se) (ns : List No) (hs : SmS xs ns) : SmS (rgA e g n t now xs ns).1.2.2.2.2.1 (rgA e g n t now xs ns).1.2.2.2.2.2 ∧ sumL lnSe (rgA e g n t now xs ns).1.2.2.2.2.1 + sumL lnNo (rgA e g n t now xs ns).1.2.2.2.2.2 ≤ sumL lnSe xs + sumL lnNo ns := by
 unfold rgA
 split
 ·
  refine ⟨⟨by simp only [List.length_map]; exact hs.x, by simp only [List.length_map]; exact hs.n, fun x hx => ?_, fun x hx => ?_⟩, ?_⟩
  ·
   obtain ⟨y, hy, rfl⟩ := List.mem_map.1 hx
   exact ⟨Nat.zero_le _, fun z hz => by cases hz⟩
  ·
   obtain ⟨y, hy, rfl⟩ := List.mem_map.1 hx
   exact ⟨(hs.m y hy).1, (hs.m y hy).2.1, Nat.zero_le _⟩
  ·
   have h1 := sumSe_rg now xs
   have h2 := sumNo_durR ns
   simp only
   omega
 ·
  exact ⟨⟨Nat.zero_le _, Nat.zero_le _, fun x hx => (by cases hx), fun x hx => (by cases hx)⟩, Nat.zero_le _⟩
theorem spec_Regrace_ok (w0 : World) (e g n t now : Int) (As : Option Addr) (cs : Nat) (xs : List Se) (An : Option Addr) (cn : Nat) (ns : List No) (w : World) (h1 : Kd.C kSe w As xs.length xs) (hc1 : xs.length ≤ cs) (h2 : Kd.C kNo w An ns.length ns) (hc2 : ns.length ≤ cn) (hs : SmS xs ns) (hB : Below w0.heap.size w0 w) :
  Calls Tryz.prog 7 #[.agg #[.int .u64 e, .int .u64 g, .int .u64 n, .int .i64 t, .slice As xs.length cs, .slice An ns.length cn], .int .i64 now] w fun r w' => ∃ Bs ds Bn dn, r = .returned (.tuple #[.agg #[.int .u64 (rgA e g n t now xs ns).1.1, .int .u64 (rgA e g n t now xs ns).1.2.1, .int .u64 (rgA e g n t now xs ns).1.2.2.1, .int .i64 (rgA e g n t now xs ns).1.2.2.2.1, .slice Bs (rgA e g n t now xs ns).1.2.2.2.2.1.length ds, .slice Bn (rgA e g n t now xs ns).1.2.2.2.2.2.length dn], .int .i64 (rgA e g n t now xs ns).2]) ∧ WK w0 w' w.heap.size w'.heap.size Bs ds (rgA e g n t now xs ns).1.2.2.2.2.1 Bn dn (rgA e g n t now xs ns).1.2.2.2.2.2 ∧ Below w.heap.size w w' := by
 have hf : spec_Regrace.f 10000000 e g n t xs ns now = some ((rgA e g n t now xs ns).1.1, (rgA e g n t now xs ns).1.2.1, (rgA e g n t now xs ns).1.2.2.1, (rgA e g n t now xs ns).1.2.2.2.1, (rgA e g n t now xs ns).1.2.2.2.2.1, (rgA e g n t now xs ns).1.2.2.2.2.2, (rgA e g n t now xs ns).2) := by
  have hx := hs.x
  have hn := hs.n
  unfold spec_Regrace.f rgA
  rw [validState_f e g n t xs ns hs, Option.bind_some]
  by_cases hv : validB e g n t xs ns = true
  ·
   rw [if_pos hv]
   by_cases h0 : now < 0
   ·
    rw [if_pos h0, if_neg (by omega)]
   ·
    by_cases h9 : now > 1000000
    ·
     rw [if_neg h0, if_pos h9, if_neg (by omega)]
    ·
     rw [if_neg h0, if_neg h9, l5regrace_f e g n t now xs ns hs ⟨by omega, by omega⟩ 10000000 (by omega), Option.bind_some, if_pos ⟨hv, by omega, by omega⟩]
  ·
   rw [if_neg hv, if_neg (fun h => hv h.1)]
 refine (spec_Regrace.calls 10000000 e g n t As cs xs An cn ns now _ _ _ _ _ _ _ w h1 hc1 h2 hc2 hf).mono ?_
 rintro r w' ⟨v4, v5, rfl, hr, hS, hb⟩
 obtain ⟨Bs, ds, rfl⟩ := Kd.R_slice hr
 obtain ⟨Bn, dn, rfl⟩ := Kd.S_slice hS
 exact ⟨Bs, ds, Bn, dn, rfl, ⟨Kd.R_lower (Kd.R_mono (Kd.R_bound hr) (fun k hk => ⟨hk.2.1, hk.2.2.1⟩)) hB.size, Kd.S_lower (Kd.S_mono (Kd.S_bound hS) (fun k hk => ⟨hk.2.1, hk.2.2.1⟩)) hB.size⟩, hb⟩
set_option maxHeartbeats 4000000 in
set_option maxRecDepth 100000 in
theorem impl_Regrace_ok (HV : ValIC) (w0 : World) (e g n t now : Int) (As : Option Addr) (cs : Nat) (xs : List Se) (An : Option Addr) (cn : Nat) (ns : List No) (w : World) (h1 : Kd.C kSe w As xs.length xs) (hc1 : xs.length ≤ cs) (h2 : Kd.C kNo w An ns.length ns) (hc2 : ns.length ≤ cn) (hs : SmS xs ns) (hr : RgT xs ns) (hB : Below w0.heap.size w0 w) :
  Calls Tryz.prog 9 #[.agg #[.int .u64 e, .int .u64 g, .int .u64 n, .int .i64 t, .slice As xs.length cs, .slice An ns.length cn], .int .i64 now] w fun r w' => ∃ Bs ds Bn dn, r = .returned (.tuple #[.agg #[.int .u64 (rgA e g n t now xs ns).1.1, .int .u64 (rgA e g n t now xs ns).1.2.1, .int .u64 (rgA e g n t now xs ns).1.2.2.1, .int .i64 (rgA e g n t now xs ns).1.2.2.2.1, .slice Bs (rgA e g n t now xs ns).1.2.2.2.2.1.length ds, .slice Bn (rgA e g n t now xs ns).1.2.2.2.2.2.length dn], .int .i64 (rgA e g n t now xs ns).2]) ∧ SK w0 w' w.heap.size w'.heap.size Bs ds (rgA e g n t now xs ns).1.2.2.2.2.1 Bn dn (rgA e g n t now xs ns).1.2.2.2.2.2 ∧ Below w.heap.size w w' := by
 have hV := Aside0.mk (fun (W : World) (hW : Below w.heap.size w W) => HV e g n t As cs xs An cn ns W (Kd.C_below h1 hW) hc1 (Kd.C_below h2 hW) hc2 hs hr.x hr.m)
 have hG := Aside0.mk (fun (hnow : 0 ≤ now ∧ now ≤ 1000000) (W : World) (hW : Below w.heap.size w W) => regraced_ok e g n t now As cs xs An cn ns W (Kd.C_below h1 hW) hc1 (Kd.C_below h2 hW) hc2 hs hnow)
 have HB0 := Aside0.mk hB
 obtain ⟨vb, hvb⟩ : ∃ vb, validB e g n t xs ns = vb := ⟨_, rfl⟩
 have HA := Aside0.mk (show rgA e g n t now xs ns = if vb = true ∧ 0 ≤ now ∧ now ≤ 1000000 then ((e, g, n, now, xs.map (rgSe now), ns.map durNo), 0) else ((0, 0, 0, 0, [], []), 1) by rw [← hvb]; rfl)
 rw [hvb] at hV
 clear h1 hc1 h2 hc2 hs hr hB hvb
 go_enter Tryz.func9, Tryz.ntmps9
 go_upto_region 1 with (fail)
 have bs := blk_alloc (blk_new w (.cells #[.int .u64 e, .int .u64 g, .int .u64 n, .int .i64 t, .slice As xs.length cs, .slice An ns.length cn] 31)) (.cells #[.int .u64 0, .int .u64 0, .int .u64 0, .int .i64 0, .slice none 0 0, .slice none 0 0] 31)
 have bz := blk_new (w.alloc (.cells #[.int .u64 e, .int .u64 g, .int .u64 n, .int .i64 t, .slice As xs.length cs, .slice An ns.length cn] 31)) (.cells #[.int .u64 0, .int .u64 0, .int .u64 0, .int .i64 0, .slice none 0 0, .slice none 0 0] 31)
 have hb := below_alloc (below_alloc (Below.refl w.heap.size w) (.cells #[.int .u64 e, .int .u64 g, .int .u64 n, .int .i64 t, .slice As xs.length cs, .slice An ns.length cn] 31)) (.cells #[.int .u64 0, .int .u64 0, .int .u64 0, .int .i64 0, .slice none 0 0, .slice none 0 0] 31)
 simp only [World.size_alloc] at bz
 generalize (w.alloc (.cells #[.int .u64 e, .int .u64 g, .int .u64 n, .int .i64 t, .slice As xs.length cs, .slice An ns.length cn] 31)).alloc (.cells #[.int .u64 0, .int .u64 0, .int .u64 0, .int .i64 0, .slice none 0 0, .slice none 0 0] 31) = W0 at *
 have BS := Aside0.mk bs
 have BZ := Aside0.mk bz
 have HB := Aside0.mk hb
 obtain ⟨s0, s1, s2, s3, s4, s5⟩ := cells6 bs
 clear bs bz hb
 go_wp2_with fail
 refine (hV.out _ HB.out).mono ?_
 rintro r w1 ⟨rfl, hb⟩
 clear s0 s1 s2 s3 s4 s5 hV
 replace BS := Aside0.mk (blk_below BS.out hb)
 replace BZ := Aside0.mk (blk_below BZ.out hb)
 replace HB := Aside0.mk (below_step HB.out hb)
 clear hb
 cases vb with
 | false =>
  obtain ⟨z0, z1, z2, z3, z4, z5⟩ := cells6 BZ.out
  have f0 := blk_frozen BZ.out 0
  have f1 := blk_frozen BZ.out 1
  have f2 := blk_frozen BZ.out 2
  have f3 := blk_frozen BZ.out 3
  have f4 := blk_frozen BZ.out 4
  have f5 := blk_frozen BZ.out 5
  have HE := Aside0.mk (show rgA e g n t now xs ns = ((0, 0, 0, 0, [], []), 1) by rw [HA.out, if_neg (by intro h; exact absurd h.1 (by decide))])
  go_wp2_with fail
  refine bodyPost_ret (results_ct rfl _ _ (w.heap.size + 1) 31 #[.int .u64 0, .int .u64 0, .int .u64 0, .int .i64 0, .slice none 0 0, .slice none 0 0] (0, 0) _ rfl (blk_set6 BZ.out) Tryz.underlying31 rfl (by kernel_rfl)) rfl ?_
  rw [HE.out]
  exact ⟨none, 0, none, 0, rfl, ⟨⟨fun _ => True, Kd.S_nil _ _ _ _ _, Kd.S_nil _ _ _ _ _⟩⟩, below_set6 HB.out (Nat.le_succ _)⟩
 | true =>
  obtain ⟨nb, hnb, hnn⟩ : ∃ nb, impl_nowOk.f now = some nb ∧ (nb = true ↔ 0 ≤ now ∧ now ≤ 1000000) := by
   unfold impl_nowOk.f
   by_cases h0 : now ≥ 0
   ·
    rw [if_pos h0]
    exact ⟨_, rfl, by rw [decide_eq_true_eq]; omega⟩
   ·
    rw [if_neg h0]
    exact ⟨_, rfl, ⟨fun h => (by cases h), fun h => (by omega)⟩⟩
  have HNB := Aside0.mk hnb
  have HNN := Aside0.mk hnn
  clear hnb hnn
  go_wp2_with fail
  refine (impl_nowOk.calls now nb _ HNB.out).mono ?_
  rintro r w2 ⟨rfl, hb0⟩
  have hb := hb0.below
  replace BS := Aside0.mk (blk_below BS.out hb)
  replace BZ := Aside0.mk (blk_below BZ.out hb)
  replace HB := Aside0.mk (below_step HB.out hb)
  clear hb hb0
  cases nb with
  | false =>
   obtain ⟨z0, z1, z2, z3, z4, z5⟩ := cells6 BZ.out
   have f0 := blk_frozen BZ.out 0
   have f1 := blk_frozen BZ.out 1
   have f2 := blk_frozen BZ.out 2
   have f3 := blk_frozen BZ.out 3
   have f4 := blk_frozen BZ.out 4
   have f5 := blk_frozen BZ.out 5
   have HE := Aside0.mk (show rgA e g n t now xs ns = ((0, 0, 0, 0, [], []), 1) by rw [HA.out, if_neg (by intro h; exact absurd (HNN.out.2 h.2) (by decide))])
   go_wp2_with fail
   refine bodyPost_ret (results_ct rfl _ _ (w.heap.size + 1) 31 #[.int .u64 0, .int .u64 0, .int .u64 0, .int .i64 0, .slice none 0 0, .slice none 0 0] (0, 0) _ rfl (blk_set6 BZ.out) Tryz.underlying31 rfl (by kernel_rfl)) rfl ?_
   rw [HE.out]
   exact ⟨none, 0, none, 0, rfl, ⟨⟨fun _ => True, Kd.S_nil _ _ _ _ _, Kd.S_nil _ _ _ _ _⟩⟩, below_set6 HB.out (Nat.le_succ _)⟩
  | true =>
   have hnow := HNN.out.1 rfl
   have HNW := Aside0.mk hnow
   obtain ⟨s0, s1, s2, s3, s4, s5⟩ := cells6 BS.out
   clear hnow
   go_wp2_with fail
   refine (hG.out HNW.out _ HB.out).mono ?_
   rintro r w3 ⟨Bs, ds, Bn, dn, rfl, hK, hb⟩
   clear s0 s1 s2 s3 s4 s5
   have hz2 := blk_lt BZ.out
   replace BZ := Aside0.mk (blk_below BZ.out hb)
   have hlt := HB.out.size
   have HK := Aside0.mk (hK.rebase (Nat.le_trans HB0.out.size hlt))
   replace HB := Aside0.mk (below_step HB.out hb)
   have HLO := Aside0.mk (show w.heap.size + 1 < w2.heap.size from hz2)
   clear hK hb hlt hz2
   obtain ⟨z0, z1, z2, z3, z4, z5⟩ := cells6 BZ.out
   have f0 := blk_frozen BZ.out 0
   have f1 := blk_frozen BZ.out 1
   have f2 := blk_frozen BZ.out 2
   have f3 := blk_frozen BZ.out 3
   have f4 := blk_frozen BZ.out 4
   have f5 := blk_frozen BZ.out 5
   have HE := Aside0.mk (show rgA e g n t now xs ns = ((e, g, n, now, xs.map (rgSe now), ns.map durNo), 0) by rw [HA.out, if_pos ⟨(by first | rfl | trivial), HNW.out⟩])
   obtain ⟨X, hX⟩ : ∃ X, xs.map (rgSe now) = X := ⟨_, rfl⟩
   obtain ⟨N, hN⟩ : ∃ N, ns.map durNo = N := ⟨_, rfl⟩
   rw [hX, hN] at HK HE ⊢
   go_wp2_with fail
   refine bodyPost_ret (results_ct rfl _ _ (w.heap.size + 1) 31 #[.int .u64 e, .int .u64 g, .int .u64 n, .int .i64 now, .slice Bs X.length ds, .slice Bn N.length dn] (0, 0) _ rfl (blk_set6 BZ.out) Tryz.underlying31 rfl (by kernel_rfl)) rfl ?_
   rw [HE.out]
   obtain ⟨q, q1, q2⟩ := HK.out.ex
   have hlo := HLO.out
   exact ⟨Bs, ds, Bn, dn, rfl, ⟨⟨q, Kd.S_mono (S_set6 q1 (fun k hk => by have := hk.1.1; omega)) (fun k hk => ⟨⟨by have := hk.1.1; omega, by rw [size_set6]; exact hk.1.2⟩, hk.2⟩), Kd.S_mono (S_set6 q2 (fun k hk => by have := hk.1.1; omega)) (fun k hk => ⟨⟨by have := hk.1.1; omega, by rw [size_set6]; exact hk.1.2⟩, hk.2⟩)⟩⟩, below_set6 HB.out (Nat.le_succ _)⟩
end
theorem heldByteS_m (A : Option Addr) (c n m q : Nat) (w : World) (h : Kd.C (Kd.int .u8) w A (marksB n m).length (marksB n m)) (hc : (marksB n m).length ≤ c) (hm : m + n ≤ 100000000) (hq : m + n = q) :
  Calls Tryz.prog 97 #[.slice A n c, .int .i64 m] w fun r w' => r = .returned (.int .i64 (q : Int)) ∧ Below w.heap.size w w' := by
 subst hq
 have h2 := laws_heldByteS.calls 200000000 A c (marksB n m) m _ w h hc (heldByteS_f n m (by omega) 200000000 (by omega))
 rw [marksB_length] at h2
 refine h2.mono ?_
 rintro e w' ⟨rfl, hb⟩
 exact ⟨rfl, hb.below⟩
theorem heldUint64S_m (A : Option Addr) (c n m q : Nat) (w : World) (h : Kd.C (Kd.int .u64) w A (marksU n m).length (marksU n m)) (hc : (marksU n m).length ≤ c) (hm : m + n ≤ 100000000) (hq : m + n = q) :
  Calls Tryz.prog 98 #[.slice A n c, .int .i64 m] w fun r w' => r = .returned (.int .i64 (q : Int)) ∧ Below w.heap.size w w' := by
 subst hq
 have h2 := laws_heldUint64S.calls 200000000 A c (marksU n m) m _ w h hc (heldUint64S_f n m (by omega) 200000000 (by omega))
 rw [marksU_length] at h2
 refine h2.mono ?_
 rintro e w' ⟨rfl, hb⟩
 exact ⟨rfl, hb.below⟩
set_option maxHeartbeats 4000000 in
set_option maxRecDepth 100000 in
theorem heldEventS_m (A : Option Addr) (c : Nat) (xs : List Ev) (m e : Nat) (w : World) (h1 : Kd.C kEv w A (markL mkEv lnEv xs m).length (markL mkEv lnEv xs m)) (k1 : (markL mkEv lnEv xs m).length ≤ c) (hm : m + sumL lnEv xs ≤ 100000000) (he : m + sumL lnEv xs = e) :
  Calls Tryz.prog 96 #[.slice A xs.length c, .int .i64 m] w fun r w' => r = .returned (.int .i64 (e : Int)) ∧ Below w.heap.size w w' := by
 have H1 := Aside0.mk h1
 have HM := Aside0.mk hm
 have HE := Aside0.mk he
 have HN : (markL mkEv lnEv xs m).length = xs.length := markL_length mkEv lnEv xs m
 have hmx : xs.length ≤ 100000000 := by
  have : ∀ zs : List Ev, zs.length ≤ sumL lnEv zs := by
   intro zs
   induction zs with
   | nil => simp [sumL]
   | cons z zs ih => simp only [sumL, List.length_cons]; have : 1 ≤ lnEv z := by { unfold lnEv; omega }; omega
  have := this xs
  omega
 have HN := Aside0.mk HN
 have HX := Aside0.mk hmx
 clear h1 k1 hm he hmx
 go_enter Tryz.func96, Tryz.ntmps96
 go_wp2_with fail
 go_loopg [1, 5] (xs.length + 1) (fun kq v1 v5 w' => ∃ i : Nat, v1 = .int .i64 ((endL lnEv (xs.take i) m : Nat) : Int) ∧ v5 = .int .i64 i ∧ Aside0 (kq + i = xs.length + 1 ∧ i ≤ xs.length) ∧ Aside0 (Below w.heap.size w w'))
 case atStart => exact ⟨0, by simp [endL, sumL], rfl, ⟨⟨by omega, by omega⟩⟩, ⟨Below.refl _ _⟩⟩
 case round =>
  obtain ⟨i, rfl, rfl, HJ, HB⟩ := hrel
  have hj0 := HJ.out
  by_cases hj : i < xs.length
  ·
   obtain ⟨k1, rfl⟩ : ∃ k1, gk = k1 + 1 := ⟨gk - 1, by omega⟩
   have c1 : decide ((i : Int) < (xs.length : Int)) = true := decide_eq_true (by omega)
   have c2 : decide (i < xs.length) = true := decide_eq_true hj
   have ci : (0 : Int) ≤ (i : Int) := by omega
   have ci2 : (i : Int) < ((markL mkEv lnEv xs m).length : Int) := by rw [HN.out]; omega
   obtain ⟨ad, A1, a1, eA, x0, x1, hl1, hi1⟩ := at_T153 H1.out (i : Int) ci ci2
   have ex : rd_T153 (markL mkEv lnEv xs m) (i : Int) = mkEv xs[i] (endL lnEv (xs.take i) m) := by unfold rd_T153; rw [Int.toNat_natCast, List.getD_eq_getElem?_getD, List.getElem?_eq_getElem (by rw [HN.out]; exact hj), Option.getD_some, markL_at mkEv lnEv xs m i hj]; rfl
   have ci3 : (i : Int) < (xs.length : Int) := by omega
   have hes := sumL_succ lnEv xs i hj
   have hen : endL lnEv (xs.take i) m + lnEv xs[i] = endL lnEv (xs.take (i + 1)) m := by unfold endL; omega
   have hle := sumL_take_le lnEv xs (i + 1)
   have hb1 : endL lnEv (xs.take (i + 1)) m ≤ 100000000 := by have := HM.out; unfold endL; omega
   clear hes hle
   obtain ⟨y, hy⟩ : ∃ y, xs[i] = y := ⟨_, rfl⟩
   obtain ⟨q0, hq⟩ : ∃ q, endL lnEv (xs.take i) m = q := ⟨_, rfl⟩
   rw [hy, hq] at ex
   rw [hy, hq] at hen
   rw [hq]
   rw [ex, Int.toNat_natCast] at x0
   rw [ex] at hl1 hi1 x1
   cases eA
   clear hq ex hy ci2
   unfold mkEv at x0 x1 hl1 hi1
   simp only [marksB_length, marksU_length, markL_length] at x0 x1
   try rw [Int.toNat_natCast] at x1
   have hal : ∀ {a : Addr} {z : Value}, w.cell? a = some z → wr.cell? a = some z := fun hz => (HB.out.cell (World.block_lt_of_cell? w _ hz)).trans hz
   replace x0 := hal x0
   replace x1 := hal x1
   clear hal
   obtain ⟨q1, e0⟩ : ∃ q, q0 + 1 = q := ⟨_, rfl⟩
   obtain ⟨q2, e1⟩ : ∃ q, q1 + y.f1.length = q := ⟨_, rfl⟩
   have hlast : q2 = endL lnEv (xs.take (i + 1)) m := by rw [← hen]; unfold lnEv; omega
   rw [← hlast] at hb1
   have hp : q1 = q0 + 1 ∧ q2 = q1 + y.f1.length := ⟨e0.symm, e1.symm⟩
   rw [show q0 + 1 = q1 by omega] at hl1 hi1
   have w0 : q0 < 9223372036854775807 := by omega
   have K1 := Aside0.mk (fun (W : World) (hW : Below w.heap.size w W) => heldByteS_m A1 a1 y.f1.length q1 q2 W (Kd.C_below hi1 hW) hl1 (by omega) e1)
   have n2 : decide ((q2 : Int) < 0) = false := decide_eq_false (by omega)
   have HJ2 := Aside0.mk (show i + 1 ≤ xs.length by omega)
   have v0 : IntKind.i64.wrap ((q0 : Int) + 1) = (q1 : Int) := (i64_w _).trans ((wrap_upL _ w0).trans (by rw [← e0]))
   have vv0 : wrap64 ((q0 : Int) + 1) = (q1 : Int) := (wrap_upL _ w0).trans (by rw [← e0])
   clear w0
   have HLA := Aside0.mk hlast
   clear hen hb1 hlast hp e0 e1 hl1 hi1
   go_wp2_with fail
   refine (K1.out _ HB.out).mono ?_
   rintro r W1 ⟨rfl, hb⟩
   replace HB := Aside0.mk (below_step HB.out hb)
   clear hb x1 K1
   go_wp2_with fail
   clear v0 vv0
   have hxb := HX.out
   have hj3 := HJ2.out
   go_roundg k1
   case measure => omega
   case rel => exact ⟨i + 1, by rw [HLA.out], by first | exact congrArg (Value.int .i64) (wrap_upL i (by omega)) | exact congrArg (Value.int .i64) ((i64_w _).trans (wrap_upL i (by omega))), ⟨⟨by omega, by omega⟩⟩, HB⟩
  ·
   have c1 : decide ((i : Int) < (xs.length : Int)) = false := decide_eq_false (by omega)
   have c2 : decide (i < xs.length) = false := decide_eq_false hj
   go_wp2_with fail
   go_ret
   refine ⟨?_, HB.out⟩
   rw [show endL lnEv (xs.take i) m = e by rw [List.take_of_length_le (by omega)]; exact HE.out]
   rfl
set_option maxHeartbeats 4000000 in
set_option maxRecDepth 100000 in
theorem heldSessionS_m (A : Option Addr) (c : Nat) (xs : List Se) (m e : Nat) (w : World) (h1 : Kd.C kSe w A (markL mkSe lnSe xs m).length (markL mkSe lnSe xs m)) (k1 : (markL mkSe lnSe xs m).length ≤ c) (hm : m + sumL lnSe xs ≤ 100000000) (he : m + sumL lnSe xs = e) :
  Calls Tryz.prog 42 #[.slice A xs.length c, .int .i64 m] w fun r w' => r = .returned (.int .i64 (e : Int)) ∧ Below w.heap.size w w' := by
 have H1 := Aside0.mk h1
 have HM := Aside0.mk hm
 have HE := Aside0.mk he
 have HN : (markL mkSe lnSe xs m).length = xs.length := markL_length mkSe lnSe xs m
 have hmx : xs.length ≤ 100000000 := by
  have : ∀ zs : List Se, zs.length ≤ sumL lnSe zs := by
   intro zs
   induction zs with
   | nil => simp [sumL]
   | cons z zs ih => simp only [sumL, List.length_cons]; have : 1 ≤ lnSe z := by { unfold lnSe; omega }; omega
  have := this xs
  omega
 have HN := Aside0.mk HN
 have HX := Aside0.mk hmx
 clear h1 k1 hm he hmx
 go_enter Tryz.func42, Tryz.ntmps42
 go_wp2_with fail
 go_loopg [1, 5] (xs.length + 1) (fun kq v1 v5 w' => ∃ i : Nat, v1 = .int .i64 ((endL lnSe (xs.take i) m : Nat) : Int) ∧ v5 = .int .i64 i ∧ Aside0 (kq + i = xs.length + 1 ∧ i ≤ xs.length) ∧ Aside0 (Below w.heap.size w w'))
 case atStart => exact ⟨0, by simp [endL, sumL], rfl, ⟨⟨by omega, by omega⟩⟩, ⟨Below.refl _ _⟩⟩
 case round =>
  obtain ⟨i, rfl, rfl, HJ, HB⟩ := hrel
  have hj0 := HJ.out
  by_cases hj : i < xs.length
  ·
   obtain ⟨k1, rfl⟩ : ∃ k1, gk = k1 + 1 := ⟨gk - 1, by omega⟩
   have c1 : decide ((i : Int) < (xs.length : Int)) = true := decide_eq_true (by omega)
   have c2 : decide (i < xs.length) = true := decide_eq_true hj
   have ci : (0 : Int) ≤ (i : Int) := by omega
   have ci2 : (i : Int) < ((markL mkSe lnSe xs m).length : Int) := by rw [HN.out]; omega
   obtain ⟨ad, A2, a2, eA, x0, x1, x2, hl2, hi2⟩ := at_T90 H1.out (i : Int) ci ci2
   have ex : rd_T90 (markL mkSe lnSe xs m) (i : Int) = mkSe xs[i] (endL lnSe (xs.take i) m) := by unfold rd_T90; rw [Int.toNat_natCast, List.getD_eq_getElem?_getD, List.getElem?_eq_getElem (by rw [HN.out]; exact hj), Option.getD_some, markL_at mkSe lnSe xs m i hj]; rfl
   have ci3 : (i : Int) < (xs.length : Int) := by omega
   have hes := sumL_succ lnSe xs i hj
   have hen : endL lnSe (xs.take i) m + lnSe xs[i] = endL lnSe (xs.take (i + 1)) m := by unfold endL; omega
   have hle := sumL_take_le lnSe xs (i + 1)
   have hb1 : endL lnSe (xs.take (i + 1)) m ≤ 100000000 := by have := HM.out; unfold endL; omega
   clear hes hle
   obtain ⟨y, hy⟩ : ∃ y, xs[i] = y := ⟨_, rfl⟩
   obtain ⟨q0, hq⟩ : ∃ q, endL lnSe (xs.take i) m = q := ⟨_, rfl⟩
   rw [hy, hq] at ex
   rw [hy, hq] at hen
   rw [hq]
   rw [ex, Int.toNat_natCast] at x0
   rw [ex] at hl2 hi2 x1 x2
   cases eA
   clear hq ex hy ci2
   unfold mkSe at x0 x1 x2 hl2 hi2
   simp only [marksB_length, marksU_length, markL_length] at x0 x1 x2
   try rw [Int.toNat_natCast] at x1
   try rw [Int.toNat_natCast] at x2
   have hal : ∀ {a : Addr} {z : Value}, w.cell? a = some z → wr.cell? a = some z := fun hz => (HB.out.cell (World.block_lt_of_cell? w _ hz)).trans hz
   replace x0 := hal x0
   replace x1 := hal x1
   replace x2 := hal x2
   clear hal
   obtain ⟨q1, e0⟩ : ∃ q, q0 + 1 = q := ⟨_, rfl⟩
   obtain ⟨q2, e1⟩ : ∃ q, q1 + 1 = q := ⟨_, rfl⟩
   obtain ⟨q3, e2⟩ : ∃ q, q2 + sumL lnEv y.f2 = q := ⟨_, rfl⟩
   have hlast : q3 = endL lnSe (xs.take (i + 1)) m := by rw [← hen]; unfold lnSe; omega
   rw [← hlast] at hb1
   have hp : q1 = q0 + 1 ∧ q2 = q1 + 1 ∧ q3 = q2 + sumL lnEv y.f2 := ⟨e0.symm, e1.symm, e2.symm⟩
   rw [show q0 + 1 = q1 by omega] at x1
   rw [show q0 + 2 = q2 by omega] at hl2 hi2
   have w0 : q0 < 9223372036854775807 := by omega
   have z0 : q0 ≤ 140737488355328 := by omega
   have w1 : q1 < 9223372036854775807 := by omega
   have K2 := Aside0.mk (fun (W : World) (hW : Below w.heap.size w W) => heldEventS_m A2 a2 y.f2 q2 q3 W (Kd.C_below hi2 hW) hl2 (by omega) e2)
   have n3 : decide ((q3 : Int) < 0) = false := decide_eq_false (by omega)
   have HJ2 := Aside0.mk (show i + 1 ≤ xs.length by omega)
   have u0 : IntKind.u64.wrap (q0 : Int) = (q0 : Int) := u64_id _ z0
   clear z0
   have v0 : IntKind.i64.wrap ((q0 : Int) + 1) = (q1 : Int) := (i64_w _).trans ((wrap_upL _ w0).trans (by rw [← e0]))
   have vv0 : wrap64 ((q0 : Int) + 1) = (q1 : Int) := (wrap_upL _ w0).trans (by rw [← e0])
   clear w0
   have v1 : IntKind.i64.wrap ((q1 : Int) + 1) = (q2 : Int) := (i64_w _).trans ((wrap_upL _ w1).trans (by rw [← e1]))
   have vv1 : wrap64 ((q1 : Int) + 1) = (q2 : Int) := (wrap_upL _ w1).trans (by rw [← e1])
   clear w1
   have HLA := Aside0.mk hlast
   clear hen hb1 hlast hp e0 e1 e2 hl2 hi2
   go_wp2_with fail
   refine (K2.out _ HB.out).mono ?_
   rintro r W1 ⟨rfl, hb⟩
   replace HB := Aside0.mk (below_step HB.out hb)
   clear hb x2 K2
   go_wp2_with fail
   clear u0 v0 vv0 v1 vv1
   have hxb := HX.out
   have hj3 := HJ2.out
   go_roundg k1
   case measure => omega
   case rel => exact ⟨i + 1, by rw [HLA.out], by first | exact congrArg (Value.int .i64) (wrap_upL i (by omega)) | exact congrArg (Value.int .i64) ((i64_w _).trans (wrap_upL i (by omega))), ⟨⟨by omega, by omega⟩⟩, HB⟩
  ·
   have c1 : decide ((i : Int) < (xs.length : Int)) = false := decide_eq_false (by omega)
   have c2 : decide (i < xs.length) = false := decide_eq_false hj
   go_wp2_with fail
   go_ret
   refine ⟨?_, HB.out⟩
   rw [show endL lnSe (xs.take i) m = e by rw [List.take_of_length_le (by omega)]; exact HE.out]
   rfl
set_option maxHeartbeats 4000000 in
set_option maxRecDepth 100000 in
theorem heldNodeS_m (A : Option Addr) (c : Nat) (xs : List No) (m e : Nat) (w : World) (h1 : Kd.C kNo w A (markL mkNo lnNo xs m).length (markL mkNo lnNo xs m)) (k1 : (markL mkNo lnNo xs m).length ≤ c) (hm : m + sumL lnNo xs ≤ 100000000) (he : m + sumL lnNo xs = e) :
  Calls Tryz.prog 43 #[.slice A xs.length c, .int .i64 m] w fun r w' => r = .returned (.int .i64 (e : Int)) ∧ Below w.heap.size w w' := by
 have H1 := Aside0.mk h1
 have HM := Aside0.mk hm
 have HE := Aside0.mk he
 have HN : (markL mkNo lnNo xs m).length = xs.length := markL_length mkNo lnNo xs m
 have hmx : xs.length ≤ 100000000 := by
  have : ∀ zs : List No, zs.length ≤ sumL lnNo zs := by
   intro zs
   induction zs with
   | nil => simp [sumL]
   | cons z zs ih => simp only [sumL, List.length_cons]; have : 1 ≤ lnNo z := by { unfold lnNo; omega }; omega
  have := this xs
  omega
 have HN := Aside0.mk HN
 have HX := Aside0.mk hmx
 clear h1 k1 hm he hmx
 go_enter Tryz.func43, Tryz.ntmps43
 go_wp2_with fail
 go_loopg [1, 5] (xs.length + 1) (fun kq v1 v5 w' => ∃ i : Nat, v1 = .int .i64 ((endL lnNo (xs.take i) m : Nat) : Int) ∧ v5 = .int .i64 i ∧ Aside0 (kq + i = xs.length + 1 ∧ i ≤ xs.length) ∧ Aside0 (Below w.heap.size w w'))
 case atStart => exact ⟨0, by simp [endL, sumL], rfl, ⟨⟨by omega, by omega⟩⟩, ⟨Below.refl _ _⟩⟩
 case round =>
  obtain ⟨i, rfl, rfl, HJ, HB⟩ := hrel
  have hj0 := HJ.out
  by_cases hj : i < xs.length
  ·
   obtain ⟨k1, rfl⟩ : ∃ k1, gk = k1 + 1 := ⟨gk - 1, by omega⟩
   have c1 : decide ((i : Int) < (xs.length : Int)) = true := decide_eq_true (by omega)
   have c2 : decide (i < xs.length) = true := decide_eq_true hj
   have ci : (0 : Int) ≤ (i : Int) := by omega
   have ci2 : (i : Int) < ((markL mkNo lnNo xs m).length : Int) := by rw [HN.out]; omega
   obtain ⟨ad, A0, a0, A1, a1, A4, a4, A7, a7, eA, x0, x1, x2, x3, x4, x5, x6, x7, hl0, hi0, hl1, hi1, hl4, hi4, hl7, hi7⟩ := at_T93 H1.out (i : Int) ci ci2
   have ex : rd_T93 (markL mkNo lnNo xs m) (i : Int) = mkNo xs[i] (endL lnNo (xs.take i) m) := by unfold rd_T93; rw [Int.toNat_natCast, List.getD_eq_getElem?_getD, List.getElem?_eq_getElem (by rw [HN.out]; exact hj), Option.getD_some, markL_at mkNo lnNo xs m i hj]; rfl
   have ci3 : (i : Int) < (xs.length : Int) := by omega
   have hes := sumL_succ lnNo xs i hj
   have hen : endL lnNo (xs.take i) m + lnNo xs[i] = endL lnNo (xs.take (i + 1)) m := by unfold endL; omega
   have hle := sumL_take_le lnNo xs (i + 1)
   have hb1 : endL lnNo (xs.take (i + 1)) m ≤ 100000000 := by have := HM.out; unfold endL; omega
   clear hes hle
   obtain ⟨y, hy⟩ : ∃ y, xs[i] = y := ⟨_, rfl⟩
   obtain ⟨q0, hq⟩ : ∃ q, endL lnNo (xs.take i) m = q := ⟨_, rfl⟩
   rw [hy, hq] at ex
   rw [hy, hq] at hen
   rw [hq]
   rw [ex, Int.toNat_natCast] at x0
   rw [ex] at hl0 hi0 hl1 hi1 hl4 hi4 hl7 hi7 x1 x2 x3 x4 x5 x6 x7
   cases eA
   clear hq ex hy ci2
   unfold mkNo at x0 x1 x2 x3 x4 x5 x6 x7 hl0 hi0 hl1 hi1 hl4 hi4 hl7 hi7
   simp only [marksB_length, marksU_length, markL_length] at x0 x1 x2 x3 x4 x5 x6 x7
   try rw [Int.toNat_natCast] at x1
   try rw [Int.toNat_natCast] at x2
   try rw [Int.toNat_natCast] at x3
   try rw [Int.toNat_natCast] at x4
   try rw [Int.toNat_natCast] at x5
   try rw [Int.toNat_natCast] at x6
   try rw [Int.toNat_natCast] at x7
   have hal : ∀ {a : Addr} {z : Value}, w.cell? a = some z → wr.cell? a = some z := fun hz => (HB.out.cell (World.block_lt_of_cell? w _ hz)).trans hz
   replace x0 := hal x0
   replace x1 := hal x1
   replace x2 := hal x2
   replace x3 := hal x3
   replace x4 := hal x4
   replace x5 := hal x5
   replace x6 := hal x6
   replace x7 := hal x7
   clear hal
   obtain ⟨q1, e0⟩ : ∃ q, q0 + y.f0.length = q := ⟨_, rfl⟩
   obtain ⟨q2, e1⟩ : ∃ q, q1 + y.f1.length = q := ⟨_, rfl⟩
   obtain ⟨q3, e2⟩ : ∃ q, q2 + 1 = q := ⟨_, rfl⟩
   obtain ⟨q4, e3⟩ : ∃ q, q3 + 1 = q := ⟨_, rfl⟩
   obtain ⟨q5, e4⟩ : ∃ q, q4 + y.f4.length = q := ⟨_, rfl⟩
   obtain ⟨q6, e5⟩ : ∃ q, q5 + 1 = q := ⟨_, rfl⟩
   obtain ⟨q7, e6⟩ : ∃ q, q6 + 1 = q := ⟨_, rfl⟩
   obtain ⟨q8, e7⟩ : ∃ q, q7 + y.f7.length = q := ⟨_, rfl⟩
   have hlast : q8 = endL lnNo (xs.take (i + 1)) m := by rw [← hen]; unfold lnNo; omega
   rw [← hlast] at hb1
   have hp : q1 = q0 + y.f0.length ∧ q2 = q1 + y.f1.length ∧ q3 = q2 + 1 ∧ q4 = q3 + 1 ∧ q5 = q4 + y.f4.length ∧ q6 = q5 + 1 ∧ q7 = q6 + 1 ∧ q8 = q7 + y.f7.length := ⟨e0.symm, e1.symm, e2.symm, e3.symm, e4.symm, e5.symm, e6.symm, e7.symm⟩
   rw [show q0 + y.f0.length = q1 by omega] at hl1 hi1
   rw [show q0 + y.f0.length + y.f1.length = q2 by omega] at x2
   rw [show q0 + y.f0.length + y.f1.length + 1 = q3 by omega] at x3
   rw [show q0 + y.f0.length + y.f1.length + 2 = q4 by omega] at hl4 hi4
   rw [show q0 + y.f0.length + y.f1.length + 2 + y.f4.length = q5 by omega] at x5
   rw [show q0 + y.f0.length + y.f1.length + 3 + y.f4.length = q6 by omega] at x6
   rw [show q0 + y.f0.length + y.f1.length + 4 + y.f4.length = q7 by omega] at hl7 hi7
   have K0 := Aside0.mk (fun (W : World) (hW : Below w.heap.size w W) => heldByteS_m A0 a0 y.f0.length q0 q1 W (Kd.C_below hi0 hW) hl0 (by omega) e0)
   have n1 : decide ((q1 : Int) < 0) = false := decide_eq_false (by omega)
   have K1 := Aside0.mk (fun (W : World) (hW : Below w.heap.size w W) => heldByteS_m A1 a1 y.f1.length q1 q2 W (Kd.C_below hi1 hW) hl1 (by omega) e1)
   have n2 : decide ((q2 : Int) < 0) = false := decide_eq_false (by omega)
   have w2 : q2 < 9223372036854775807 := by omega
   have z2 : q2 ≤ 140737488355328 := by omega
   have w3 : q3 < 9223372036854775807 := by omega
   have K4 := Aside0.mk (fun (W : World) (hW : Below w.heap.size w W) => heldUint64S_m A4 a4 y.f4.length q4 q5 W (Kd.C_below hi4 hW) hl4 (by omega) e4)
   have n5 : decide ((q5 : Int) < 0) = false := decide_eq_false (by omega)
   have w5 : q5 < 9223372036854775807 := by omega
   have z5 : q5 ≤ 140737488355328 := by omega
   have w6 : q6 < 9223372036854775807 := by omega
   have z6 : q6 ≤ 140737488355328 := by omega
   have K7 := Aside0.mk (fun (W : World) (hW : Below w.heap.size w W) => heldUint64S_m A7 a7 y.f7.length q7 q8 W (Kd.C_below hi7 hW) hl7 (by omega) e7)
   have n8 : decide ((q8 : Int) < 0) = false := decide_eq_false (by omega)
   have HJ2 := Aside0.mk (show i + 1 ≤ xs.length by omega)
   have u2 : IntKind.u64.wrap (q2 : Int) = (q2 : Int) := u64_id _ z2
   clear z2
   have v2 : IntKind.i64.wrap ((q2 : Int) + 1) = (q3 : Int) := (i64_w _).trans ((wrap_upL _ w2).trans (by rw [← e2]))
   have vv2 : wrap64 ((q2 : Int) + 1) = (q3 : Int) := (wrap_upL _ w2).trans (by rw [← e2])
   clear w2
   have v3 : IntKind.i64.wrap ((q3 : Int) + 1) = (q4 : Int) := (i64_w _).trans ((wrap_upL _ w3).trans (by rw [← e3]))
   have vv3 : wrap64 ((q3 : Int) + 1) = (q4 : Int) := (wrap_upL _ w3).trans (by rw [← e3])
   clear w3
   have u5 : IntKind.u64.wrap (q5 : Int) = (q5 : Int) := u64_id _ z5
   clear z5
   have v5 : IntKind.i64.wrap ((q5 : Int) + 1) = (q6 : Int) := (i64_w _).trans ((wrap_upL _ w5).trans (by rw [← e5]))
   have vv5 : wrap64 ((q5 : Int) + 1) = (q6 : Int) := (wrap_upL _ w5).trans (by rw [← e5])
   clear w5
   have u6 : IntKind.u64.wrap (q6 : Int) = (q6 : Int) := u64_id _ z6
   clear z6
   have v6 : IntKind.i64.wrap ((q6 : Int) + 1) = (q7 : Int) := (i64_w _).trans ((wrap_upL _ w6).trans (by rw [← e6]))
   have vv6 : wrap64 ((q6 : Int) + 1) = (q7 : Int) := (wrap_upL _ w6).trans (by rw [← e6])
   clear w6
   have HLA := Aside0.mk hlast
   clear hen hb1 hlast hp e0 e1 e2 e3 e4 e5 e6 e7 hl0 hi0 hl1 hi1 hl4 hi4 hl7 hi7
   go_wp2_with fail
   refine (K0.out _ HB.out).mono ?_
   rintro r W1 ⟨rfl, hb⟩
   replace x1 := (hb.cell (World.block_lt_of_cell? _ _ x1)).trans x1
   replace x2 := (hb.cell (World.block_lt_of_cell? _ _ x2)).trans x2
   replace x3 := (hb.cell (World.block_lt_of_cell? _ _ x3)).trans x3
   replace x4 := (hb.cell (World.block_lt_of_cell? _ _ x4)).trans x4
   replace x5 := (hb.cell (World.block_lt_of_cell? _ _ x5)).trans x5
   replace x6 := (hb.cell (World.block_lt_of_cell? _ _ x6)).trans x6
   replace x7 := (hb.cell (World.block_lt_of_cell? _ _ x7)).trans x7
   replace HB := Aside0.mk (below_step HB.out hb)
   clear hb x0 K0
   go_wp2_with fail
   refine (K1.out _ HB.out).mono ?_
   rintro r W2 ⟨rfl, hb⟩
   replace x2 := (hb.cell (World.block_lt_of_cell? _ _ x2)).trans x2
   replace x3 := (hb.cell (World.block_lt_of_cell? _ _ x3)).trans x3
   replace x4 := (hb.cell (World.block_lt_of_cell? _ _ x4)).trans x4
   replace x5 := (hb.cell (World.block_lt_of_cell? _ _ x5)).trans x5
   replace x6 := (hb.cell (World.block_lt_of_cell? _ _ x6)).trans x6
   replace x7 := (hb.cell (World.block_lt_of_cell? _ _ x7)).trans x7
   replace HB := Aside0.mk (below_step HB.out hb)
   clear hb x1 K1
   go_wp2_with fail
   refine (K4.out _ HB.out).mono ?_
   rintro r W3 ⟨rfl, hb⟩
   replace x5 := (hb.cell (World.block_lt_of_cell? _ _ x5)).trans x5
   replace x6 := (hb.cell (World.block_lt_of_cell? _ _ x6)).trans x6
   replace x7 := (hb.cell (World.block_lt_of_cell? _ _ x7)).trans x7
   replace HB := Aside0.mk (below_step HB.out hb)
   clear hb x4 K4
   go_wp2_with fail
   refine (K7.out _ HB.out).mono ?_
   rintro r W4 ⟨rfl, hb⟩
   replace HB := Aside0.mk (below_step HB.out hb)
   clear hb x7 K7
   go_wp2_with fail
   clear u2 v2 vv2 v3 vv3 u5 v5 vv5 u6 v6 vv6
   have hxb := HX.out
   have hj3 := HJ2.out
   go_roundg k1
   case measure => omega
   case rel => exact ⟨i + 1, by rw [HLA.out], by first | exact congrArg (Value.int .i64) (wrap_upL i (by omega)) | exact congrArg (Value.int .i64) ((i64_w _).trans (wrap_upL i (by omega))), ⟨⟨by omega, by omega⟩⟩, HB⟩
  ·
   have c1 : decide ((i : Int) < (xs.length : Int)) = false := decide_eq_false (by omega)
   have c2 : decide (i < xs.length) = false := decide_eq_false hj
   go_wp2_with fail
   go_ret
   refine ⟨?_, HB.out⟩
   rw [show endL lnNo (xs.take i) m = e by rw [List.take_of_length_le (by omega)]; exact HE.out]
   rfl
set_option maxHeartbeats 4000000 in
set_option maxRecDepth 100000 in
theorem heldState_m (e g n t : Int) (As : Option Addr) (cs : Nat) (xs : List Se) (An : Option Addr) (cn : Nat) (ns : List No) (m : Nat) (w : World) (h1 : Kd.C kSe w As (markL mkSe lnSe xs m).length (markL mkSe lnSe xs m)) (k1 : (markL mkSe lnSe xs m).length ≤ cs) (h2 : Kd.C kNo w An (markL mkNo lnNo ns (m + sumL lnSe xs)).length (markL mkNo lnNo ns (m + sumL lnSe xs))) (k2 : (markL mkNo lnNo ns (m + sumL lnSe xs)).length ≤ cn) (hm : m + sumL lnSe xs + sumL lnNo ns ≤ 100000000) :
  Calls Tryz.prog 12 #[.agg #[.int .u64 e, .int .u64 g, .int .u64 n, .int .i64 t, .slice As xs.length cs, .slice An ns.length cn], .int .i64 m] w fun r w' => r = .returned (.int .i64 ((m + sumL lnSe xs + sumL lnNo ns : Nat) : Int)) ∧ Below w.heap.size w w' := by
 obtain ⟨q1, e1⟩ : ∃ q, m + sumL lnSe xs = q := ⟨_, rfl⟩
 rw [e1] at h2 k2 hm ⊢
 obtain ⟨q2, e2⟩ : ∃ q, q1 + sumL lnNo ns = q := ⟨_, rfl⟩
 rw [e2] at hm ⊢
 have K1 := Aside0.mk (fun (W : World) (hW : Below w.heap.size w W) => heldSessionS_m As cs xs m q1 W (Kd.C_below h1 hW) k1 (by omega) e1)
 have K2 := Aside0.mk (fun (W : World) (hW : Below w.heap.size w W) => heldNodeS_m An cn ns q1 q2 W (Kd.C_below h2 hW) k2 (by omega) e2)
 have n1 : decide ((q1 : Int) < 0) = false := decide_eq_false (by omega)
 have n2 : decide ((q2 : Int) < 0) = false := decide_eq_false (by omega)
 clear h1 k1 h2 k2 hm e1 e2
 go_enter Tryz.func12, Tryz.ntmps12
 go_upto_region 1 with (fail)
 have bs := blk_new w (.cells #[.int .u64 e, .int .u64 g, .int .u64 n, .int .i64 t, .slice As xs.length cs, .slice An ns.length cn] 31)
 have hB := below_alloc (Below.refl w.heap.size w) (.cells #[.int .u64 e, .int .u64 g, .int .u64 n, .int .i64 t, .slice As xs.length cs, .slice An ns.length cn] 31)
 generalize w.alloc (.cells #[.int .u64 e, .int .u64 g, .int .u64 n, .int .i64 t, .slice As xs.length cs, .slice An ns.length cn] 31) = W0 at *
 have BS := Aside0.mk bs
 have HB := Aside0.mk hB
 clear bs hB
 obtain ⟨s0, s1, s2, s3, s4, s5⟩ := cells6 BS.out
 go_wp2_with fail
 refine (K1.out _ HB.out).mono ?_
 rintro r W1 ⟨rfl, hb⟩
 clear s0 s1 s2 s3 s4 s5
 replace BS := Aside0.mk (blk_below BS.out hb)
 replace HB := Aside0.mk (below_step HB.out hb)
 clear hb
 obtain ⟨s0, s1, s2, s3, s4, s5⟩ := cells6 BS.out
 go_wp2_with fail
 refine (K2.out _ HB.out).mono ?_
 rintro r W2 ⟨rfl, hb⟩
 clear s0 s1 s2 s3 s4 s5
 replace HB := Aside0.mk (below_step HB.out hb)
 clear hb BS
 go_wp2_with fail
 go_ret
 exact ⟨rfl, HB.out⟩
theorem heldState_sk (w0 : World) (lo hi : Nat) (e g n t : Int) (As : Option Addr) (cs : Nat) (xs : List Se) (An : Option Addr) (cn : Nat) (ns : List No) (m : Nat) (w : World) (h : SK w0 w lo hi As cs (markL mkSe lnSe xs m) An cn (markL mkNo lnNo ns (m + sumL lnSe xs))) (hm : m + sumL lnSe xs + sumL lnNo ns ≤ 100000000) :
  Calls Tryz.prog 12 #[.agg #[.int .u64 e, .int .u64 g, .int .u64 n, .int .i64 t, .slice As xs.length cs, .slice An ns.length cn], .int .i64 m] w fun r w' => r = .returned (.int .i64 ((m + sumL lnSe xs + sumL lnNo ns : Nat) : Int)) ∧ Below w.heap.size w w' :=
 heldState_m e g n t As cs xs An cn ns m w h.reads.1.1 h.reads.1.2 h.reads.2.1 h.reads.2.2 hm
set_option maxHeartbeats 8000000 in
set_option maxRecDepth 100000 in
theorem FnExactRegrace_walk (HV : ValIC) (e g n t now : Int) (As : Option Addr) (cs : Nat) (xs : List SeL) (An : Option Addr) (cn : Nat) (ns : List NoL) (w : World) (h1 : Kd.C kSeL w As xs.length xs) (hc1 : xs.length ≤ cs) (h2 : Kd.C kNoL w An ns.length ns) (hc2 : ns.length ≤ cn) (gx : ∀ x ∈ xs, gSe x) (gn : ∀ x ∈ ns, gNo x) :
  Calls Tryz.prog 3 #[.agg #[.int .u64 e, .int .u64 g, .int .u64 n, .int .i64 t, .slice As xs.length cs, .slice An ns.length cn], .int .i64 now] w fun r w' => r = .returned (.bool true) ∧ Below w.heap.size w w' := by
 have SZ := Aside0.mk (fun (W : World) (hW : Below w.heap.size w W) => szState_w e g n t xs ns As cs An cn 1048576 (by decide) (by decide) W (Kd.C_below h1 hW) hc1 (Kd.C_below h2 hW) hc2)
 have H1 := Aside0.mk (And.intro h1 hc1)
 have H2 := Aside0.mk (And.intro h2 hc2)
 have HGX := Aside0.mk (And.intro gx gn)
 clear h1 hc1 h2 hc2 gx gn
 go_enter Tryz.func3, Tryz.ntmps3
 go_wp2_with fail
 refine (SZ.out _ (below_alloc (Below.refl w.heap.size w) _)).mono ?_
 rintro r w1 ⟨⟨r0, rfl, hcase⟩, hb⟩
 have HCA := Aside0.mk hcase
 have HB := Aside0.mk (below_step (below_alloc (Below.refl w.heap.size w) _) hb)
 have X := Aside0.mk (blk_below (blk_new w (.cells #[.int .u64 e, .int .u64 g, .int .u64 n, .int .i64 t, (.slice As xs.length cs), (.slice An ns.length cn)] 26)) hb)
 have s1 := hb.size
 simp only [World.size_alloc] at s1
 clear hb SZ hcase
 by_cases hr : r0 < 0
 case pos =>
  have d0 : decide (r0 < 0) = true := decide_eq_true hr
  go_wp2_with fail
  go_ret
  exact ⟨rfl, HB.out⟩
 have d0 : decide (r0 < 0) = false := decide_eq_false hr
 have hw : xs.length + pS xs + ns.length + pN ns ≤ 1048576 := by
  rcases HCA.out with h | ⟨_, a⟩
  ·
   exact absurd h hr
  ·
   omega
 have hsm := smS_of hw HGX.out.1 HGX.out.2
 have hrg := rgS_of HGX.out.1 HGX.out.2
 have hsum : 1 + sumL lnSe (xs.map toSe) + sumL lnNo (ns.map toNo) ≤ 100000000 := by rw [sumSe_of, sumNo_of]; omega
 have hs4 : sumL lnSe (xs.map toSe) + sumL lnNo (ns.map toNo) ≤ 4194305 := by rw [sumSe_of, sumNo_of]; omega
 have hq1 : pS xs ≤ 1048576 := by omega
 have hq2 : pN ns ≤ 1048576 := by omega
 have EQ := Aside0.mk (eqB_of hsm)
 have TS := Aside0.mk (fun (W : World) (hW : Below w.heap.size w W) => toState_ok w e g n t As cs xs An cn ns W hW (Kd.C_below H1.out.1 hW) H1.out.2 (by omega) (smSe_of hq1) (Kd.C_below H2.out.1 hW) H2.out.2 (by omega) (smNo_of hq2))
 have SP := Aside0.mk (fun (Bs : Option Addr) (ds : Nat) (Bn : Option Addr) (dn : Nat) (W : World) (hW : Below w.heap.size w W) (k1 : Kd.C kSe W Bs (xs.map toSe).length (xs.map toSe)) (k2 : (xs.map toSe).length ≤ ds) (k3 : Kd.C kNo W Bn (ns.map toNo).length (ns.map toNo)) (k4 : (ns.map toNo).length ≤ dn) => spec_Regrace_ok w e g n t now Bs ds (xs.map toSe) Bn dn (ns.map toNo) W k1 k2 k3 k4 hsm hW)
 have IM := Aside0.mk (fun (Bs : Option Addr) (ds : Nat) (Bn : Option Addr) (dn : Nat) (W : World) (hW : Below w.heap.size w W) (k1 : Kd.C kSe W Bs (xs.map toSe).length (xs.map toSe)) (k2 : (xs.map toSe).length ≤ ds) (k3 : Kd.C kNo W Bn (ns.map toNo).length (ns.map toNo)) (k4 : (ns.map toNo).length ≤ dn) => impl_Regrace_ok HV w e g n t now Bs ds (xs.map toSe) Bn dn (ns.map toNo) W k1 k2 k3 k4 hsm hrg hW)
 have hok := rgA_ok e g n t now (xs.map toSe) (ns.map toNo) hsm
 obtain ⟨X_, hX⟩ : ∃ X, xs.map toSe = X := ⟨_, rfl⟩
 obtain ⟨N_, hN⟩ : ∃ N, ns.map toNo = N := ⟨_, rfl⟩
 simp only [hX, hN] at TS SP IM EQ hsum hok
 have MK := Aside0.mk (fun (lo hi : Nat) (As : Option Addr) (cs : Nat) (An : Option Addr) (cn : Nat) (W : World) (hB : Below w.heap.size w W) (h : SK w W lo hi As cs X_ An cn N_) => markState_sk 1 w lo hi e g n t As cs X_ An cn N_ W hB h hsum)
 obtain ⟨mm, hmm⟩ : ∃ m, 1 + sumL lnSe X_ + sumL lnNo N_ = m := ⟨_, rfl⟩
 rw [hmm] at MK
 generalize rgA e g n t now X_ N_ = y at SP IM hok
 obtain ⟨⟨e2, g2, n2, t2, Y, M⟩, d2⟩ := y
 simp only at SP IM hok
 have EQ2 := Aside0.mk (eqB_of hok.1)
 have hsum2 : 1 + sumL lnSe Y + sumL lnNo M ≤ 100000000 := by have := hok.2; omega
 have MK2 := Aside0.mk (fun (lo hi : Nat) (As : Option Addr) (cs : Nat) (An : Option Addr) (cn : Nat) (W : World) (hB : Below w.heap.size w W) (h : SK w W lo hi As cs Y An cn M) => markState_sk 1 w lo hi e2 g2 n2 t2 As cs Y An cn M W hB h hsum2)
 have HD2 := Aside0.mk (fun (lo hi : Nat) (As : Option Addr) (cs : Nat) (An : Option Addr) (cn : Nat) (W : World) (h : SK w W lo hi As cs (markL mkSe lnSe Y 1) An cn (markL mkNo lnNo M (1 + sumL lnSe Y))) => heldState_sk w lo hi e2 g2 n2 t2 As cs Y An cn M 1 W h hsum2)
 obtain ⟨m2, hm2⟩ : ∃ m, 1 + sumL lnSe Y + sumL lnNo M = m := ⟨_, rfl⟩
 rw [hm2] at MK2 HD2
 clear hs4 hq1 hq2 hw hsm hrg hsum hsum2 HCA hr hX hN hmm hm2 hok HGX
 have hneg : decide ((mm : Int) < 0) = false := decide_eq_false (by omega)
 have hneg3 : decide ((m2 : Int) < 0) = false := decide_eq_false (by omega)
 have z1_l := blk_lt X.out
 have z1_0 := blk_cell X.out 0
 have z1_1 := blk_cell X.out 1
 have z1_2 := blk_cell X.out 2
 have z1_3 := blk_cell X.out 3
 have z1_4 := blk_cell X.out 4
 have z1_5 := blk_cell X.out 5
 simp only [List.getElem?_toArray, List.getElem?_cons_zero, List.getElem?_cons_succ] at z1_0 z1_1 z1_2 z1_3 z1_4 z1_5
 go_wp2_with fail
 refine (TS.out _ HB.out).mono ?_
 rintro e w2 ⟨Ts, Tds, Tn, Tdn, rfl, hd, hb⟩
 replace X := Aside0.mk (blk_below X.out hb)
 replace HB := Aside0.mk (below_step HB.out hb)
 have s2 := hb.size
 clear hb
 clear z1_l z1_0 z1_1 z1_2 z1_3 z1_4 z1_5
 (try simp only [World.size_alloc] at hd)
 have DT := Aside0.mk hd
 clear hd
 go_wp2_with fail
 refine (SP.out Ts Tds Tn Tdn _ HB.out (DT.out).reads.1.1 (DT.out).reads.1.2 (DT.out).reads.2.1 (DT.out).reads.2.2).mono ?_
 rintro e w3 ⟨Ws, Wsc, Wn, Wnc, rfl, hd, hb⟩
 clear DT
 replace X := Aside0.mk (blk_below X.out hb)
 replace HB := Aside0.mk (below_step HB.out hb)
 have s3 := hb.size
 clear hb
 (try simp only [World.size_alloc] at hd)
 have DW := Aside0.mk hd
 clear hd
 have z2_l := blk_lt X.out
 have z2_0 := blk_cell X.out 0
 have z2_1 := blk_cell X.out 1
 have z2_2 := blk_cell X.out 2
 have z2_3 := blk_cell X.out 3
 have z2_4 := blk_cell X.out 4
 have z2_5 := blk_cell X.out 5
 simp only [List.getElem?_toArray, List.getElem?_cons_zero, List.getElem?_cons_succ] at z2_0 z2_1 z2_2 z2_3 z2_4 z2_5
 go_wp2_with fail
 have hba := below_alloc (Below.refl w3.heap.size w3) (.cells #[.int .u64 e2, .int .u64 g2, .int .u64 n2, .int .i64 t2, (.slice Ws Y.length Wsc), (.slice Wn M.length Wnc)] 31)
 have NB := Aside0.mk (blk_new w3 (.cells #[.int .u64 e2, .int .u64 g2, .int .u64 n2, .int .i64 t2, (.slice Ws Y.length Wsc), (.slice Wn M.length Wnc)] 31))
 refine (TS.out _ (below_step HB.out hba)).mono ?_
 rintro e w4 ⟨X0s, X0ds, X0n, X0dn, rfl, hd, hb⟩
 replace X := Aside0.mk (blk_below (blk_below X.out hba) hb)
 replace DW := Aside0.mk ((DW.out.below hba).below hb)
 replace HB := Aside0.mk (below_step (below_step HB.out hba) hb)
 have BW := Aside0.mk (blk_below NB.out hb)
 clear NB
 have s4 := hb.size
 simp only [World.size_alloc] at s4
 clear hb hba
 clear z2_l z2_0 z2_1 z2_2 z2_3 z2_4 z2_5
 (try simp only [World.size_alloc] at hd)
 have DX := Aside0.mk hd
 clear hd
 go_wp2_with fail
 have hba := below_alloc (Below.refl w4.heap.size w4) (.cells #[.int .u64 e, .int .u64 g, .int .u64 n, .int .i64 t, (.slice X0s X_.length X0ds), (.slice X0n N_.length X0dn)] 31)
 have NB := Aside0.mk (blk_new w4 (.cells #[.int .u64 e, .int .u64 g, .int .u64 n, .int .i64 t, (.slice X0s X_.length X0ds), (.slice X0n N_.length X0dn)] 31))
 refine (IM.out X0s X0ds X0n X0dn _ (below_step HB.out hba) (DX.out.below hba).reads.1.1 (DX.out.below hba).reads.1.2 (DX.out.below hba).reads.2.1 (DX.out.below hba).reads.2.2).mono ?_
 rintro e w5 ⟨Gs, Gsc, Gn, Gnc, rfl, hd, hb⟩
 replace X := Aside0.mk (blk_below (blk_below X.out hba) hb)
 replace BW := Aside0.mk (blk_below (blk_below BW.out hba) hb)
 replace DW := Aside0.mk ((DW.out.below hba).below hb)
 replace DX := Aside0.mk ((DX.out.below hba).below hb)
 replace HB := Aside0.mk (below_step (below_step HB.out hba) hb)
 have Z := Aside0.mk (blk_below NB.out hb)
 clear NB
 have s5 := hb.size
 simp only [World.size_alloc] at s5
 clear hb hba
 (try simp only [World.size_alloc] at hd)
 have DG := Aside0.mk hd
 clear hd
 have z3_l := blk_lt BW.out
 have z3_0 := blk_cell BW.out 0
 have z3_1 := blk_cell BW.out 1
 have z3_2 := blk_cell BW.out 2
 have z3_3 := blk_cell BW.out 3
 have z3_4 := blk_cell BW.out 4
 have z3_5 := blk_cell BW.out 5
 simp only [List.getElem?_toArray, List.getElem?_cons_zero, List.getElem?_cons_succ] at z3_0 z3_1 z3_2 z3_3 z3_4 z3_5
 go_wp2_with fail
 have hba := below_alloc (Below.refl w5.heap.size w5) (.cells #[.int .u64 e2, .int .u64 g2, .int .u64 n2, .int .i64 t2, (.slice Gs Y.length Gsc), (.slice Gn M.length Gnc)] 31)
 have NB := Aside0.mk (blk_new w5 (.cells #[.int .u64 e2, .int .u64 g2, .int .u64 n2, .int .i64 t2, (.slice Gs Y.length Gsc), (.slice Gn M.length Gnc)] 31))
 refine (eqState_same e2 g2 n2 t2 Y M Gs Gsc Ws Wsc Gn Gnc Wn Wnc _ (DG.out.below hba).reads.1.1 (DG.out.below hba).reads.1.2 (DW.out.below hba).reads.1.1 (DW.out.below hba).reads.1.2 EQ2.out.1 (DG.out.below hba).reads.2.1 (DG.out.below hba).reads.2.2 (DW.out.below hba).reads.2.1 (DW.out.below hba).reads.2.2 EQ2.out.2).mono ?_
 rintro e w6 ⟨rfl, hb⟩
 replace X := Aside0.mk (blk_below (blk_below X.out hba) hb)
 replace BW := Aside0.mk (blk_below (blk_below BW.out hba) hb)
 replace Z := Aside0.mk (blk_below (blk_below Z.out hba) hb)
 replace DW := Aside0.mk ((DW.out.below hba).below hb)
 replace DX := Aside0.mk ((DX.out.below hba).below hb)
 replace DG := Aside0.mk ((DG.out.below hba).below hb)
 replace HB := Aside0.mk (below_step (below_step HB.out hba) hb)
 have BG := Aside0.mk (blk_below NB.out hb)
 clear NB
 have s6 := hb.size
 simp only [World.size_alloc] at s6
 clear hb hba
 clear z3_l z3_0 z3_1 z3_2 z3_3 z3_4 z3_5
 have z4_l := blk_lt X.out
 have z4_0 := blk_cell X.out 0
 have z4_1 := blk_cell X.out 1
 have z4_2 := blk_cell X.out 2
 have z4_3 := blk_cell X.out 3
 have z4_4 := blk_cell X.out 4
 have z4_5 := blk_cell X.out 5
 have z5_l := blk_lt Z.out
 have z5_0 := blk_cell Z.out 0
 have z5_1 := blk_cell Z.out 1
 have z5_2 := blk_cell Z.out 2
 have z5_3 := blk_cell Z.out 3
 have z5_4 := blk_cell Z.out 4
 have z5_5 := blk_cell Z.out 5
 simp only [List.getElem?_toArray, List.getElem?_cons_zero, List.getElem?_cons_succ] at z4_0 z4_1 z4_2 z4_3 z4_4 z4_5 z5_0 z5_1 z5_2 z5_3 z5_4 z5_5
 go_wp2_with fail
 go_region_held3 (fun w' => w'.cell? ⟨w.heap.size, 0, none⟩ = some (.int .u64 e) ∧ w'.cell? ⟨w.heap.size, 1, none⟩ = some (.int .u64 g) ∧ w'.cell? ⟨w.heap.size, 2, none⟩ = some (.int .u64 n) ∧ w'.cell? ⟨w.heap.size, 3, none⟩ = some (.int .i64 t) ∧ w'.cell? ⟨w.heap.size, 4, none⟩ = some ((.slice As xs.length cs)) ∧ w'.cell? ⟨w.heap.size, 5, none⟩ = some ((.slice An ns.length cn)) ∧ w'.cell? ⟨w4.heap.size, 0, none⟩ = some (.int .u64 e) ∧ w'.cell? ⟨w4.heap.size, 1, none⟩ = some (.int .u64 g) ∧ w'.cell? ⟨w4.heap.size, 2, none⟩ = some (.int .u64 n) ∧ w'.cell? ⟨w4.heap.size, 3, none⟩ = some (.int .i64 t) ∧ w'.cell? ⟨w4.heap.size, 4, none⟩ = some ((.slice X0s X_.length X0ds)) ∧ w'.cell? ⟨w4.heap.size, 5, none⟩ = some ((.slice X0n N_.length X0dn))) (first | exact ⟨z4_0, z4_1, z4_2, z4_3, z4_4, z4_5, z5_0, z5_1, z5_2, z5_3, z5_4, z5_5⟩ | exact ⟨z6_0, z6_1, z6_2, z6_3, z6_4, z6_5, z7_0, z7_1, z7_2, z7_3, z7_4, z7_5⟩ | exact ⟨z8_0, z8_1, z8_2, z8_3, z8_4, z8_5, z9_0, z9_1, z9_2, z9_3, z9_4, z9_5⟩) (first | (go_at_call 8; refine (TS.out _ (by with_reducible repeat (first | exact HB.out | apply below_drew1))).mono ?_; rintro e w7 ⟨Vs, Vds, Vn, Vdn, rfl, hd, hb0⟩; have hb : Below w6.heap.size w6 w7 := (by first | exact hb0 | exact (below_drew1 (Below.refl w6.heap.size w6)).trans hb0); clear hb0; replace X := Aside0.mk (blk_below X.out hb); replace BW := Aside0.mk (blk_below BW.out hb); replace Z := Aside0.mk (blk_below Z.out hb); replace BG := Aside0.mk (blk_below BG.out hb); replace DW := Aside0.mk (DW.out.below hb); replace DX := Aside0.mk (DX.out.below hb); replace DG := Aside0.mk (DG.out.below hb); replace HB := Aside0.mk (below_step HB.out hb); have s7 := hb.size; clear hb; (try simp only [World.size_alloc] at hd); have DV := Aside0.mk hd; clear hd; clear z4_l z4_0 z4_1 z4_2 z4_3 z4_4 z4_5 z5_l z5_0 z5_1 z5_2 z5_3 z5_4 z5_5; have z6_l := blk_lt X.out; have z6_0 := blk_cell X.out 0; have z6_1 := blk_cell X.out 1; have z6_2 := blk_cell X.out 2; have z6_3 := blk_cell X.out 3; have z6_4 := blk_cell X.out 4; have z6_5 := blk_cell X.out 5; have z7_l := blk_lt Z.out; have z7_0 := blk_cell Z.out 0; have z7_1 := blk_cell Z.out 1; have z7_2 := blk_cell Z.out 2; have z7_3 := blk_cell Z.out 3; have z7_4 := blk_cell Z.out 4; have z7_5 := blk_cell Z.out 5; simp only [List.getElem?_toArray, List.getElem?_cons_zero, List.getElem?_cons_succ] at z6_0 z6_1 z6_2 z6_3 z6_4 z6_5 z7_0 z7_1 z7_2 z7_3 z7_4 z7_5) | (go_at_call 10; refine (eqState_same e g n t X_ N_ X0s X0ds Vs Vds X0n X0dn Vn Vdn _ (by repeat (first | exact (DX.out).reads.1.1 | refine Kd.C_drew ?_)) DX.out.reads.1.2 (by repeat (first | exact (DV.out).reads.1.1 | refine Kd.C_drew ?_)) DV.out.reads.1.2 EQ.out.1 (by repeat (first | exact (DX.out).reads.2.1 | refine Kd.C_drew ?_)) DX.out.reads.2.2 (by repeat (first | exact (DV.out).reads.2.1 | refine Kd.C_drew ?_)) DV.out.reads.2.2 EQ.out.2).mono ?_; rintro e w8 ⟨rfl, hb0⟩; have hb : Below w7.heap.size w7 w8 := (by first | exact hb0 | exact (below_drew1 (Below.refl w7.heap.size w7)).trans hb0); clear hb0; clear DV; replace X := Aside0.mk (blk_below X.out hb); replace BW := Aside0.mk (blk_below BW.out hb); replace Z := Aside0.mk (blk_below Z.out hb); replace BG := Aside0.mk (blk_below BG.out hb); replace DW := Aside0.mk (DW.out.below hb); replace DX := Aside0.mk (DX.out.below hb); replace DG := Aside0.mk (DG.out.below hb); replace HB := Aside0.mk (below_step HB.out hb); have s8 := hb.size; clear hb; clear z6_l z6_0 z6_1 z6_2 z6_3 z6_4 z6_5 z7_l z7_0 z7_1 z7_2 z7_3 z7_4 z7_5; have z8_l := blk_lt X.out; have z8_0 := blk_cell X.out 0; have z8_1 := blk_cell X.out 1; have z8_2 := blk_cell X.out 2; have z8_3 := blk_cell X.out 3; have z8_4 := blk_cell X.out 4; have z8_5 := blk_cell X.out 5; have z9_l := blk_lt Z.out; have z9_0 := blk_cell Z.out 0; have z9_1 := blk_cell Z.out 1; have z9_2 := blk_cell Z.out 2; have z9_3 := blk_cell Z.out 3; have z9_4 := blk_cell Z.out 4; have z9_5 := blk_cell Z.out 5; simp only [List.getElem?_toArray, List.getElem?_cons_zero, List.getElem?_cons_succ] at z8_0 z8_1 z8_2 z8_3 z8_4 z8_5 z9_0 z9_1 z9_2 z9_3 z9_4 z9_5))
 clear z8_l z8_0 z8_1 z8_2 z8_3 z8_4 z8_5 z9_l z9_0 z9_1 z9_2 z9_3 z9_4 z9_5
 have b4 := blk_lt Z.out
 have b7 := blk_lt X.out
 have b8 := blk_lt BW.out
 have b9 := blk_lt BG.out
 have z10_l := blk_lt Z.out
 have z10_0 := blk_cell Z.out 0
 have z10_1 := blk_cell Z.out 1
 have z10_2 := blk_cell Z.out 2
 have z10_3 := blk_cell Z.out 3
 have z10_4 := blk_cell Z.out 4
 have z10_5 := blk_cell Z.out 5
 simp only [List.getElem?_toArray, List.getElem?_cons_zero, List.getElem?_cons_succ] at z10_0 z10_1 z10_2 z10_3 z10_4 z10_5
 go_wp2_with fail
 refine (MK.out _ _ X0s X0ds X0n X0dn _ HB.out DX.out).mono ?_
 rintro e w9 ⟨rfl, hd, hb, hk⟩
 replace X := Aside0.mk (blk_kept X.out hk (by intro h; omega))
 replace BW := Aside0.mk (blk_kept BW.out hk (by intro h; omega))
 replace Z := Aside0.mk (blk_kept Z.out hk (by intro h; omega))
 replace BG := Aside0.mk (blk_kept BG.out hk (by intro h; omega))
 replace DW := Aside0.mk (DW.out.kept hk (by intro k h1 h2 h3; omega))
 replace DG := Aside0.mk (DG.out.kept hk (by intro k h1 h2 h3; omega))
 replace HB := Aside0.mk hb
 have s9 := hk.1
 replace DX := Aside0.mk hd
 clear hb hk hd
 clear z10_l z10_0 z10_1 z10_2 z10_3 z10_4 z10_5
 clear DX Z b4 b7 b8 b9
 have z11_l := blk_lt BW.out
 have z11_0 := blk_cell BW.out 0
 have z11_1 := blk_cell BW.out 1
 have z11_2 := blk_cell BW.out 2
 have z11_3 := blk_cell BW.out 3
 have z11_4 := blk_cell BW.out 4
 have z11_5 := blk_cell BW.out 5
 have z12_l := blk_lt BG.out
 have z12_0 := blk_cell BG.out 0
 have z12_1 := blk_cell BG.out 1
 have z12_2 := blk_cell BG.out 2
 have z12_3 := blk_cell BG.out 3
 have z12_4 := blk_cell BG.out 4
 have z12_5 := blk_cell BG.out 5
 simp only [List.getElem?_toArray, List.getElem?_cons_zero, List.getElem?_cons_succ] at z11_0 z11_1 z11_2 z11_3 z11_4 z11_5 z12_0 z12_1 z12_2 z12_3 z12_4 z12_5
 go_wp2_with fail
 refine (eqState_same e2 g2 n2 t2 Y M Gs Gsc Ws Wsc Gn Gnc Wn Wnc _ (DG.out).reads.1.1 (DG.out).reads.1.2 (DW.out).reads.1.1 (DW.out).reads.1.2 EQ2.out.1 (DG.out).reads.2.1 (DG.out).reads.2.2 (DW.out).reads.2.1 (DW.out).reads.2.2 EQ2.out.2).mono ?_
 rintro e w10 ⟨rfl, hb⟩
 replace X := Aside0.mk (blk_below X.out hb)
 replace BW := Aside0.mk (blk_below BW.out hb)
 replace BG := Aside0.mk (blk_below BG.out hb)
 replace DW := Aside0.mk (DW.out.below hb)
 replace DG := Aside0.mk (DG.out.below hb)
 replace HB := Aside0.mk (below_step HB.out hb)
 have s10 := hb.size
 clear hb
 clear z11_l z11_0 z11_1 z11_2 z11_3 z11_4 z11_5 z12_l z12_0 z12_1 z12_2 z12_3 z12_4 z12_5
 have b7 := blk_lt X.out
 have b8 := blk_lt BW.out
 have b9 := blk_lt BG.out
 have z13_l := blk_lt BG.out
 have z13_0 := blk_cell BG.out 0
 have z13_1 := blk_cell BG.out 1
 have z13_2 := blk_cell BG.out 2
 have z13_3 := blk_cell BG.out 3
 have z13_4 := blk_cell BG.out 4
 have z13_5 := blk_cell BG.out 5
 simp only [List.getElem?_toArray, List.getElem?_cons_zero, List.getElem?_cons_succ] at z13_0 z13_1 z13_2 z13_3 z13_4 z13_5
 go_wp2_with fail
 refine (MK2.out _ _ Gs Gsc Gn Gnc _ HB.out DG.out).mono ?_
 rintro e w11 ⟨rfl, hd, hb, hk⟩
 replace X := Aside0.mk (blk_kept X.out hk (by intro h; omega))
 replace BW := Aside0.mk (blk_kept BW.out hk (by intro h; omega))
 replace BG := Aside0.mk (blk_kept BG.out hk (by intro h; omega))
 replace DW := Aside0.mk (DW.out.kept hk (by intro k h1 h2 h3; omega))
 replace HB := Aside0.mk hb
 have s11 := hk.1
 replace DG := Aside0.mk hd
 clear hb hk hd
 clear z13_l z13_0 z13_1 z13_2 z13_3 z13_4 z13_5
 clear b7 b8 b9
 have z14_l := blk_lt BG.out
 have z14_0 := blk_cell BG.out 0
 have z14_1 := blk_cell BG.out 1
 have z14_2 := blk_cell BG.out 2
 have z14_3 := blk_cell BG.out 3
 have z14_4 := blk_cell BG.out 4
 have z14_5 := blk_cell BG.out 5
 simp only [List.getElem?_toArray, List.getElem?_cons_zero, List.getElem?_cons_succ] at z14_0 z14_1 z14_2 z14_3 z14_4 z14_5
 go_wp2_with fail
 refine (HD2.out _ _ Gs Gsc Gn Gnc _ DG.out).mono ?_
 rintro e w12 ⟨rfl, hb⟩
 replace X := Aside0.mk (blk_below X.out hb)
 replace BW := Aside0.mk (blk_below BW.out hb)
 replace BG := Aside0.mk (blk_below BG.out hb)
 replace DW := Aside0.mk (DW.out.below hb)
 replace DG := Aside0.mk (DG.out.below hb)
 replace HB := Aside0.mk (below_step HB.out hb)
 have s12 := hb.size
 clear hb
 clear z14_l z14_0 z14_1 z14_2 z14_3 z14_4 z14_5
 have z15_l := blk_lt X.out
 have z15_0 := blk_cell X.out 0
 have z15_1 := blk_cell X.out 1
 have z15_2 := blk_cell X.out 2
 have z15_3 := blk_cell X.out 3
 have z15_4 := blk_cell X.out 4
 have z15_5 := blk_cell X.out 5
 simp only [List.getElem?_toArray, List.getElem?_cons_zero, List.getElem?_cons_succ] at z15_0 z15_1 z15_2 z15_3 z15_4 z15_5
 go_wp2_with fail
 refine (TS.out _ HB.out).mono ?_
 rintro e w13 ⟨Ts, Tds, Tn, Tdn, rfl, hd, hb⟩
 replace X := Aside0.mk (blk_below X.out hb)
 replace BW := Aside0.mk (blk_below BW.out hb)
 replace BG := Aside0.mk (blk_below BG.out hb)
 replace DW := Aside0.mk (DW.out.below hb)
 replace DG := Aside0.mk (DG.out.below hb)
 replace HB := Aside0.mk (below_step HB.out hb)
 have s13 := hb.size
 clear hb
 clear z15_l z15_0 z15_1 z15_2 z15_3 z15_4 z15_5
 (try simp only [World.size_alloc] at hd)
 have DT := Aside0.mk hd
 clear hd
 go_wp2_with fail
 refine (IM.out Ts Tds Tn Tdn _ HB.out (DT.out).reads.1.1 (DT.out).reads.1.2 (DT.out).reads.2.1 (DT.out).reads.2.2).mono ?_
 rintro e w14 ⟨Hs, Hsc, Hn, Hnc, rfl, hd, hb⟩
 clear DT
 replace X := Aside0.mk (blk_below X.out hb)
 replace BW := Aside0.mk (blk_below BW.out hb)
 replace BG := Aside0.mk (blk_below BG.out hb)
 replace DW := Aside0.mk (DW.out.below hb)
 replace DG := Aside0.mk (DG.out.below hb)
 replace HB := Aside0.mk (below_step HB.out hb)
 have s14 := hb.size
 clear hb
 (try simp only [World.size_alloc] at hd)
 have DH := Aside0.mk hd
 clear hd
 have z16_l := blk_lt BW.out
 have z16_0 := blk_cell BW.out 0
 have z16_1 := blk_cell BW.out 1
 have z16_2 := blk_cell BW.out 2
 have z16_3 := blk_cell BW.out 3
 have z16_4 := blk_cell BW.out 4
 have z16_5 := blk_cell BW.out 5
 simp only [List.getElem?_toArray, List.getElem?_cons_zero, List.getElem?_cons_succ] at z16_0 z16_1 z16_2 z16_3 z16_4 z16_5
 go_wp2_with fail
 have hba := below_alloc (Below.refl w14.heap.size w14) (.cells #[.int .u64 e2, .int .u64 g2, .int .u64 n2, .int .i64 t2, (.slice Hs Y.length Hsc), (.slice Hn M.length Hnc)] 31)
 have NB := Aside0.mk (blk_new w14 (.cells #[.int .u64 e2, .int .u64 g2, .int .u64 n2, .int .i64 t2, (.slice Hs Y.length Hsc), (.slice Hn M.length Hnc)] 31))
 refine (eqState_same e2 g2 n2 t2 Y M Hs Hsc Ws Wsc Hn Hnc Wn Wnc _ (DH.out.below hba).reads.1.1 (DH.out.below hba).reads.1.2 (DW.out.below hba).reads.1.1 (DW.out.below hba).reads.1.2 EQ2.out.1 (DH.out.below hba).reads.2.1 (DH.out.below hba).reads.2.2 (DW.out.below hba).reads.2.1 (DW.out.below hba).reads.2.2 EQ2.out.2).mono ?_
 rintro e w15 ⟨rfl, hb⟩
 replace X := Aside0.mk (blk_below (blk_below X.out hba) hb)
 replace BW := Aside0.mk (blk_below (blk_below BW.out hba) hb)
 replace BG := Aside0.mk (blk_below (blk_below BG.out hba) hb)
 replace DW := Aside0.mk ((DW.out.below hba).below hb)
 replace DG := Aside0.mk ((DG.out.below hba).below hb)
 replace DH := Aside0.mk ((DH.out.below hba).below hb)
 replace HB := Aside0.mk (below_step (below_step HB.out hba) hb)
 have BH := Aside0.mk (blk_below NB.out hb)
 clear NB
 have s15 := hb.size
 simp only [World.size_alloc] at s15
 clear hb hba
 clear z16_l z16_0 z16_1 z16_2 z16_3 z16_4 z16_5
 have z17_l := blk_lt BG.out
 have z17_0 := blk_cell BG.out 0
 have z17_1 := blk_cell BG.out 1
 have z17_2 := blk_cell BG.out 2
 have z17_3 := blk_cell BG.out 3
 have z17_4 := blk_cell BG.out 4
 have z17_5 := blk_cell BG.out 5
 simp only [List.getElem?_toArray, List.getElem?_cons_zero, List.getElem?_cons_succ] at z17_0 z17_1 z17_2 z17_3 z17_4 z17_5
 go_wp2_with fail
 refine (HD2.out _ _ Gs Gsc Gn Gnc _ DG.out).mono ?_
 rintro e w16 ⟨rfl, hb⟩
 replace X := Aside0.mk (blk_below X.out hb)
 replace BW := Aside0.mk (blk_below BW.out hb)
 replace BG := Aside0.mk (blk_below BG.out hb)
 replace BH := Aside0.mk (blk_below BH.out hb)
 replace DW := Aside0.mk (DW.out.below hb)
 replace DG := Aside0.mk (DG.out.below hb)
 replace DH := Aside0.mk (DH.out.below hb)
 replace HB := Aside0.mk (below_step HB.out hb)
 have s16 := hb.size
 clear hb
 clear z17_l z17_0 z17_1 z17_2 z17_3 z17_4 z17_5
 go_wp2_with fail
 go_ret
 exact ⟨rfl, HB.out⟩
section
attribute [local go_sem] max2_int max_two
set_option linter.unusedVariables false
set_option linter.unusedSimpArgs false
def impl_headOk.f (a0_0 : Int) (a0_1 : Int) (a0_2 : Int) (a0_3 : Int) (l0_4 : List (S90)) (l0_5 : List (S93)) : Option (Bool) := if a0_0 ≤ 4611686018427387904 then (if a0_1 ≤ 4611686018427387904 then (if a0_2 ≤ 4611686018427387904 then (if a0_3 ≥ 0 then (if a0_3 ≤ 1000000 then (if (l0_4.length : Int) ≤ 50 then (some (decide ((l0_5.length : Int) ≤ 200))) else (some false)) else (some false)) else (some false)) else (some false)) else (some false)) else (some false)
set_option maxHeartbeats 8000000 in
set_option maxRecDepth 100000 in
theorem impl_headOk.calls (a0_0 : Int) (a0_1 : Int) (a0_2 : Int) (a0_3 : Int) (A0_4 : Option Addr) (c0_4 : Nat) (l0_4 : List (S90)) (A0_5 : Option Addr) (c0_5 : Nat) (l0_5 : List (S93)) (r : Bool) (w : World) (hr0_4 : Kd.C k90 w A0_4 l0_4.length l0_4) (hc0_4 : l0_4.length ≤ c0_4) (hr0_5 : Kd.C k93 w A0_5 l0_5.length l0_5) (hc0_5 : l0_5.length ≤ c0_5) (h : impl_headOk.f a0_0 a0_1 a0_2 a0_3 l0_4 l0_5 = some r) :
  Calls Tryz.prog 82 #[.agg #[.int .u64 a0_0, .int .u64 a0_1, .int .u64 a0_2, .int .i64 a0_3, .slice A0_4 l0_4.length c0_4, .slice A0_5 l0_5.length c0_5]] w fun e w' => e = .returned (.bool r) ∧ Below w.heap.size w w' := by
 have hu31 := Tryz.underlying31
 have HR0_4 := Aside0.mk hr0_4
 have HC0_4 := Aside0.mk hc0_4
 clear hr0_4 hc0_4
 have HR0_5 := Aside0.mk hr0_5
 have HC0_5 := Aside0.mk hc0_5
 clear hr0_5 hc0_5
 have HB := Aside0.mk (Below.refl w.heap.size w)
 have H : (if a0_0 ≤ 4611686018427387904 then (if a0_1 ≤ 4611686018427387904 then (if a0_2 ≤ 4611686018427387904 then (if a0_3 ≥ 0 then (if a0_3 ≤ 1000000 then (if (l0_4.length : Int) ≤ 50 then (some (decide ((l0_5.length : Int) ≤ 200))) else (some false)) else (some false)) else (some false)) else (some false)) else (some false)) else (some false)) = some r := h
 clear h
 by_cases c2 : a0_0 ≤ 4611686018427387904
 ·
  rw [if_pos c2] at H
  have c2b0 : decide (a0_0 ≤ 4611686018427387904) = true := decide_eq_true c2
  clear c2
  by_cases c3 : a0_1 ≤ 4611686018427387904
  ·
   rw [if_pos c3] at H
   have c3b0 : decide (a0_1 ≤ 4611686018427387904) = true := decide_eq_true c3
   clear c3
   by_cases c4 : a0_2 ≤ 4611686018427387904
   ·
    rw [if_pos c4] at H
    have c4b0 : decide (a0_2 ≤ 4611686018427387904) = true := decide_eq_true c4
    clear c4
    by_cases c5 : a0_3 ≥ 0
    ·
     rw [if_pos c5] at H
     have c5b0 : decide (0 ≤ a0_3) = true := decide_eq_true c5
     clear c5
     by_cases c6 : a0_3 ≤ 1000000
     ·
      rw [if_pos c6] at H
      have c6b0 : decide (a0_3 ≤ 1000000) = true := decide_eq_true c6
      clear c6
      by_cases c7 : (l0_4.length : Int) ≤ 50
      ·
       rw [if_pos c7] at H
       have c7b0 : decide ((l0_4.length : Int) ≤ 50) = true := decide_eq_true c7
       have c7b1 : decide (l0_4.length ≤ 50) = true := decide_eq_true (by omega)
       clear c7
       obtain rfl := Option.some.inj H
       go_enter Tryz.func82, Tryz.ntmps82
       go_wp2_with (first | ((with_reducible refine gate_dst (N := 1) rfl ?_); (try (refine gate_guard (by rfl) ?_; dsimp only)); refine box_event ?hg (N := 1) ?hd (cs := #[.int .u64 a0_0, .int .u64 a0_1, .int .u64 a0_2, .int .i64 a0_3, .slice A0_4 l0_4.length c0_4, .slice A0_5 l0_5.length c0_5]) (t := 31) ?hr ?_; (case hd => rfl); (case hg => rfl); (case hr => first | (go_simp; done) | (go_simp; rfl)); intro gb315 hg w8 hbox hb; have n0_ := Aside0.mk (below_step (by repeat (first | (with_reducible first | exact HB.out | apply below_alloc | apply pw_below_drewN | apply below_drew1) | exact HB.out)) hb); have n1_ := Aside0.mk (hbox); have n2_ := Aside0.mk ((by rw [hg]; exact (below_size (by repeat (first | (with_reducible first | exact HB.out | apply below_alloc | apply pw_below_drewN | apply below_drew1) | exact HB.out))) : w.heap.size ≤ gb315)); have n3_ := Aside0.mk ((by rw [hg]; exact (below_size (by repeat (first | (with_reducible first | exact HB.out | apply below_alloc | apply pw_below_drewN | apply below_drew1) | exact HB.out))) : w.heap.size ≤ gb315)); clear HB; have HB := n0_; have BK315 := n1_; have GW315 := n2_; have GE315 := n3_; clear n0_ n1_ n2_ n3_; clear hb hbox hg; have hcz9_0 : w8.cell? ⟨gb315, 0, none⟩ = some (.int .u64 a0_0) := (blk_cell BK315.out 0).trans rfl; have hcz9_1 : w8.cell? ⟨gb315, 1, none⟩ = some (.int .u64 a0_1) := (blk_cell BK315.out 1).trans rfl; have hcz9_2 : w8.cell? ⟨gb315, 2, none⟩ = some (.int .u64 a0_2) := (blk_cell BK315.out 2).trans rfl; have hcz9_3 : w8.cell? ⟨gb315, 3, none⟩ = some (.int .i64 a0_3) := (blk_cell BK315.out 3).trans rfl; have hcz9_4 : w8.cell? ⟨gb315, 4, none⟩ = some (.slice A0_4 l0_4.length c0_4) := (blk_cell BK315.out 4).trans rfl; have hcz9_5 : w8.cell? ⟨gb315, 5, none⟩ = some (.slice A0_5 l0_5.length c0_5) := (blk_cell BK315.out 5).trans rfl; have hfz9_0 := blk_frozen BK315.out 0; have hfz9_1 := blk_frozen BK315.out 1; have hfz9_2 := blk_frozen BK315.out 2; have hfz9_3 := blk_frozen BK315.out 3; have hfz9_4 := blk_frozen BK315.out 4; have hfz9_5 := blk_frozen BK315.out 5))
       go_ret
       exact ⟨by first | rfl | (simp [errW_none, errW_some] <;> rfl) | (simp [*, errW_none, errW_some] <;> rfl), by repeat (first | (with_reducible first | exact HB.out | apply below_alloc | apply pw_below_drewN | apply below_drew1 | refine below_set ?_ GE315.out) | exact HB.out)⟩
      ·
       rw [if_neg c7] at H
       have c7b0 : decide ((l0_4.length : Int) ≤ 50) = false := decide_eq_false c7
       have c7b1 : decide (l0_4.length ≤ 50) = false := decide_eq_false (by omega)
       clear c7
       obtain rfl := Option.some.inj H
       go_enter Tryz.func82, Tryz.ntmps82
       go_wp2_with (first | ((with_reducible refine gate_dst (N := 1) rfl ?_); (try (refine gate_guard (by rfl) ?_; dsimp only)); refine box_event ?hg (N := 1) ?hd (cs := #[.int .u64 a0_0, .int .u64 a0_1, .int .u64 a0_2, .int .i64 a0_3, .slice A0_4 l0_4.length c0_4, .slice A0_5 l0_5.length c0_5]) (t := 31) ?hr ?_; (case hd => rfl); (case hg => rfl); (case hr => first | (go_simp; done) | (go_simp; rfl)); intro gb315 hg w10 hbox hb; have n0_ := Aside0.mk (below_step (by repeat (first | (with_reducible first | exact HB.out | apply below_alloc | apply pw_below_drewN | apply below_drew1) | exact HB.out)) hb); have n1_ := Aside0.mk (hbox); have n2_ := Aside0.mk ((by rw [hg]; exact (below_size (by repeat (first | (with_reducible first | exact HB.out | apply below_alloc | apply pw_below_drewN | apply below_drew1) | exact HB.out))) : w.heap.size ≤ gb315)); have n3_ := Aside0.mk ((by rw [hg]; exact (below_size (by repeat (first | (with_reducible first | exact HB.out | apply below_alloc | apply pw_below_drewN | apply below_drew1) | exact HB.out))) : w.heap.size ≤ gb315)); clear HB; have HB := n0_; have BK315 := n1_; have GW315 := n2_; have GE315 := n3_; clear n0_ n1_ n2_ n3_; clear hb hbox hg; have hcz11_0 : w10.cell? ⟨gb315, 0, none⟩ = some (.int .u64 a0_0) := (blk_cell BK315.out 0).trans rfl; have hcz11_1 : w10.cell? ⟨gb315, 1, none⟩ = some (.int .u64 a0_1) := (blk_cell BK315.out 1).trans rfl; have hcz11_2 : w10.cell? ⟨gb315, 2, none⟩ = some (.int .u64 a0_2) := (blk_cell BK315.out 2).trans rfl; have hcz11_3 : w10.cell? ⟨gb315, 3, none⟩ = some (.int .i64 a0_3) := (blk_cell BK315.out 3).trans rfl; have hcz11_4 : w10.cell? ⟨gb315, 4, none⟩ = some (.slice A0_4 l0_4.length c0_4) := (blk_cell BK315.out 4).trans rfl; have hcz11_5 : w10.cell? ⟨gb315, 5, none⟩ = some (.slice A0_5 l0_5.length c0_5) := (blk_cell BK315.out 5).trans rfl; have hfz11_0 := blk_frozen BK315.out 0; have hfz11_1 := blk_frozen BK315.out 1; have hfz11_2 := blk_frozen BK315.out 2; have hfz11_3 := blk_frozen BK315.out 3; have hfz11_4 := blk_frozen BK315.out 4; have hfz11_5 := blk_frozen BK315.out 5))
       go_ret
       exact ⟨by first | rfl | (simp [errW_none, errW_some] <;> rfl) | (simp [*, errW_none, errW_some] <;> rfl), by repeat (first | (with_reducible first | exact HB.out | apply below_alloc | apply pw_below_drewN | apply below_drew1 | refine below_set ?_ GE315.out) | exact HB.out)⟩
     ·
      rw [if_neg c6] at H
      have c6b0 : decide (a0_3 ≤ 1000000) = false := decide_eq_false c6
      clear c6
      obtain rfl := Option.some.inj H
      go_enter Tryz.func82, Tryz.ntmps82
      go_wp2_with (first | ((with_reducible refine gate_dst (N := 1) rfl ?_); (try (refine gate_guard (by rfl) ?_; dsimp only)); refine box_event ?hg (N := 1) ?hd (cs := #[.int .u64 a0_0, .int .u64 a0_1, .int .u64 a0_2, .int .i64 a0_3, .slice A0_4 l0_4.length c0_4, .slice A0_5 l0_5.length c0_5]) (t := 31) ?hr ?_; (case hd => rfl); (case hg => rfl); (case hr => first | (go_simp; done) | (go_simp; rfl)); intro gb315 hg w12 hbox hb; have n0_ := Aside0.mk (below_step (by repeat (first | (with_reducible first | exact HB.out | apply below_alloc | apply pw_below_drewN | apply below_drew1) | exact HB.out)) hb); have n1_ := Aside0.mk (hbox); have n2_ := Aside0.mk ((by rw [hg]; exact (below_size (by repeat (first | (with_reducible first | exact HB.out | apply below_alloc | apply pw_below_drewN | apply below_drew1) | exact HB.out))) : w.heap.size ≤ gb315)); have n3_ := Aside0.mk ((by rw [hg]; exact (below_size (by repeat (first | (with_reducible first | exact HB.out | apply below_alloc | apply pw_below_drewN | apply below_drew1) | exact HB.out))) : w.heap.size ≤ gb315)); clear HB; have HB := n0_; have BK315 := n1_; have GW315 := n2_; have GE315 := n3_; clear n0_ n1_ n2_ n3_; clear hb hbox hg; have hcz13_0 : w12.cell? ⟨gb315, 0, none⟩ = some (.int .u64 a0_0) := (blk_cell BK315.out 0).trans rfl; have hcz13_1 : w12.cell? ⟨gb315, 1, none⟩ = some (.int .u64 a0_1) := (blk_cell BK315.out 1).trans rfl; have hcz13_2 : w12.cell? ⟨gb315, 2, none⟩ = some (.int .u64 a0_2) := (blk_cell BK315.out 2).trans rfl; have hcz13_3 : w12.cell? ⟨gb315, 3, none⟩ = some (.int .i64 a0_3) := (blk_cell BK315.out 3).trans rfl; have hcz13_4 : w12.cell? ⟨gb315, 4, none⟩ = some (.slice A0_4 l0_4.length c0_4) := (blk_cell BK315.out 4).trans rfl; have hcz13_5 : w12.cell? ⟨gb315, 5, none⟩ = some (.slice A0_5 l0_5.length c0_5) := (blk_cell BK315.out 5).trans rfl; have hfz13_0 := blk_frozen BK315.out 0; have hfz13_1 := blk_frozen BK315.out 1; have hfz13_2 := blk_frozen BK315.out 2; have hfz13_3 := blk_frozen BK315.out 3; have hfz13_4 := blk_frozen BK315.out 4; have hfz13_5 := blk_frozen BK315.out 5))
      go_ret
      exact ⟨by first | rfl | (simp [errW_none, errW_some] <;> rfl) | (simp [*, errW_none, errW_some] <;> rfl), by repeat (first | (with_reducible first | exact HB.out | apply below_alloc | apply pw_below_drewN | apply below_drew1 | refine below_set ?_ GE315.out) | exact HB.out)⟩
    ·
     rw [if_neg c5] at H
     have c5b0 : decide (0 ≤ a0_3) = false := decide_eq_false c5
     clear c5
     obtain rfl := Option.some.inj H
     go_enter Tryz.func82, Tryz.ntmps82
     go_wp2_with (first | ((with_reducible refine gate_dst (N := 1) rfl ?_); (try (refine gate_guard (by rfl) ?_; dsimp only)); refine box_event ?hg (N := 1) ?hd (cs := #[.int .u64 a0_0, .int .u64 a0_1, .int .u64 a0_2, .int .i64 a0_3, .slice A0_4 l0_4.length c0_4, .slice A0_5 l0_5.length c0_5]) (t := 31) ?hr ?_; (case hd => rfl); (case hg => rfl); (case hr => first | (go_simp; done) | (go_simp; rfl)); intro gb315 hg w14 hbox hb; have n0_ := Aside0.mk (below_step (by repeat (first | (with_reducible first | exact HB.out | apply below_alloc | apply pw_below_drewN | apply below_drew1) | exact HB.out)) hb); have n1_ := Aside0.mk (hbox); have n2_ := Aside0.mk ((by rw [hg]; exact (below_size (by repeat (first | (with_reducible first | exact HB.out | apply below_alloc | apply pw_below_drewN | apply below_drew1) | exact HB.out))) : w.heap.size ≤ gb315)); have n3_ := Aside0.mk ((by rw [hg]; exact (below_size (by repeat (first | (with_reducible first | exact HB.out | apply below_alloc | apply pw_below_drewN | apply below_drew1) | exact HB.out))) : w.heap.size ≤ gb315)); clear HB; have HB := n0_; have BK315 := n1_; have GW315 := n2_; have GE315 := n3_; clear n0_ n1_ n2_ n3_; clear hb hbox hg; have hcz15_0 : w14.cell? ⟨gb315, 0, none⟩ = some (.int .u64 a0_0) := (blk_cell BK315.out 0).trans rfl; have hcz15_1 : w14.cell? ⟨gb315, 1, none⟩ = some (.int .u64 a0_1) := (blk_cell BK315.out 1).trans rfl; have hcz15_2 : w14.cell? ⟨gb315, 2, none⟩ = some (.int .u64 a0_2) := (blk_cell BK315.out 2).trans rfl; have hcz15_3 : w14.cell? ⟨gb315, 3, none⟩ = some (.int .i64 a0_3) := (blk_cell BK315.out 3).trans rfl; have hcz15_4 : w14.cell? ⟨gb315, 4, none⟩ = some (.slice A0_4 l0_4.length c0_4) := (blk_cell BK315.out 4).trans rfl; have hcz15_5 : w14.cell? ⟨gb315, 5, none⟩ = some (.slice A0_5 l0_5.length c0_5) := (blk_cell BK315.out 5).trans rfl; have hfz15_0 := blk_frozen BK315.out 0; have hfz15_1 := blk_frozen BK315.out 1; have hfz15_2 := blk_frozen BK315.out 2; have hfz15_3 := blk_frozen BK315.out 3; have hfz15_4 := blk_frozen BK315.out 4; have hfz15_5 := blk_frozen BK315.out 5))
     go_ret
     exact ⟨by first | rfl | (simp [errW_none, errW_some] <;> rfl) | (simp [*, errW_none, errW_some] <;> rfl), by repeat (first | (with_reducible first | exact HB.out | apply below_alloc | apply pw_below_drewN | apply below_drew1 | refine below_set ?_ GE315.out) | exact HB.out)⟩
   ·
    rw [if_neg c4] at H
    have c4b0 : decide (a0_2 ≤ 4611686018427387904) = false := decide_eq_false c4
    clear c4
    obtain rfl := Option.some.inj H
    go_enter Tryz.func82, Tryz.ntmps82
    go_wp2_with (first | ((with_reducible refine gate_dst (N := 1) rfl ?_); (try (refine gate_guard (by rfl) ?_; dsimp only)); refine box_event ?hg (N := 1) ?hd (cs := #[.int .u64 a0_0, .int .u64 a0_1, .int .u64 a0_2, .int .i64 a0_3, .slice A0_4 l0_4.length c0_4, .slice A0_5 l0_5.length c0_5]) (t := 31) ?hr ?_; (case hd => rfl); (case hg => rfl); (case hr => first | (go_simp; done) | (go_simp; rfl)); intro gb315 hg w16 hbox hb; have n0_ := Aside0.mk (below_step (by repeat (first | (with_reducible first | exact HB.out | apply below_alloc | apply pw_below_drewN | apply below_drew1) | exact HB.out)) hb); have n1_ := Aside0.mk (hbox); have n2_ := Aside0.mk ((by rw [hg]; exact (below_size (by repeat (first | (with_reducible first | exact HB.out | apply below_alloc | apply pw_below_drewN | apply below_drew1) | exact HB.out))) : w.heap.size ≤ gb315)); have n3_ := Aside0.mk ((by rw [hg]; exact (below_size (by repeat (first | (with_reducible first | exact HB.out | apply below_alloc | apply pw_below_drewN | apply below_drew1) | exact HB.out))) : w.heap.size ≤ gb315)); clear HB; have HB := n0_; have BK315 := n1_; have GW315 := n2_; have GE315 := n3_; clear n0_ n1_ n2_ n3_; clear hb hbox hg; have hcz17_0 : w16.cell? ⟨gb315, 0, none⟩ = some (.int .u64 a0_0) := (blk_cell BK315.out 0).trans rfl; have hcz17_1 : w16.cell? ⟨gb315, 1, none⟩ = some (.int .u64 a0_1) := (blk_cell BK315.out 1).trans rfl; have hcz17_2 : w16.cell? ⟨gb315, 2, none⟩ = some (.int .u64 a0_2) := (blk_cell BK315.out 2).trans rfl; have hcz17_3 : w16.cell? ⟨gb315, 3, none⟩ = some (.int .i64 a0_3) := (blk_cell BK315.out 3).trans rfl; have hcz17_4 : w16.cell? ⟨gb315, 4, none⟩ = some (.slice A0_4 l0_4.length c0_4) := (blk_cell BK315.out 4).trans rfl; have hcz17_5 : w16.cell? ⟨gb315, 5, none⟩ = some (.slice A0_5 l0_5.length c0_5) := (blk_cell BK315.out 5).trans rfl; have hfz17_0 := blk_frozen BK315.out 0; have hfz17_1 := blk_frozen BK315.out 1; have hfz17_2 := blk_frozen BK315.out 2; have hfz17_3 := blk_frozen BK315.out 3; have hfz17_4 := blk_frozen BK315.out 4; have hfz17_5 := blk_frozen BK315.out 5))
    go_ret
    exact ⟨by first | rfl | (simp [errW_none, errW_some] <;> rfl) | (simp [*, errW_none, errW_some] <;> rfl), by repeat (first | (with_reducible first | exact HB.out | apply below_alloc | apply pw_below_drewN | apply below_drew1 | refine below_set ?_ GE315.out) | exact HB.out)⟩
  ·
   rw [if_neg c3] at H
   have c3b0 : decide (a0_1 ≤ 4611686018427387904) = false := decide_eq_false c3
   clear c3
   obtain rfl := Option.some.inj H
   go_enter Tryz.func82, Tryz.ntmps82
   go_wp2_with (first | ((with_reducible refine gate_dst (N := 1) rfl ?_); (try (refine gate_guard (by rfl) ?_; dsimp only)); refine box_event ?hg (N := 1) ?hd (cs := #[.int .u64 a0_0, .int .u64 a0_1, .int .u64 a0_2, .int .i64 a0_3, .slice A0_4 l0_4.length c0_4, .slice A0_5 l0_5.length c0_5]) (t := 31) ?hr ?_; (case hd => rfl); (case hg => rfl); (case hr => first | (go_simp; done) | (go_simp; rfl)); intro gb315 hg w18 hbox hb; have n0_ := Aside0.mk (below_step (by repeat (first | (with_reducible first | exact HB.out | apply below_alloc | apply pw_below_drewN | apply below_drew1) | exact HB.out)) hb); have n1_ := Aside0.mk (hbox); have n2_ := Aside0.mk ((by rw [hg]; exact (below_size (by repeat (first | (with_reducible first | exact HB.out | apply below_alloc | apply pw_below_drewN | apply below_drew1) | exact HB.out))) : w.heap.size ≤ gb315)); have n3_ := Aside0.mk ((by rw [hg]; exact (below_size (by repeat (first | (with_reducible first | exact HB.out | apply below_alloc | apply pw_below_drewN | apply below_drew1) | exact HB.out))) : w.heap.size ≤ gb315)); clear HB; have HB := n0_; have BK315 := n1_; have GW315 := n2_; have GE315 := n3_; clear n0_ n1_ n2_ n3_; clear hb hbox hg; have hcz19_0 : w18.cell? ⟨gb315, 0, none⟩ = some (.int .u64 a0_0) := (blk_cell BK315.out 0).trans rfl; have hcz19_1 : w18.cell? ⟨gb315, 1, none⟩ = some (.int .u64 a0_1) := (blk_cell BK315.out 1).trans rfl; have hcz19_2 : w18.cell? ⟨gb315, 2, none⟩ = some (.int .u64 a0_2) := (blk_cell BK315.out 2).trans rfl; have hcz19_3 : w18.cell? ⟨gb315, 3, none⟩ = some (.int .i64 a0_3) := (blk_cell BK315.out 3).trans rfl; have hcz19_4 : w18.cell? ⟨gb315, 4, none⟩ = some (.slice A0_4 l0_4.length c0_4) := (blk_cell BK315.out 4).trans rfl; have hcz19_5 : w18.cell? ⟨gb315, 5, none⟩ = some (.slice A0_5 l0_5.length c0_5) := (blk_cell BK315.out 5).trans rfl; have hfz19_0 := blk_frozen BK315.out 0; have hfz19_1 := blk_frozen BK315.out 1; have hfz19_2 := blk_frozen BK315.out 2; have hfz19_3 := blk_frozen BK315.out 3; have hfz19_4 := blk_frozen BK315.out 4; have hfz19_5 := blk_frozen BK315.out 5))
   go_ret
   exact ⟨by first | rfl | (simp [errW_none, errW_some] <;> rfl) | (simp [*, errW_none, errW_some] <;> rfl), by repeat (first | (with_reducible first | exact HB.out | apply below_alloc | apply pw_below_drewN | apply below_drew1 | refine below_set ?_ GE315.out) | exact HB.out)⟩
 ·
  rw [if_neg c2] at H
  have c2b0 : decide (a0_0 ≤ 4611686018427387904) = false := decide_eq_false c2
  clear c2
  obtain rfl := Option.some.inj H
  go_enter Tryz.func82, Tryz.ntmps82
  go_wp2_with (first | ((with_reducible refine gate_dst (N := 1) rfl ?_); (try (refine gate_guard (by rfl) ?_; dsimp only)); refine box_event ?hg (N := 1) ?hd (cs := #[.int .u64 a0_0, .int .u64 a0_1, .int .u64 a0_2, .int .i64 a0_3, .slice A0_4 l0_4.length c0_4, .slice A0_5 l0_5.length c0_5]) (t := 31) ?hr ?_; (case hd => rfl); (case hg => rfl); (case hr => first | (go_simp; done) | (go_simp; rfl)); intro gb315 hg w20 hbox hb; have n0_ := Aside0.mk (below_step (by repeat (first | (with_reducible first | exact HB.out | apply below_alloc | apply pw_below_drewN | apply below_drew1) | exact HB.out)) hb); have n1_ := Aside0.mk (hbox); have n2_ := Aside0.mk ((by rw [hg]; exact (below_size (by repeat (first | (with_reducible first | exact HB.out | apply below_alloc | apply pw_below_drewN | apply below_drew1) | exact HB.out))) : w.heap.size ≤ gb315)); have n3_ := Aside0.mk ((by rw [hg]; exact (below_size (by repeat (first | (with_reducible first | exact HB.out | apply below_alloc | apply pw_below_drewN | apply below_drew1) | exact HB.out))) : w.heap.size ≤ gb315)); clear HB; have HB := n0_; have BK315 := n1_; have GW315 := n2_; have GE315 := n3_; clear n0_ n1_ n2_ n3_; clear hb hbox hg; have hcz21_0 : w20.cell? ⟨gb315, 0, none⟩ = some (.int .u64 a0_0) := (blk_cell BK315.out 0).trans rfl; have hcz21_1 : w20.cell? ⟨gb315, 1, none⟩ = some (.int .u64 a0_1) := (blk_cell BK315.out 1).trans rfl; have hcz21_2 : w20.cell? ⟨gb315, 2, none⟩ = some (.int .u64 a0_2) := (blk_cell BK315.out 2).trans rfl; have hcz21_3 : w20.cell? ⟨gb315, 3, none⟩ = some (.int .i64 a0_3) := (blk_cell BK315.out 3).trans rfl; have hcz21_4 : w20.cell? ⟨gb315, 4, none⟩ = some (.slice A0_4 l0_4.length c0_4) := (blk_cell BK315.out 4).trans rfl; have hcz21_5 : w20.cell? ⟨gb315, 5, none⟩ = some (.slice A0_5 l0_5.length c0_5) := (blk_cell BK315.out 5).trans rfl; have hfz21_0 := blk_frozen BK315.out 0; have hfz21_1 := blk_frozen BK315.out 1; have hfz21_2 := blk_frozen BK315.out 2; have hfz21_3 := blk_frozen BK315.out 3; have hfz21_4 := blk_frozen BK315.out 4; have hfz21_5 := blk_frozen BK315.out 5))
  go_ret
  exact ⟨by first | rfl | (simp [errW_none, errW_some] <;> rfl) | (simp [*, errW_none, errW_some] <;> rfl), by repeat (first | (with_reducible first | exact HB.out | apply below_alloc | apply pw_below_drewN | apply below_drew1 | refine below_set ?_ GE315.out) | exact HB.out)⟩
end
section
attribute [local go_sem] max2_int max_two
set_option linter.unusedVariables false
set_option linter.unusedSimpArgs false
def impl_ascending.l0 : Nat → List Int → Int → Option (Bool)
 | 0, _, _ => none
 | k + 1, x0, x3 => if x3 < (x0.length : Int) then (if 0 ≤ (wrap64 (x3 - 1)) then (if (wrap64 (x3 - 1)) < (x0.length : Int) then (if 0 ≤ x3 then (if (rd x0 (wrap64 (x3 - 1))) ≥ (rd x0 x3) then (some false) else (impl_ascending.l0 k x0 (wrap64 (x3 + 1)))) else (none)) else (none)) else (none)) else (some true)
def impl_ascending.f (k : Nat) (l0 : List Int) : Option (Bool) := impl_ascending.l0 k l0 1
set_option maxHeartbeats 8000000 in
set_option maxRecDepth 100000 in
theorem impl_ascending.calls (k : Nat) (A0 : Option Addr) (c0 : Nat) (l0 : List Int) (r : Bool) (w : World) (hr0 : Kd.C (Kd.int .u64) w A0 l0.length l0) (hc0 : l0.length ≤ c0) (h : impl_ascending.f k l0 = some r) :
  Calls Tryz.prog 87 #[.slice A0 l0.length c0] w fun e w' => e = .returned (.bool r) ∧ Drawn0 w w' := by
 have HR0 := Aside0.mk hr0
 have HC0 := Aside0.mk hc0
 clear hr0 hc0
 have H : (impl_ascending.l0 k l0 1) = some r := h
 clear h
 have H' := Aside0.mk H
 clear H
 go_enter Tryz.func87, Tryz.ntmps87
 go_wp2
 repeat (go_quiet (fail); try go_wp2)
 go_loopg [3] k (fun kq v3 w' => ∃ (x3_1 : Int), v3 = .int .i64 x3_1 ∧ Aside0 (impl_ascending.l0 kq l0 x3_1 = some r) ∧ Aside0 (kq ≤ k) ∧ Drawn0 w w')
 case atStart => exact ⟨(1), (by first | rfl | (simp; done) | (simp [*]; done)), H', ⟨Nat.le_refl _⟩, by repeat (first | exact Drawn0.refl _ | apply Drawn0.step)⟩
 case round =>
  clear H'
  obtain ⟨x3_1, rfl, HA, HK1, ⟨m1, rfl⟩⟩ := hrel
  cases gk with
  | zero => exact absurd HA.out (by simp [impl_ascending.l0])
  | succ k1 =>
   have H := HA.out
   clear HA
   simp only [impl_ascending.l0] at H
   by_cases c2 : x3_1 < (l0.length : Int)
   ·
    rw [if_pos c2] at H
    have c2b0 : decide (x3_1 < (l0.length : Int)) = true := decide_eq_true c2
    clear c2
    obtain ⟨ji3, hji3⟩ : ∃ j_ : Int, (wrap64 (x3_1 - 1)) = j_ := ⟨_, rfl⟩
    replace H : (if 0 ≤ (ji3) then (if (ji3) < (l0.length : Int) then (if 0 ≤ x3_1 then (if (rd l0 (ji3)) ≥ (rd l0 x3_1) then (some false) else (impl_ascending.l0 k1 l0 (wrap64 (x3_1 + 1)))) else (none)) else (none)) else (none)) = some r := by first | (rw [hji3] at H; exact H) | (simp only [hji3] at H ⊢; exact H)
    have hji3w : (IntKind.i64.wrap (x3_1 - 1)) = ji3 := (i64_w _).trans hji3
    by_cases c4 : 0 ≤ (ji3)
    ·
     rw [if_pos c4] at H
     have c4b0 : decide (0 ≤ (ji3)) = true := decide_eq_true c4
     clear c4
     by_cases c5 : (ji3) < (l0.length : Int)
     ·
      rw [if_pos c5] at H
      have c5b0 : decide ((ji3) < (l0.length : Int)) = true := decide_eq_true c5
      clear c5
      by_cases c6 : 0 ≤ x3_1
      ·
       rw [if_pos c6] at H
       have c6b0 : decide (0 ≤ x3_1) = true := decide_eq_true c6
       clear c6
       by_cases c7 : (rd l0 (ji3)) ≥ (rd l0 x3_1)
       ·
        rw [if_pos c7] at H
        have c7b0 : decide ((rd l0 x3_1) ≤ (rd l0 (ji3))) = true := decide_eq_true c7
        clear c7
        obtain rfl := Option.some.inj H
        have p319 : 0 ≤ ((ji3) : Int) := of_decide_eq_true (by first | (with_reducible assumption) | assumption)
        have q319 : (ji3) < (l0.length : Int) := of_decide_eq_true (by first | (with_reducible assumption) | assumption)
        obtain ⟨ad319, e319, hx319_0⟩ := Kd.at_int HR0.out (ji3) p319 q319
        cases e319
        replace p319 := eq_true p319
        replace q319 := eq_true q319
        have p320 : 0 ≤ (x3_1 : Int) := of_decide_eq_true (by first | (with_reducible assumption) | assumption)
        have q320 : x3_1 < (l0.length : Int) := of_decide_eq_true (by first | (with_reducible assumption) | assumption)
        obtain ⟨ad320, e320, hx320_0⟩ := Kd.at_int HR0.out x3_1 p320 q320
        obtain rfl : ad319 = ad320 := (by injection e320)
        replace p320 := eq_true p320
        replace q320 := eq_true q320
        go_wp2
        repeat (go_quiet (fail); try go_wp2)
        go_ret
        exact ⟨by first | rfl | (simp; done) | (simp only [← hji3] <;> (first | rfl | simp)) | (simp [*]; done), by repeat (first | exact Drawn0.refl _ | apply Drawn0.step)⟩
       ·
        rw [if_neg c7] at H
        have c7b0 : decide ((rd l0 x3_1) ≤ (rd l0 (ji3))) = false := decide_eq_false c7
        clear c7
        have H' := Aside0.mk H
        clear H
        have p319 : 0 ≤ ((ji3) : Int) := of_decide_eq_true (by first | (with_reducible assumption) | assumption)
        have q319 : (ji3) < (l0.length : Int) := of_decide_eq_true (by first | (with_reducible assumption) | assumption)
        obtain ⟨ad319, e319, hx319_0⟩ := Kd.at_int HR0.out (ji3) p319 q319
        cases e319
        replace p319 := eq_true p319
        replace q319 := eq_true q319
        have p320 : 0 ≤ (x3_1 : Int) := of_decide_eq_true (by first | (with_reducible assumption) | assumption)
        have q320 : x3_1 < (l0.length : Int) := of_decide_eq_true (by first | (with_reducible assumption) | assumption)
        obtain ⟨ad320, e320, hx320_0⟩ := Kd.at_int HR0.out x3_1 p320 q320
        obtain rfl : ad319 = ad320 := (by injection e320)
        replace p320 := eq_true p320
        replace q320 := eq_true q320
        go_wp2
        repeat (go_quiet (fail); try go_wp2)
        go_roundg k1
        case measure => have := HK1.out; omega
        case rel => exact ⟨(wrap64 (x3_1 + 1)), (by first | rfl | (simp; done) | (simp [*]; done)), H', ⟨by have := HK1.out; omega⟩, by repeat (first | exact Drawn0.refl _ | apply Drawn0.step)⟩
      ·
       rw [if_neg c6] at H
       exact absurd H (by simp)
     ·
      rw [if_neg c5] at H
      exact absurd H (by simp)
    ·
     rw [if_neg c4] at H
     exact absurd H (by simp)
   ·
    rw [if_neg c2] at H
    have c2b0 : decide (x3_1 < (l0.length : Int)) = false := decide_eq_false c2
    clear c2
    obtain rfl := Option.some.inj H
    go_wp2
    repeat (go_quiet (fail); try go_wp2)
    go_ret
    exact ⟨by first | rfl | (simp; done) | (simp [*]; done), by repeat (first | exact Drawn0.refl _ | apply Drawn0.step)⟩
end
def impl_lockOk.f (e g n t : Int) (xs : List Se) (ns : List No) (p v : List Int) (o m : Int) (h : List Int) (ep ge : Int) (wa : List Int) : Option Bool := some (lockB e g ⟨p, v, o, m, h, ep, ge, wa⟩)
set_option maxHeartbeats 8000000 in
set_option maxRecDepth 100000 in
theorem impl_lockOk.calls (e g n t : Int) (As : Option Addr) (cs : Nat) (xs : List Se) (An : Option Addr) (cn : Nat) (ns : List No) (A0 : Option Addr) (c0 : Nat) (p : List Int) (A1 : Option Addr) (c1 : Nat) (v : List Int) (o m : Int) (A4 : Option Addr) (c4 : Nat) (h : List Int) (ep ge : Int) (A7 : Option Addr) (c7 : Nat) (wa : List Int) (r : Bool) (w : World) (h1 : Kd.C kSe w As xs.length xs) (hc1 : xs.length ≤ cs) (h2 : Kd.C kNo w An ns.length ns) (hc2 : ns.length ≤ cn) (i0 : Kd.C (Kd.int .u8) w A0 p.length p) (j0 : p.length ≤ c0) (i1 : Kd.C (Kd.int .u8) w A1 v.length v) (j1 : v.length ≤ c1) (i4 : Kd.C (Kd.int .u64) w A4 h.length h) (j4 : h.length ≤ c4) (i7 : Kd.C (Kd.int .u64) w A7 wa.length wa) (j7 : wa.length ≤ c7) (hf : impl_lockOk.f e g n t xs ns p v o m h ep ge wa = some r) :
  Calls Tryz.prog 89 #[.agg #[.int .u64 e, .int .u64 g, .int .u64 n, .int .i64 t, .slice As xs.length cs, .slice An ns.length cn], .agg #[.slice A0 p.length c0, .slice A1 v.length c1, .int .u64 o, .int .i64 m, .slice A4 h.length c4, .int .u64 ep, .int .u64 ge, .slice A7 wa.length c7]] w fun e w' => e = .returned (.bool r) ∧ Below w.heap.size w w' := by
 obtain rfl := Option.some.inj hf
 clear hf h1 hc1 h2 hc2 i0 j0 i1 j1 i4 j4 i7 j7
 go_enter Tryz.func89, Tryz.ntmps89
 go_upto_region 1 with (fail)
 have bx := blk_alloc (blk_new w (.cells #[.int .u64 e, .int .u64 g, .int .u64 n, .int .i64 t, .slice As xs.length cs, .slice An ns.length cn] 31)) (.cells #[.slice A0 p.length c0, .slice A1 v.length c1, .int .u64 o, .int .i64 m, .slice A4 h.length c4, .int .u64 ep, .int .u64 ge, .slice A7 wa.length c7] 93)
 have bn := blk_new (w.alloc (.cells #[.int .u64 e, .int .u64 g, .int .u64 n, .int .i64 t, .slice As xs.length cs, .slice An ns.length cn] 31)) (.cells #[.slice A0 p.length c0, .slice A1 v.length c1, .int .u64 o, .int .i64 m, .slice A4 h.length c4, .int .u64 ep, .int .u64 ge, .slice A7 wa.length c7] 93)
 simp only [World.size_alloc] at bn
 have hB := below_alloc (below_alloc (Below.refl w.heap.size w) (.cells #[.int .u64 e, .int .u64 g, .int .u64 n, .int .i64 t, .slice As xs.length cs, .slice An ns.length cn] 31)) (.cells #[.slice A0 p.length c0, .slice A1 v.length c1, .int .u64 o, .int .i64 m, .slice A4 h.length c4, .int .u64 ep, .int .u64 ge, .slice A7 wa.length c7] 93)
 generalize (w.alloc (.cells #[.int .u64 e, .int .u64 g, .int .u64 n, .int .i64 t, .slice As xs.length cs, .slice An ns.length cn] 31)).alloc (.cells #[.slice A0 p.length c0, .slice A1 v.length c1, .int .u64 o, .int .i64 m, .slice A4 h.length c4, .int .u64 ep, .int .u64 ge, .slice A7 wa.length c7] 93) = W0 at *
 have HB := Aside0.mk hB
 obtain ⟨s0, s1, s2, s3, s4, s5⟩ := cells6 bx
 obtain ⟨n0, n1, n2, n3, n4, n5, n6, n7⟩ := cells8 bn
 clear bx bn hB s2 s3 s4 s5 n0 n1 n2 n7
 have HL := Aside0.mk (show ∀ b, lockB e g ⟨p, v, o, m, h, ep, ge, wa⟩ = b → lockB e g ⟨p, v, o, m, h, ep, ge, wa⟩ = b from fun _ q => q)
 have K1 : ∀ (a b : Int), a = b → (a == b) = true ∧ (a != b) = false := fun a b q => ⟨beq_iff_eq.mpr q, bne_eq_false_iff_eq.mpr q⟩
 have K2 : ∀ (a b : Int), ¬ a = b → (a == b) = false ∧ (a != b) = true := fun a b q => ⟨beq_eq_false_iff_ne.mpr q, bne_iff_ne.mpr q⟩
 rcases Decidable.em (m = 0) with q0 | q0
 ·
  obtain ⟨q0a, q0b⟩ := K1 _ _ q0
  rcases Decidable.em (h.length = 0) with k5 | k5
  ·
   obtain ⟨k5a, k5b⟩ := K1 (h.length : Int) 0 (by omega)
   have k5e : (h = []) = True := by cases h <;> simp_all
   rcases Decidable.em (ep = 0) with k6 | k6
   ·
    obtain ⟨k6a, k6b⟩ := K1 _ _ k6
    rcases Decidable.em (ge = 0) with k7 | k7
    ·
     obtain ⟨k7a, k7b⟩ := K1 _ _ k7
     have hl : lockB e g ⟨p, v, o, m, h, ep, ge, wa⟩ = true := by
      unfold lockB
      first | (simp [q0, k5, k6, k7]; done) | (simp [q0, k5, k6, k7]; omega)
     have HLE := Aside0.mk hl
     clear hl HL K1 K2 q0 k5 k6 k7
     go_wp2_with fail
     go_ret
     exact ⟨by rw [HLE.out]; rfl, HB.out⟩
    ·
     obtain ⟨k7a, k7b⟩ := K2 _ _ k7
     have hl : lockB e g ⟨p, v, o, m, h, ep, ge, wa⟩ = false := by
      unfold lockB
      first | (simp [q0, k5, k6, k7]; done) | (simp [q0, k5, k6, k7]; omega)
     have HLE := Aside0.mk hl
     clear hl HL K1 K2 q0 k5 k6 k7
     go_wp2_with fail
     go_ret
     exact ⟨by rw [HLE.out]; rfl, HB.out⟩
   ·
    obtain ⟨k6a, k6b⟩ := K2 _ _ k6
    have hl : lockB e g ⟨p, v, o, m, h, ep, ge, wa⟩ = false := by
     unfold lockB
     first | (simp [q0, k5, k6]; done) | (simp [q0, k5, k6]; omega)
    have HLE := Aside0.mk hl
    clear hl HL K1 K2 q0 k5 k6
    go_wp2_with fail
    go_ret
    exact ⟨by rw [HLE.out]; rfl, HB.out⟩
  ·
   obtain ⟨k5a, k5b⟩ := K2 (h.length : Int) 0 (by omega)
   have k5e : (h = []) = False := by cases h <;> simp_all
   have hl : lockB e g ⟨p, v, o, m, h, ep, ge, wa⟩ = false := by
    unfold lockB
    first | (simp [q0, k5]; done) | (simp [q0, k5]; omega)
   have HLE := Aside0.mk hl
   clear hl HL K1 K2 q0 k5
   go_wp2_with fail
   go_ret
   exact ⟨by rw [HLE.out]; rfl, HB.out⟩
 ·
  obtain ⟨q0a, q0b⟩ := K2 _ _ q0
  rcases Decidable.em (m = 1) with q1 | q1
  ·
   obtain ⟨q1a, q1b⟩ := K1 _ _ q1
   rcases Decidable.em (h.length = 1) with k1 | k1
   ·
    obtain ⟨k1a, k1b⟩ := K1 (h.length : Int) 1 (by omega)
    rcases Decidable.em (1 ≤ ge) with k2 | k2
    ·
     have k2a : decide (1 ≤ ge) = true := decide_eq_true k2
     rcases Decidable.em (ge ≤ g) with k3 | k3
     ·
      have k3a : decide (ge ≤ g) = true := decide_eq_true k3
      rcases Decidable.em (ep ≤ e) with k4 | k4
      ·
       have k4a : decide (ep ≤ e) = true := decide_eq_true k4
       have hl : lockB e g ⟨p, v, o, m, h, ep, ge, wa⟩ = true := by
        unfold lockB
        first | (simp [q1, k1, k2, k3, k4]; done) | (simp [q1, k1, k2, k3, k4]; omega)
       have HLE := Aside0.mk hl
       clear hl HL K1 K2 q0 q1 k1 k2 k3 k4
       go_wp2_with fail
       go_ret
       exact ⟨by rw [HLE.out]; rfl, HB.out⟩
      ·
       have k4a : decide (ep ≤ e) = false := decide_eq_false k4
       have hl : lockB e g ⟨p, v, o, m, h, ep, ge, wa⟩ = false := by
        unfold lockB
        first | (simp [q1, k1, k2, k3, k4]; done) | (simp [q1, k1, k2, k3, k4]; omega)
       have HLE := Aside0.mk hl
       clear hl HL K1 K2 q0 q1 k1 k2 k3 k4
       go_wp2_with fail
       go_ret
       exact ⟨by rw [HLE.out]; rfl, HB.out⟩
     ·
      have k3a : decide (ge ≤ g) = false := decide_eq_false k3
      have hl : lockB e g ⟨p, v, o, m, h, ep, ge, wa⟩ = false := by
       unfold lockB
       first | (simp [q1, k1, k2, k3]; done) | (simp [q1, k1, k2, k3]; omega)
      have HLE := Aside0.mk hl
      clear hl HL K1 K2 q0 q1 k1 k2 k3
      go_wp2_with fail
      go_ret
      exact ⟨by rw [HLE.out]; rfl, HB.out⟩
    ·
     have k2a : decide (1 ≤ ge) = false := decide_eq_false k2
     have hl : lockB e g ⟨p, v, o, m, h, ep, ge, wa⟩ = false := by
      unfold lockB
      first | (simp [q1, k1, k2]; done) | (simp [q1, k1, k2]; omega)
     have HLE := Aside0.mk hl
     clear hl HL K1 K2 q0 q1 k1 k2
     go_wp2_with fail
     go_ret
     exact ⟨by rw [HLE.out]; rfl, HB.out⟩
   ·
    obtain ⟨k1a, k1b⟩ := K2 (h.length : Int) 1 (by omega)
    have hl : lockB e g ⟨p, v, o, m, h, ep, ge, wa⟩ = false := by
     unfold lockB
     first | (simp [q1, k1]; done) | (simp [q1, k1]; omega)
    have HLE := Aside0.mk hl
    clear hl HL K1 K2 q0 q1 k1
    go_wp2_with fail
    go_ret
    exact ⟨by rw [HLE.out]; rfl, HB.out⟩
  ·
   obtain ⟨q1a, q1b⟩ := K2 _ _ q1
   rcases Decidable.em (m = 2) with q2 | q2
   ·
    obtain ⟨q2a, q2b⟩ := K1 _ _ q2
    rcases Decidable.em (1 ≤ h.length) with k5 | k5
    ·
     have k5a : decide (1 ≤ (h.length : Int)) = true := decide_eq_true (by omega)
     have k5b : decide (1 ≤ h.length) = true := decide_eq_true k5
     rcases Decidable.em (ep = 0) with k6 | k6
     ·
      obtain ⟨k6a, k6b⟩ := K1 _ _ k6
      rcases Decidable.em (ge = 0) with k7 | k7
      ·
       obtain ⟨k7a, k7b⟩ := K1 _ _ k7
       have hl : lockB e g ⟨p, v, o, m, h, ep, ge, wa⟩ = true := by
        unfold lockB
        first | (simp [q0, q1, q2, k5, k6, k7]; done) | (simp [q0, q1, q2, k5, k6, k7]; omega)
       have HLE := Aside0.mk hl
       clear hl HL K1 K2 q0 q1 q2 k5 k6 k7
       go_wp2_with fail
       go_ret
       exact ⟨by rw [HLE.out]; rfl, HB.out⟩
      ·
       obtain ⟨k7a, k7b⟩ := K2 _ _ k7
       have hl : lockB e g ⟨p, v, o, m, h, ep, ge, wa⟩ = false := by
        unfold lockB
        first | (simp [q0, q1, q2, k5, k6, k7]; done) | (simp [q0, q1, q2, k5, k6, k7]; omega)
       have HLE := Aside0.mk hl
       clear hl HL K1 K2 q0 q1 q2 k5 k6 k7
       go_wp2_with fail
       go_ret
       exact ⟨by rw [HLE.out]; rfl, HB.out⟩
     ·
      obtain ⟨k6a, k6b⟩ := K2 _ _ k6
      have hl : lockB e g ⟨p, v, o, m, h, ep, ge, wa⟩ = false := by
       unfold lockB
       first | (simp [q0, q1, q2, k5, k6]; done) | (simp [q0, q1, q2, k5, k6]; omega)
      have HLE := Aside0.mk hl
      clear hl HL K1 K2 q0 q1 q2 k5 k6
      go_wp2_with fail
      go_ret
      exact ⟨by rw [HLE.out]; rfl, HB.out⟩
    ·
     have k5a : decide (1 ≤ (h.length : Int)) = false := decide_eq_false (by omega)
     have k5b : decide (1 ≤ h.length) = false := decide_eq_false k5
     have hl : lockB e g ⟨p, v, o, m, h, ep, ge, wa⟩ = false := by
      unfold lockB
      first | (simp [q0, q1, q2, k5]; done) | (simp [q0, q1, q2, k5]; omega)
     have HLE := Aside0.mk hl
     clear hl HL K1 K2 q0 q1 q2 k5
     go_wp2_with fail
     go_ret
     exact ⟨by rw [HLE.out]; rfl, HB.out⟩
   ·
    obtain ⟨q2a, q2b⟩ := K2 _ _ q2
    have hl : lockB e g ⟨p, v, o, m, h, ep, ge, wa⟩ = false := by
     unfold lockB
     first | (simp [q0, q1, q2]; done) | (simp [q0, q1, q2]; omega)
    have HLE := Aside0.mk hl
    clear hl HL K1 K2 q0 q1 q2
    go_wp2_with fail
    go_ret
    exact ⟨by rw [HLE.out]; rfl, HB.out⟩
theorem char_cases (x : Int) : (charB x = true ∧ (decide (97 ≤ x) = true ∧ decide (x ≤ 122) = true)) ∨
  (charB x = true ∧ decide (97 ≤ x) = false ∧ decide (48 ≤ x) = true ∧ decide (x ≤ 57) = true) ∨
  (charB x = true ∧ x = 45) ∨ (charB x = true ∧ x = 95) ∨
  (charB x = false ∧ decide (97 ≤ x) = false ∧ decide (48 ≤ x) = false ∧ decide (x = 45) = false ∧ decide (x = 95) = false ∧ (x == 45) = false ∧ (x == 95) = false) ∨
  (charB x = false ∧ decide (97 ≤ x) = false ∧ decide (48 ≤ x) = true ∧ decide (x ≤ 57) = false ∧ decide (x = 45) = false ∧ decide (x = 95) = false ∧ (x == 45) = false ∧ (x == 95) = false) ∨
  (charB x = false ∧ decide (97 ≤ x) = true ∧ decide (x ≤ 122) = false ∧ decide (48 ≤ x) = true ∧ decide (x ≤ 57) = false ∧ decide (x = 45) = false ∧ decide (x = 95) = false ∧ (x == 45) = false ∧ (x == 95) = false) := by
 unfold charB
 by_cases h1 : 97 ≤ x
 ·
  by_cases h2 : x ≤ 122
  ·
   simp [h1, h2]
  ·
   have h3 : 48 ≤ x := by omega
   have h4 : ¬ x ≤ 57 := by omega
   have h5 : ¬ x = 45 := by omega
   have h6 : ¬ x = 95 := by omega
   simp [h1, h2, h3, h4, h5, h6]
 ·
  by_cases h3 : 48 ≤ x
  ·
   by_cases h4 : x ≤ 57
   ·
    simp [h1, h3, h4]
   ·
    by_cases h6 : x = 95
    ·
     simp [h6]
    ·
     have h5 : ¬ x = 45 := by omega
     simp [h1, h3, h4, h5, h6]
  ·
   by_cases h5 : x = 45
   ·
    simp [h5]
   ·
    have h6 : ¬ x = 95 := by omega
    simp [h1, h3, h5, h6]
theorem nameB_yes {l : List Int} (h1 : 1 ≤ l.length) (h2 : l.length ≤ 16) (h : ∀ j, j < l.length → charB (rd l (j : Nat)) = true) : nameB l = true := by
 unfold nameB
 simp only [Bool.and_eq_true, decide_eq_true_eq, List.all_eq_true]
 refine ⟨⟨h1, h2⟩, fun x hx => ?_⟩
 obtain ⟨j, hj, rfl⟩ := List.getElem_of_mem hx
 have := h j hj
 unfold rd at this
 simpa [List.getD_eq_getElem?_getD, hj] using this
theorem nameB_no {l : List Int} {j : Nat} (hj : j < l.length) (h : charB (rd l (j : Nat)) = false) : nameB l = false := by
 unfold nameB
 have : l.all charB = false := by
  rw [List.all_eq_false]
  refine ⟨l[j], List.getElem_mem hj, ?_⟩
  unfold rd at h
  simp [List.getD_eq_getElem?_getD, hj] at h
  simp [h]
 simp [this]
set_option maxHeartbeats 2000000 in
set_option maxRecDepth 100000 in
theorem nameOk_calls (A : Option Addr) (c : Nat) (l : List Int) (w : World) (h : Kd.C (Kd.int .u8) w A l.length l) (hc : l.length ≤ c) :
  Calls Tryz.prog 135 #[.slice A l.length c] w fun e w' => e = .returned (.bool (nameB l)) ∧ w' = w := by
 by_cases h1 : l.length < 1
 ·
  have e : nameB l = false := by unfold nameB; rw [decide_eq_false (by omega)]; rfl
  have d1 : decide ((l.length : Int) < 1) = true := decide_eq_true (by omega)
  rw [e]
  clear e
  go_enter Tryz.func135, Tryz.ntmps135
  go_wp2
  go_ret
  exact ⟨rfl, rfl⟩
 by_cases h2 : 16 < l.length
 ·
  have e : nameB l = false := by unfold nameB; rw [decide_eq_false (show ¬ l.length ≤ 16 by omega)]; simp
  have d1 : decide ((l.length : Int) < 1) = false := decide_eq_false (by omega)
  have d2 : decide ((16 : Int) < (l.length : Int)) = true := decide_eq_true (by omega)
  rw [e]
  clear e
  go_enter Tryz.func135, Tryz.ntmps135
  go_wp2
  go_ret
  exact ⟨rfl, rfl⟩
 have d1 : decide ((l.length : Int) < 1) = false := decide_eq_false (by omega)
 have d2 : decide ((16 : Int) < (l.length : Int)) = false := decide_eq_false (by omega)
 have HR := Aside0.mk h
 have HL := Aside0.mk (show 1 ≤ l.length ∧ l.length ≤ 16 by omega)
 clear h h1 h2
 go_enter Tryz.func135, Tryz.ntmps135
 go_wp2
 clear d1 d2
 go_loop [15] (fun v15 => ∃ i : Nat, v15 = .int .i64 i ∧ Aside0 (i ≤ l.length ∧ ∀ j, j < i → charB (rd l (j : Nat)) = true)) (fun v15 => l.length - (intOf v15).toNat)
 case atStart => exact ⟨0, rfl, ⟨⟨Nat.zero_le _, fun j hj => absurd hj (Nat.not_lt_zero _)⟩⟩⟩
 case round =>
  obtain ⟨i, rfl, HI⟩ := hrel
  by_cases hlt : i < l.length
  ·
   have d3 : decide ((i : Int) < (l.length : Int)) = true := decide_eq_true (by omega)
   obtain ⟨ad, rfl, hx⟩ := Kd.at_int HR.out (i : Int) (by omega) (by omega)
   rw [Int.toNat_natCast] at hx
   have HX := Aside0.mk (show rd l (i : Nat) = rd l (i : Nat) from rfl)
   obtain ⟨x, hxx⟩ : ∃ x, rd l (i : Nat) = x := ⟨_, rfl⟩
   rw [hxx] at hx
   have HXX := Aside0.mk hxx
   have hi1 : (0 : Int) ≤ i := by omega
   have hi2 : (i : Int) < (l.length : Int) := by omega
   have hlen : l.length ≤ 16 := HL.out.2
   clear hxx HX
   rcases char_cases x with ⟨hb, q1, q2⟩ | ⟨hb, q1, q2, q3⟩ | ⟨hb, rfl⟩ | ⟨hb, rfl⟩ | ⟨hb, q1, q2, q3, q4, q5, q6⟩ | ⟨hb, q1, q2, q3, q4, q5, q6, q7⟩ | ⟨hb, q1, q2, q3, q4, q5, q6, q7, q8⟩
   ·
    have HB := Aside0.mk hb
    clear hb
    go_wp2
    go_round
    case rel => exact ⟨i + 1, by go_num, ⟨⟨by omega, fun j hj => by
     by_cases e : j = i
     ·
      rw [e, HXX.out]; exact HB.out
     ·
      exact HI.out.2 j (by omega)⟩⟩⟩
    case measure => simp [intOf]; omega
   ·
    have HB := Aside0.mk hb
    clear hb
    go_wp2
    go_round
    case rel => exact ⟨i + 1, by go_num, ⟨⟨by omega, fun j hj => by
     by_cases e : j = i
     ·
      rw [e, HXX.out]; exact HB.out
     ·
      exact HI.out.2 j (by omega)⟩⟩⟩
    case measure => simp [intOf]; omega
   ·
    have HB := Aside0.mk hb
    clear hb
    go_wp2
    go_round
    case rel => exact ⟨i + 1, by go_num, ⟨⟨by omega, fun j hj => by
     by_cases e : j = i
     ·
      rw [e, HXX.out]; exact HB.out
     ·
      exact HI.out.2 j (by omega)⟩⟩⟩
    case measure => simp [intOf]; omega
   ·
    have HB := Aside0.mk hb
    clear hb
    go_wp2
    go_round
    case rel => exact ⟨i + 1, by go_num, ⟨⟨by omega, fun j hj => by
     by_cases e : j = i
     ·
      rw [e, HXX.out]; exact HB.out
     ·
      exact HI.out.2 j (by omega)⟩⟩⟩
    case measure => simp [intOf]; omega
   all_goals
    have HB := Aside0.mk hb
    clear hb
    go_wp2
    go_ret
    rw [nameB_no hlt (by rw [HXX.out]; exact HB.out)]
    exact ⟨rfl, rfl⟩
  ·
   have d3 : decide ((i : Int) < (l.length : Int)) = false := decide_eq_false (by omega)
   obtain rfl : i = l.length := by have := HI.out.1; omega
   go_wp2
   go_ret
   rw [nameB_yes HL.out.1 HL.out.2 HI.out.2]
   exact ⟨rfl, rfl⟩
set_option maxHeartbeats 2000000 in
set_option maxRecDepth 100000 in
theorem nameNot_calls (A : Option Addr) (c : Nat) (l : List Int) (w : World) (h : Kd.C (Kd.int .u8) w A l.length l) (hc : l.length ≤ c) :
  Calls Tryz.prog 134 #[.slice A l.length c] w fun e w' => e = .returned (.bool (!nameB l)) ∧ w' = w := by
 go_enter Tryz.func134, Tryz.ntmps134
 go_wp2_with (go_at_call 135; refine (nameOk_calls A c l w h hc).mono ?_; rintro e w' ⟨rfl, rfl⟩)
 go_ret
 exact ⟨rfl, rfl⟩
end Go.Proofs.YtbgbocdohadhoaaGreatDoor.Print
namespace Go.Proofs
open Go.Shelf
def Tryz.laysSplit_ren : Go.Shelf.Ren := ⟨fun | 7 => 132 | 11 => 159 | 14 => 176 | 15 => 177 | 16 => 178 | 17 => 192 | 19 => 193 | 20 => 194 | 21 => 195 | 22 => 59 | 23 => 196 | 24 => 197 | 25 => 198 | 26 => 205 | 29 => 206 | 30 => 207 | 31 => 208 | n => n, fun | 22 => 38 | 23 => 149 | 3 => 3 | 4 => 4 | 0 => 0 | 34 => 211 | 21 => 21 | 5 => 5 | 45 => 137 | 9 => 9 | 58 => 222 | 38 => 150 | 28 => 240 | 62 => 243 | 61 => 242 | n => n, fun | 2 => 0 | 3 => 1 | 4 => 2 | n => n⟩
theorem Tryz.laysSplit : Go.Proofs.SlLaysP.n7 Tryz.prog Tryz.laysSplit_ren := {
 mixed := by kernel_rfl
 f7 := Tryz.func132.trans (congrArg some (by kernel_rfl))
 f11 := Tryz.func159.trans (congrArg some (by kernel_rfl))
 f15 := Tryz.func177.trans (congrArg some (by kernel_rfl))
 f16 := Tryz.func178.trans (congrArg some (by kernel_rfl))
 f20 := Tryz.func194.trans (congrArg some (by kernel_rfl))
 f21 := Tryz.func195.trans (congrArg some (by kernel_rfl))
 f22 := Tryz.func59.trans (congrArg some (by kernel_rfl))
 f23 := Tryz.func196.trans (congrArg some (by kernel_rfl))
 f24 := Tryz.func197.trans (congrArg some (by kernel_rfl))
 f25 := Tryz.func198.trans (congrArg some (by kernel_rfl))
 f30 := Tryz.func207.trans (congrArg some (by kernel_rfl))
 f31 := Tryz.func208.trans (congrArg some (by kernel_rfl))
 t0 := Tryz.underlying0
 a0 := Tryz.isAgg0
 z0 := Tryz.sizeOf0
 v0 := Tryz.zeroValue0
 t3 := Tryz.underlying3
 a3 := Tryz.isAgg3
 z3 := Tryz.sizeOf3
 v3 := Tryz.zeroValue3
 t4 := Tryz.underlying4
 a4 := Tryz.isAgg4
 z4 := Tryz.sizeOf4
 v4 := Tryz.zeroValue4
 t5 := Tryz.underlying5
 a5 := Tryz.isAgg5
 z5 := Tryz.sizeOf5
 v5 := Tryz.zeroValue5
 t9 := Tryz.underlying9
 a9 := Tryz.isAgg9
 z9 := Tryz.sizeOf9
 v9 := Tryz.zeroValue9
 t22 := Tryz.underlying38
 a22 := Tryz.isAgg38
 z22 := Tryz.sizeOf38
 v22 := Tryz.zeroValue38
 t23 := Tryz.underlying149
 a23 := Tryz.isAgg149
 z23 := Tryz.sizeOf149
 v23 := Tryz.zeroValue149
 t38 := Tryz.underlying150
 a38 := Tryz.isAgg150
 z38 := Tryz.sizeOf150
 v38 := Tryz.zeroValue150
 t45 := Tryz.underlying137
 a45 := Tryz.isAgg137
 z45 := Tryz.sizeOf137
 v45 := Tryz.zeroValue137
 t58 := Tryz.underlying222
 a58 := Tryz.isAgg222
 z58 := Tryz.sizeOf222
 v58 := Tryz.zeroValue222
 g2 := by kernel_rfl
 i22 := by kernel_rfl }
def Tryz.laysCF_ren : Go.Shelf.Ren := ⟨fun | 8 => 133 | 6 => 160 | n => n, fun | 22 => 149 | 23 => 38 | 25 => 54 | 4 => 4 | 3 => 3 | 0 => 0 | n => n, fun | n => n⟩
theorem Tryz.laysCF : Go.Proofs.SlLaysH.n8 Tryz.prog Tryz.laysCF_ren := {
 mixed := by kernel_rfl
 f6 := ⟨Tryz.f160.name, by decide, Tryz.func160.trans (congrArg some (by kernel_rfl))⟩
 f8 := ⟨Tryz.f133.name, by decide, Tryz.func133.trans (congrArg some (by kernel_rfl))⟩
 t0 := Tryz.underlying0
 a0 := Tryz.isAgg0
 z0 := Tryz.sizeOf0
 v0 := Tryz.zeroValue0
 t3 := Tryz.underlying3
 a3 := Tryz.isAgg3
 z3 := Tryz.sizeOf3
 v3 := Tryz.zeroValue3
 t4 := Tryz.underlying4
 a4 := Tryz.isAgg4
 z4 := Tryz.sizeOf4
 v4 := Tryz.zeroValue4
 t22 := Tryz.underlying149
 a22 := Tryz.isAgg149
 z22 := Tryz.sizeOf149
 v22 := Tryz.zeroValue149
 a23 := Tryz.isAgg38
 z23 := Tryz.sizeOf38
 t25 := Tryz.underlying54
 a25 := Tryz.isAgg54
 z25 := Tryz.sizeOf54
 v25 := Tryz.zeroValue54 }
end Go.Proofs
