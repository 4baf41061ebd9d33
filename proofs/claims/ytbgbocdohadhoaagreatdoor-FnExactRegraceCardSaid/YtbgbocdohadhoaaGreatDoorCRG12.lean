/- Texts of this session, joined by its own program. -/
import Derived.Maps.OwnSet
import Derived.Test.YtbgbocdohadhoaaGreatDoorCards
import Derived.Test.YtbgbocdohadhoaaGreatDoorTie
import Derived.WalkKit
import Derived.Below
import Derived.LaidMore
import Derived.Lay
import Derived.SevenTiedAt
import Derived.Stop.Joined
import Derived.Test.YtbgbocdohadhoaaGreatDoorCRG11
namespace Go.Proofs.YtbgbocdohadhoaaGreatDoor.Print
open Go Go.RowKit Go.Proofs.YtbgbocdohadhoaaGreatDoorW.PrintWords Go.Proofs.YtbgbocdohadhoaaGreatDoorW.PrintLast Go.Proofs.YtbgbocdohadhoaaGreatDoorW.PrintMore
set_option linter.unusedVariables false
set_option linter.unusedSimpArgs false
theorem rd_sv (xs : List Se) (i : Nat) (h : i < xs.length) : rd_T90 xs (i : Int) = xs[i] := by unfold rd_T90; rw [Int.toNat_natCast, List.getD_eq_getElem?_getD, List.getElem?_eq_getElem h]; rfl
theorem rd_nv (xs : List No) (i : Nat) (h : i < xs.length) : rd_T93 xs (i : Int) = xs[i] := by unfold rd_T93; rw [Int.toNat_natCast, List.getD_eq_getElem?_getD, List.getElem?_eq_getElem h]; rfl
structure SmV (xs : List Se) (ns : List No) : Prop where
 x : xs.length ≤ 2097152
 n : ns.length ≤ 2097152
 e : ∀ x ∈ xs, x.f2.length ≤ 2097152 ∧ ∀ y ∈ x.f2, y.f1.length ≤ 2097152 ∧ ∀ z ∈ y.f1, 0 ≤ z ∧ z < 256
 m : ∀ x ∈ ns, ((x.f0.length ≤ 2097152 ∧ ∀ z ∈ x.f0, 0 ≤ z ∧ z < 256) ∧ x.f1.length ≤ 2097152) ∧ x.f4.length ≤ 2097152 ∧ x.f7.length ≤ 2097152
structure RgS (xs : List Se) (ns : List No) : Prop where
 x : ∀ x ∈ xs, 0 ≤ x.f0 ∧ x.f0 < 18446744073709551616
 m : ∀ x ∈ ns, (0 ≤ x.f2 ∧ x.f2 < 18446744073709551616) ∧ (∀ z ∈ x.f4, 0 ≤ z ∧ z < 18446744073709551616) ∧ (∀ z ∈ x.f7, 0 ≤ z ∧ z < 18446744073709551616)
theorem wf_i64 (i : Nat) (h : i ≤ 2097152) : (Lit.int .i64 (i : Int)).wf = true := by
  unfold Lit.wf
  rw [Bool.and_eq_true, decide_eq_true_eq, decide_eq_true_eq]
  exact ⟨by have : IntKind.i64.min = -9223372036854775808 := by decide
            rw [this]; omega, by have : IntKind.i64.max = 9223372036854775807 := by decide
                                 rw [this]; omega⟩
theorem path_head {p : List Int} (h : pathB p = true) : ∃ r, p = 47 :: r := by
 cases p with
 | nil => cases h
 | cons c r =>
  unfold pathB at h
  simp only [Bool.and_eq_true, beq_iff_eq] at h
  exact ⟨r, by rw [h.1.1]⟩
theorem below_grown {base : Nat} {w w1 w2 : World} {b : Nat} (h : Below base w w1) (hb : base ≤ b) (hg : w1.grownBy w2 (some b)) (hs : base ≤ w1.heap.size) : Below base w w2 := h.grown hg hs (fun k hk => by cases hk; exact hb)
theorem cells1 {w : World} {g t : Nat} {v0 : Value} (h : w.heap[g]? = some (.cells #[v0] t (0, 0))) : w.cell? ⟨g, 0, none⟩ = some v0 := (blk_cell h 0).trans rfl
theorem updV {w W3 W4 : World} {a b c G G3 i2 : Nat} {x y z : Obj} {xs : List Se} {ns : List No} (HS : Aside0 (W3.heap[a]? = some x)) (HX : Aside0 (W3.heap[b]? = some y)) (BN : Aside0 (W3.heap[c]? = some z)) (HB : Aside0 (Below w.heap.size w W3)) (HM : Aside0 (∃ mm, mm ≤ xs.length ∧ IdMap W3 G mm xs)) (HO : Aside0 (∃ mm, mm ≤ i2 + 1 ∧ OwnMap W3 G3 mm (ns.take i2))) (hb : Below W3.heap.size W3 W4) :
  Aside0 (W4.heap[a]? = some x) ∧ Aside0 (W4.heap[b]? = some y) ∧ Aside0 (W4.heap[c]? = some z) ∧ Aside0 (Below w.heap.size w W4) ∧ Aside0 (∃ mm, mm ≤ xs.length ∧ IdMap W4 G mm xs) ∧ Aside0 (∃ mm, mm ≤ i2 + 1 ∧ OwnMap W4 G3 mm (ns.take i2)) := by
 obtain ⟨m1, h1, h2⟩ := HM.out
 obtain ⟨m2, h3, h4⟩ := HO.out
 exact ⟨⟨blk_below HS.out hb⟩, ⟨blk_below HX.out hb⟩, ⟨blk_below BN.out hb⟩, ⟨below_step HB.out hb⟩, ⟨m1, h1, h2.below h2.lt hb⟩, ⟨m2, h3, h4.below h4.lt hb⟩⟩
set_option maxHeartbeats 16000000 in
set_option maxRecDepth 100000 in
theorem impl_ValidState_calls (e g n t : Int) (As : Option Addr) (cs : Nat) (xs : List Se) (An : Option Addr) (cn : Nat) (ns : List No) (w : World) (h1 : Kd.C kSe w As xs.length xs) (hc1 : xs.length ≤ cs) (h2 : Kd.C kNo w An ns.length ns) (hc2 : ns.length ≤ cn) (hs : SmV xs ns) (hr : RgS xs ns) :
  Calls Tryz.prog 35 #[.agg #[.int .u64 e, .int .u64 g, .int .u64 n, .int .i64 t, .slice As xs.length cs, .slice An ns.length cn]] w fun r w' => r = .returned (.bool (validI e g n t xs ns)) ∧ Below w.heap.size w w' := by
 have H1 := Aside0.mk (And.intro h1 hc1)
 have H2 := Aside0.mk (And.intro h2 hc2)
 have HSM := Aside0.mk hs
 have HRG := Aside0.mk hr
 have hxl := hs.x
 have hnl := hs.n
 have HD := Aside0.mk (fun (W : World) (hW : Below w.heap.size w W) => impl_headOk.calls e g n t As cs xs An cn ns (headB e g n t xs.length ns.length) W (Kd.C_below h1 hW) hc1 (Kd.C_below h2 hW) hc2 (headOk_f e g n t xs ns))
 clear h1 hc1 h2 hc2 hs hr
 have HV := Aside0.mk (show validI e g n t xs ns = (headB e g n t xs.length ns.length && allI (sesB n xs) 0 xs && allI (nodeI e g xs ns) 0 ns) from rfl)
 obtain ⟨hd, hhd⟩ : ∃ hd, headB e g n t xs.length ns.length = hd := ⟨_, rfl⟩
 have H50 := Aside0.mk (show hd = true → xs.length ≤ 50 ∧ ns.length ≤ 200 from fun h => by
  rw [← hhd] at h
  unfold headB at h
  simp only [Bool.and_eq_true, decide_eq_true_eq] at h
  exact ⟨h.1.2, h.2⟩)
 rw [hhd] at HD HV
 clear hhd
 have hmm := @run_makeMap Tryz.prog
 go_enter Tryz.func35, Tryz.ntmps35
 go_wp2_with fail
 have b0 := blk_new w (.cells #[.int .u64 e, .int .u64 g, .int .u64 n, .int .i64 t, .slice As xs.length cs, .slice An ns.length cn] 31)
 have hB := below_alloc (Below.refl w.heap.size w) (.cells #[.int .u64 e, .int .u64 g, .int .u64 n, .int .i64 t, .slice As xs.length cs, .slice An ns.length cn] 31)
 generalize w.alloc (.cells #[.int .u64 e, .int .u64 g, .int .u64 n, .int .i64 t, .slice As xs.length cs, .slice An ns.length cn] 31) = W0 at b0 hB ⊢
 have BS := Aside0.mk b0
 have HB := Aside0.mk hB
 clear b0 hB
 refine (HD.out _ HB.out).mono ?_
 rintro r W1 ⟨rfl, hb⟩
 replace BS := Aside0.mk (blk_below BS.out hb)
 replace HB := Aside0.mk (below_step HB.out hb)
 clear hb
 cases hd with
 | false =>
  go_wp2_with fail
  go_ret
  rw [HV.out]
  exact ⟨by simp, HB.out⟩
 | true =>
  have h50 := H50.out rfl
  clear H50 HD
  have hs1 := blk_below BS.out (below_alloc (below_alloc (Below.refl W1.heap.size W1) (.map #[] 0)) (.cells #[.map (some W1.heap.size)] 109))
  have s4 := blk_cell hs1 4
  have s5 := blk_cell hs1 5
  simp only [List.getElem?_toArray, List.getElem?_cons_zero, List.getElem?_cons_succ] at s4 s5
  go_wp2_with fail
  have hG : W1.heap.size = W1.heap.size := rfl
  have m0 := idMap_made W1
  have x0 := blk_new (W1.alloc (.map #[] 0)) (.cells #[.map (some W1.heap.size)] 109)
  simp only [World.size_alloc] at x0
  have m1 := m0.below (base := W1.heap.size + 1) (by omega) (show Below (W1.heap.size + 1) (W1.alloc (.map #[] 0)) _ from (below_alloc (Below.refl (W1.alloc (.map #[] 0)).heap.size (W1.alloc (.map #[] 0))) (.cells #[.map (some W1.heap.size)] 109)).mono (by rw [World.size_alloc]; exact Nat.le_refl _))
  have hb1 := below_alloc (below_alloc HB.out (.map #[] 0)) (.cells #[.map (some W1.heap.size)] 109)
  have hgt := HB.out.size
  have hlt : w.heap.size < W1.heap.size := (Array.getElem?_eq_some_iff.1 BS.out).1
  have hbx : Below w.heap.size w ((W1.alloc (.map #[] 0)).alloc (.cells #[.map (some W1.heap.size)] 109)) := hb1
  generalize (W1.alloc (.map #[] 0)).alloc (.cells #[.map (some W1.heap.size)] 109) = W2 at *
  generalize W1.heap.size = G at *
  have HS := Aside0.mk hs1
  have HX := Aside0.mk x0
  have HM := Aside0.mk m1
  replace HB := Aside0.mk hbx
  have HG := Aside0.mk hlt
  clear hG m0 x0 m1 hb1 hs1 hgt hlt s4 s5 BS hbx
  go_loopg [19] (xs.length + 1) (fun kq v19 w' => ∃ i : Nat, v19 = .int .i64 i ∧ Aside0 (kq + i = xs.length + 1 ∧ i ≤ xs.length) ∧ Aside0 (allI (sesB n xs) 0 xs = allI (sesB n xs) i (xs.drop i)) ∧ Aside0 (w'.heap[w.heap.size]? = some (.cells #[.int .u64 e, .int .u64 g, .int .u64 n, .int .i64 t, .slice As xs.length cs, .slice An ns.length cn] 31)) ∧ Aside0 (w'.heap[G + 1]? = some (.cells #[.map (some G)] 109)) ∧ Aside0 (∃ m, m ≤ i ∧ IdMap w' G m (xs.take i)) ∧ Aside0 (Below w.heap.size w w'))
  case atStart => exact ⟨0, rfl, ⟨⟨by omega, by omega⟩⟩, ⟨by rw [List.drop_zero]⟩, HS, HX, ⟨⟨0, by omega, by rw [List.take_zero]; exact HM.out⟩⟩, HB⟩
  case round =>
   as_aux_lemma =>
    clear HS HX HM HB
    obtain ⟨i, rfl, HJ, HA, HS, HX, HM, HB⟩ := hrel
    have hj0 := HJ.out
    by_cases hj : i < xs.length
    ·
     have c1 : decide ((i : Int) < (xs.length : Int)) = true := decide_eq_true (by omega)
     have ci : (0 : Int) ≤ (i : Int) := by omega
     have ci2 : (i : Int) < (xs.length : Int) := by omega
     obtain ⟨ad, A2, c2, eA, hx0, hx1, hx2, hl2, hi2⟩ := at_T90 H1.out.1 (i : Int) ci ci2
     rw [rd_sv xs i hj] at hx0 hx1 hx2 hl2 hi2
     rw [Int.toNat_natCast] at hx0 hx1 hx2
     cases eA
     have hprev : 0 < i → wr.cell? (ad.add ((i - 1) * 3)) = some (.int .u64 (xs.getD (i - 1) zSe).f0) := by
      intro h0
      have hj1 : i - 1 < xs.length := by omega
      obtain ⟨ad', A2', c2', eA', hy0, _⟩ := at_T90 H1.out.1 ((i - 1 : Nat) : Int) (by omega) (by omega)
      rw [rd_sv xs (i - 1) hj1] at hy0
      rw [Int.toNat_natCast] at hy0
      cases eA'
      rw [show xs.getD (i - 1) zSe = xs[i - 1] by rw [List.getD_eq_getElem?_getD, List.getElem?_eq_getElem hj1]; rfl]
      exact (HB.out.cell (World.block_lt_of_cell? w _ hy0)).trans hy0
     have hal : ∀ {a : Addr} {z : Value}, w.cell? a = some z → wr.cell? a = some z := fun hz => (HB.out.cell (World.block_lt_of_cell? w _ hz)).trans hz
     replace hx0 := hal hx0
     replace hx1 := hal hx1
     replace hx2 := hal hx2
     clear hal
     have HE := Aside0.mk (show ∀ b, sesB n xs i xs[i] = b → allI (sesB n xs) 0 xs = (b && allI (sesB n xs) (i + 1) (xs.drop (i + 1))) from fun b hb => by rw [HA.out, allI_drop _ xs i hj, hb])
     have hq := (HSM.out.e xs[i] (List.getElem_mem hj)).2
     have QU := Aside0.mk (fun (W : World) (hW : Below w.heap.size w W) => impl_queueOk.calls 10000000 A2 c2 xs[i].f2 (queueB xs[i].f2) W (Kd.C_below hi2 hW) hl2 (queueI_f xs[i].f2 (fun y hy => (hq y hy).2)))
     have hrg := HRG.out.x xs[i] (List.getElem_mem hj)
     have HT := Aside0.mk (show xs.take (i + 1) = xs.take i ++ [xs[i]] from List.take_succ_eq_append_getElem hj)
     obtain ⟨y, hy⟩ : ∃ y, xs[i] = y := ⟨_, rfl⟩
     rw [hy] at hx0 hx1 hx2 hrg
     simp only [hy] at QU HE HT
     clear hy hq hl2 hi2
     obtain ⟨id, dl, q⟩ := y
     simp only at hx0 hx1 hx2 hrg QU
     obtain ⟨p, hp⟩ : ∃ p, (xs.getD (i - 1) zSe).f0 = p := ⟨_, rfl⟩
     obtain ⟨bq, hbq⟩ : ∃ b, queueB q = b := ⟨_, rfl⟩
     have hE : sesB n xs i ⟨id, dl, q⟩ = (decide (1 ≤ id) && decide (id ≤ n) && (i == 0 || decide (p < id)) && decide (0 ≤ dl) && decide (dl ≤ 1000015) && bq) := by unfold sesB; rw [hp, hbq]
     rw [hp] at hprev
     rw [hbq] at QU
     rw [hE] at HE
     clear hp hbq hE
     have HRID := Aside0.mk hrg
     have HPV := Aside0.mk hprev
     clear hrg hprev
     have s4 := blk_cell HS.out 4
     simp only [List.getElem?_toArray, List.getElem?_cons_zero, List.getElem?_cons_succ] at s4
     go_wp2_with fail
     have bn := blk_new wr (.cells #[.int .u64 id, .int .i64 dl, .slice A2 q.length c2] 90)
     have bs := blk_alloc HS.out (.cells #[.int .u64 id, .int .i64 dl, .slice A2 q.length c2] 90)
     have bx := blk_alloc HX.out (.cells #[.int .u64 id, .int .i64 dl, .slice A2 q.length c2] 90)
     have hwb := below_alloc (Below.refl wr.heap.size wr) (.cells #[.int .u64 id, .int .i64 dl, .slice A2 q.length c2] 90)
     have hB := below_alloc HB.out (.cells #[.int .u64 id, .int .i64 dl, .slice A2 q.length c2] 90)
     have hpv : 0 < i → (wr.alloc (.cells #[.int .u64 id, .int .i64 dl, .slice A2 q.length c2] 90)).cell? (ad.add ((i - 1) * 3)) = some (.int .u64 p) := fun h0 => (World.cell?_alloc_lt _ _ _ (World.block_lt_of_cell? wr _ (HPV.out h0))).trans (HPV.out h0)
     have hm1 : ∃ m, m ≤ i ∧ IdMap (wr.alloc (.cells #[.int .u64 id, .int .i64 dl, .slice A2 q.length c2] 90)) G m (xs.take i) := by
      obtain ⟨m, h1, h2⟩ := HM.out
      exact ⟨m, h1, h2.below h2.lt hwb⟩
     generalize wr.heap.size = g2 at bn ⊢
     generalize wr.alloc (.cells #[.int .u64 id, .int .i64 dl, .slice A2 q.length c2] 90) = W3 at bn bs bx hB hpv hm1 ⊢
     replace HS := Aside0.mk bs
     replace HX := Aside0.mk bx
     replace HB := Aside0.mk hB
     replace HM := Aside0.mk hm1
     have BN := Aside0.mk bn
     have HPC := Aside0.mk hpv
     clear bn bs bx hwb hB hpv hm1 hx0 hx1 hx2 HPV s4
     have s0 := blk_cell HS.out 0
     have s1 := blk_cell HS.out 1
     have s2 := blk_cell HS.out 2
     have s3 := blk_cell HS.out 3
     have s4 := blk_cell HS.out 4
     have s5 := blk_cell HS.out 5
     have n0 := blk_cell BN.out 0
     have n1 := blk_cell BN.out 1
     have n2 := blk_cell BN.out 2
     simp only [List.getElem?_toArray, List.getElem?_cons_zero, List.getElem?_cons_succ] at s0 s1 s2 s3 s4 s5 n0 n1 n2
     have CF : Aside0 (∀ w' : World, BelowOf W3 w' → (w'.cell? ⟨w.heap.size, 0, none⟩ = some (.int .u64 e) ∧ w'.cell? ⟨w.heap.size, 1, none⟩ = some (.int .u64 g) ∧ w'.cell? ⟨w.heap.size, 2, none⟩ = some (.int .u64 n) ∧ w'.cell? ⟨w.heap.size, 3, none⟩ = some (.int .i64 t) ∧ w'.cell? ⟨w.heap.size, 4, none⟩ = some (.slice (some ad) xs.length cs) ∧ w'.cell? ⟨w.heap.size, 5, none⟩ = some (.slice An ns.length cn) ∧ w'.cell? ⟨g2, 0, none⟩ = some (.int .u64 id) ∧ w'.cell? ⟨g2, 1, none⟩ = some (.int .i64 dl) ∧ w'.cell? ⟨g2, 2, none⟩ = some (.slice A2 q.length c2))) := ⟨fun w' hC => ⟨(hC.out.cell (World.block_lt_of_cell? _ _ s0)).trans s0, (hC.out.cell (World.block_lt_of_cell? _ _ s1)).trans s1, (hC.out.cell (World.block_lt_of_cell? _ _ s2)).trans s2, (hC.out.cell (World.block_lt_of_cell? _ _ s3)).trans s3, (hC.out.cell (World.block_lt_of_cell? _ _ s4)).trans s4, (hC.out.cell (World.block_lt_of_cell? _ _ s5)).trans s5, (hC.out.cell (World.block_lt_of_cell? _ _ n0)).trans n0, (hC.out.cell (World.block_lt_of_cell? _ _ n1)).trans n1, (hC.out.cell (World.block_lt_of_cell? _ _ n2)).trans n2⟩⟩
     clear s0 s1 s2 s3 s4 s5 n0 n1 n2
     by_cases h1 : id < 1
     ·
      have e1 : decide (id < 1) = true := decide_eq_true h1
      as_aux_lemma =>
       have QU1 := Aside0.mk (fun (w' : World) (hC : BelowOf W3 w') => (QU.out w' (below_step HB.out hC.out)).mono (fun e w'' h => show e = .returned (.bool bq) ∧ BelowOf W3 w'' from ⟨h.1, ⟨below_step hC.out h.2⟩⟩))
       refine wp_region_below (by kernel_rfl) (by kernel_rfl) ?_
       repeat (first | go_big_quiet_skip | (go_big_quiet_want; rename_i K hK; refine quiet_mk (v := ?_) ?_ (hK _ ?_); rotate_left 1; (focus (intro w' hC; first | (go_simp; first | done | with_reducible rfl) | (obtain ⟨s0, s1, s2, s3, s4, s5, n0, n1, n2⟩ := CF.out w' hC; go_simp; first | done | with_reducible rfl) | (go_simp; go_at_call 83; exact QU1.out w' hC))); clear hK K); try simp only [Act.put, List.setIfInBounds_toArray, List.set_cons_zero, List.set_cons_succ])
       refine wpQuiet_nil ?_
       intro W4 hb1
       have hb := hb1.out
       clear hb1 CF QU1
       replace HB := Aside0.mk (below_step HB.out hb)
       clear hb
       go_wp2_with fail
       go_ret
       rw [HV.out, HE.out false (by rw [show decide (1 ≤ id) = false from decide_eq_false (by omega)]; simp)]
       exact ⟨by simp, HB.out⟩
     have e1 : decide (id < 1) = false := decide_eq_false h1
     by_cases h2 : n < id
     ·
      have e2 : decide (n < id) = true := decide_eq_true h2
      as_aux_lemma =>
       have QU1 := Aside0.mk (fun (w' : World) (hC : BelowOf W3 w') => (QU.out w' (below_step HB.out hC.out)).mono (fun e w'' h => show e = .returned (.bool bq) ∧ BelowOf W3 w'' from ⟨h.1, ⟨below_step hC.out h.2⟩⟩))
       refine wp_region_below (by kernel_rfl) (by kernel_rfl) ?_
       repeat (first | go_big_quiet_skip | (go_big_quiet_want; rename_i K hK; refine quiet_mk (v := ?_) ?_ (hK _ ?_); rotate_left 1; (focus (intro w' hC; first | (go_simp; first | done | with_reducible rfl) | (obtain ⟨s0, s1, s2, s3, s4, s5, n0, n1, n2⟩ := CF.out w' hC; go_simp; first | done | with_reducible rfl) | (go_simp; go_at_call 83; exact QU1.out w' hC))); clear hK K); try simp only [Act.put, List.setIfInBounds_toArray, List.set_cons_zero, List.set_cons_succ])
       refine wpQuiet_nil ?_
       intro W4 hb1
       have hb := hb1.out
       clear hb1 CF QU1
       replace HB := Aside0.mk (below_step HB.out hb)
       clear hb
       go_wp2_with fail
       go_ret
       rw [HV.out, HE.out false (by rw [show decide (id ≤ n) = false from decide_eq_false (by omega)]; simp)]
       exact ⟨by simp, HB.out⟩
     have e2 : decide (n < id) = false := decide_eq_false h2
     by_cases h0 : i = 0
     ·
      have e0 : decide (0 < i) = false := decide_eq_false (by omega)
      by_cases h4 : dl < 0
      ·
       have e4 : decide (dl < 0) = true := decide_eq_true h4
       as_aux_lemma =>
        have QU1 := Aside0.mk (fun (w' : World) (hC : BelowOf W3 w') => (QU.out w' (below_step HB.out hC.out)).mono (fun e w'' h => show e = .returned (.bool bq) ∧ BelowOf W3 w'' from ⟨h.1, ⟨below_step hC.out h.2⟩⟩))
        refine wp_region_below (by kernel_rfl) (by kernel_rfl) ?_
        repeat (first | go_big_quiet_skip | (go_big_quiet_want; rename_i K hK; refine quiet_mk (v := ?_) ?_ (hK _ ?_); rotate_left 1; (focus (intro w' hC; first | (go_simp; first | done | with_reducible rfl) | (obtain ⟨s0, s1, s2, s3, s4, s5, n0, n1, n2⟩ := CF.out w' hC; go_simp; first | done | with_reducible rfl) | (go_simp; go_at_call 83; exact QU1.out w' hC))); clear hK K); try simp only [Act.put, List.setIfInBounds_toArray, List.set_cons_zero, List.set_cons_succ])
        refine wpQuiet_nil ?_
        intro W4 hb1
        have hb := hb1.out
        clear hb1 CF QU1
        replace HB := Aside0.mk (below_step HB.out hb)
        clear hb
        go_wp2_with fail
        go_ret
        rw [HV.out, HE.out false (by rw [show decide (0 ≤ dl) = false from decide_eq_false (by omega)]; simp)]
        exact ⟨by simp, HB.out⟩
      have e4 : decide (dl < 0) = false := decide_eq_false h4
      by_cases h5 : 1000015 < dl
      ·
       have e5 : decide (1000015 < dl) = true := decide_eq_true h5
       as_aux_lemma =>
        have QU1 := Aside0.mk (fun (w' : World) (hC : BelowOf W3 w') => (QU.out w' (below_step HB.out hC.out)).mono (fun e w'' h => show e = .returned (.bool bq) ∧ BelowOf W3 w'' from ⟨h.1, ⟨below_step hC.out h.2⟩⟩))
        refine wp_region_below (by kernel_rfl) (by kernel_rfl) ?_
        repeat (first | go_big_quiet_skip | (go_big_quiet_want; rename_i K hK; refine quiet_mk (v := ?_) ?_ (hK _ ?_); rotate_left 1; (focus (intro w' hC; first | (go_simp; first | done | with_reducible rfl) | (obtain ⟨s0, s1, s2, s3, s4, s5, n0, n1, n2⟩ := CF.out w' hC; go_simp; first | done | with_reducible rfl) | (go_simp; go_at_call 83; exact QU1.out w' hC))); clear hK K); try simp only [Act.put, List.setIfInBounds_toArray, List.set_cons_zero, List.set_cons_succ])
        refine wpQuiet_nil ?_
        intro W4 hb1
        have hb := hb1.out
        clear hb1 CF QU1
        replace HB := Aside0.mk (below_step HB.out hb)
        clear hb
        go_wp2_with fail
        go_ret
        rw [HV.out, HE.out false (by rw [show decide (dl ≤ 1000015) = false from decide_eq_false (by omega)]; simp)]
        exact ⟨by simp, HB.out⟩
      have e5 : decide (1000015 < dl) = false := decide_eq_false h5
      cases bq with
      | false =>
       as_aux_lemma =>
        have QU1 := Aside0.mk (fun (w' : World) (hC : BelowOf W3 w') => (QU.out w' (below_step HB.out hC.out)).mono (fun e w'' h => show e = .returned (.bool false) ∧ BelowOf W3 w'' from ⟨h.1, ⟨below_step hC.out h.2⟩⟩))
        refine wp_region_below (by kernel_rfl) (by kernel_rfl) ?_
        repeat (first | go_big_quiet_skip | (go_big_quiet_want; rename_i K hK; refine quiet_mk (v := ?_) ?_ (hK _ ?_); rotate_left 1; (focus (intro w' hC; first | (go_simp; first | done | with_reducible rfl) | (obtain ⟨s0, s1, s2, s3, s4, s5, n0, n1, n2⟩ := CF.out w' hC; go_simp; first | done | with_reducible rfl) | (go_simp; go_at_call 83; exact QU1.out w' hC))); clear hK K); try simp only [Act.put, List.setIfInBounds_toArray, List.set_cons_zero, List.set_cons_succ])
        refine wpQuiet_nil ?_
        intro W4 hb1
        have hb := hb1.out
        clear hb1 CF QU1
        replace HB := Aside0.mk (below_step HB.out hb)
        clear hb
        go_wp2_with fail
        go_ret
        rw [HV.out, HE.out false (by simp)]
        exact ⟨by simp, HB.out⟩
      | true =>
       have H4 := Aside0.mk h4
       have H5 := Aside0.mk h5
       clear h4 h5
       as_aux_lemma =>
        have QU1 := Aside0.mk (fun (w' : World) (hC : BelowOf W3 w') => (QU.out w' (below_step HB.out hC.out)).mono (fun e w'' h => show e = .returned (.bool true) ∧ BelowOf W3 w'' from ⟨h.1, ⟨below_step hC.out h.2⟩⟩))
        refine wp_region_below (by kernel_rfl) (by kernel_rfl) ?_
        repeat (first | go_big_quiet_skip | (go_big_quiet_want; rename_i K hK; refine quiet_mk (v := ?_) ?_ (hK _ ?_); rotate_left 1; (focus (intro w' hC; first | (go_simp; first | done | with_reducible rfl) | (obtain ⟨s0, s1, s2, s3, s4, s5, n0, n1, n2⟩ := CF.out w' hC; go_simp; first | done | with_reducible rfl) | (go_simp; go_at_call 83; exact QU1.out w' hC))); clear hK K); try simp only [Act.put, List.setIfInBounds_toArray, List.set_cons_zero, List.set_cons_succ])
        refine wpQuiet_nil ?_
        intro W4 hb1
        have hb := hb1.out
        clear hb1 CF QU1
        replace HS := Aside0.mk (blk_below HS.out hb)
        replace HX := Aside0.mk (blk_below HX.out hb)
        replace BN := Aside0.mk (blk_below BN.out hb)
        replace HB := Aside0.mk (below_step HB.out hb)
        have hm2 : ∃ m, m ≤ i ∧ IdMap W4 G m (xs.take i) := by
         obtain ⟨m, h1, h2⟩ := HM.out
         exact ⟨m, h1, h2.below h2.lt hb⟩
        clear hb
        obtain ⟨m, hmi, hM⟩ := hm2
        obtain ⟨D, hown, hhas⟩ := hM.out
        have HO := Aside0.mk hown
        have HH := Aside0.mk hhas
        have HMX := Aside0.mk (show m < maxLen by unfold maxLen; omega)
        have HK := Aside0.mk (Maps.keyOf_int_mk (P := Tryz.prog) (k := 22) Tryz.underlying22 (wf_u64 HRID.out.1 HRID.out.2))
        have HW := Aside0.mk (plainElem_int (H := Unit) (P := Tryz.prog) (e := 3) Tryz.underlying3 (wf_i64 i (by omega)))
        have HMI := Aside0.mk hmi
        have HEN := Aside0.mk (HE.out true (by have h4 := H4.out; have h5 := H5.out; rw [decide_eq_true (show 1 ≤ id by omega), decide_eq_true (show id ≤ n by omega), show (i == 0) = true from beq_iff_eq.2 (by omega), decide_eq_true (show 0 ≤ dl by omega), decide_eq_true (show dl ≤ 1000015 by omega)]; rfl))
        have n0 := blk_cell BN.out 0
        have x0 := blk_cell HX.out 0
        simp only [List.getElem?_toArray, List.getElem?_cons_zero, List.getElem?_cons_succ] at n0 x0
        clear hown hhas hM HM HE hmi
        go_wp2_with (at_mapUpdate; refine wpList_mapUpdate_own _ rfl _ _ _ 109 rfl 22 3 (Maps.int_keyed Tryz.underlying22) Tryz.underlying109 _ G m D rfl HO.out HMX.out _ _ (.int .u64 id) rfl rfl HK.out (.lit (.int .i64 i)) [] HW.out ?_; intro w5 hown5 hgrow5)
        have HS5 := Aside0.mk ((hgrow5.block w.heap.size (Array.getElem?_eq_some_iff.1 HS.out).1 (by have := HG.out; simp; omega)).trans HS.out)
        have HX5 := Aside0.mk ((hgrow5.block (G + 1) (Array.getElem?_eq_some_iff.1 HX.out).1 (by simp)).trans HX.out)
        have HB5 := Aside0.mk (below_grown HB.out (Nat.le_of_lt HG.out) hgrow5 HB.out.size)
        have HM5 := Aside0.mk (idMap_put HO.out HH.out ⟨id, dl, q⟩ _ hown5)
        have hmi2 := HMI.out
        clear hown5 hgrow5
        have hj2 := HJ.out
        obtain ⟨k1, rfl⟩ : ∃ k1, gk = k1 + 1 := ⟨gk - 1, by omega⟩
        go_roundg k1
        case measure => omega
        case rel => exact ⟨i + 1, by go_num, ⟨⟨by omega, by omega⟩⟩, ⟨by rw [HEN.out, Bool.true_and]⟩, HS5, HX5, ⟨⟨m + 1, by omega, by rw [HT.out]; exact HM5.out⟩⟩, HB5⟩
     have e0 : decide (0 < i) = true := decide_eq_true (by omega)
     have wd0 := wrap_dn i (by omega) (by omega)
     have wd3 : ((i - 1 : Nat) : Int) < (xs.length : Int) := by omega
     obtain ⟨j, hjj⟩ : ∃ j, i - 1 = j := ⟨_, rfl⟩
     have HPJ := Aside0.mk (HPC.out (by omega))
     rw [hjj] at wd0 wd3 HPJ
     have wd := (i64_w ((i : Int) - 1)).trans wd0
     have wd2 : (0 : Int) ≤ (j : Int) := by omega
     clear wd0 hjj
     by_cases h3 : id ≤ p
     ·
      have e3 : decide (id ≤ p) = true := decide_eq_true h3
      as_aux_lemma =>
       have QU1 := Aside0.mk (fun (w' : World) (hC : BelowOf W3 w') => (QU.out w' (below_step HB.out hC.out)).mono (fun e w'' h => show e = .returned (.bool bq) ∧ BelowOf W3 w'' from ⟨h.1, ⟨below_step hC.out h.2⟩⟩))
       refine wp_region_below (by kernel_rfl) (by kernel_rfl) ?_
       repeat (first | go_big_quiet_skip | (go_big_quiet_want; rename_i K hK; refine quiet_mk (v := ?_) ?_ (hK _ ?_); rotate_left 1; (focus (intro w' hC; first | (go_simp; first | done | with_reducible rfl) | (obtain ⟨s0, s1, s2, s3, s4, s5, n0, n1, n2⟩ := CF.out w' hC; go_simp; first | done | with_reducible rfl) | (have hp0 := (hC.out.cell (World.block_lt_of_cell? _ _ HPJ.out)).trans HPJ.out; go_simp; first | done | with_reducible rfl) | (go_simp; go_at_call 83; exact QU1.out w' hC))); clear hK K); try simp only [Act.put, List.setIfInBounds_toArray, List.set_cons_zero, List.set_cons_succ])
       refine wpQuiet_nil ?_
       intro W4 hb1
       have hb := hb1.out
       clear hb1 CF QU1
       replace HB := Aside0.mk (below_step HB.out hb)
       clear hb
       go_wp2_with fail
       go_ret
       rw [HV.out, HE.out false (by rw [show (i == 0) = false from beq_eq_false_iff_ne.2 (by omega), show decide (p < id) = false from decide_eq_false (by omega)]; simp)]
       exact ⟨by simp, HB.out⟩
     have e3 : decide (id ≤ p) = false := decide_eq_false h3
     by_cases h4 : dl < 0
     ·
      have e4 : decide (dl < 0) = true := decide_eq_true h4
      as_aux_lemma =>
       have QU1 := Aside0.mk (fun (w' : World) (hC : BelowOf W3 w') => (QU.out w' (below_step HB.out hC.out)).mono (fun e w'' h => show e = .returned (.bool bq) ∧ BelowOf W3 w'' from ⟨h.1, ⟨below_step hC.out h.2⟩⟩))
       refine wp_region_below (by kernel_rfl) (by kernel_rfl) ?_
       repeat (first | go_big_quiet_skip | (go_big_quiet_want; rename_i K hK; refine quiet_mk (v := ?_) ?_ (hK _ ?_); rotate_left 1; (focus (intro w' hC; first | (go_simp; first | done | with_reducible rfl) | (obtain ⟨s0, s1, s2, s3, s4, s5, n0, n1, n2⟩ := CF.out w' hC; go_simp; first | done | with_reducible rfl) | (have hp0 := (hC.out.cell (World.block_lt_of_cell? _ _ HPJ.out)).trans HPJ.out; go_simp; first | done | with_reducible rfl) | (go_simp; go_at_call 83; exact QU1.out w' hC))); clear hK K); try simp only [Act.put, List.setIfInBounds_toArray, List.set_cons_zero, List.set_cons_succ])
       refine wpQuiet_nil ?_
       intro W4 hb1
       have hb := hb1.out
       clear hb1 CF QU1
       replace HB := Aside0.mk (below_step HB.out hb)
       clear hb
       go_wp2_with fail
       go_ret
       rw [HV.out, HE.out false (by rw [show decide (0 ≤ dl) = false from decide_eq_false (by omega)]; simp)]
       exact ⟨by simp, HB.out⟩
     have e4 : decide (dl < 0) = false := decide_eq_false h4
     by_cases h5 : 1000015 < dl
     ·
      have e5 : decide (1000015 < dl) = true := decide_eq_true h5
      as_aux_lemma =>
       have QU1 := Aside0.mk (fun (w' : World) (hC : BelowOf W3 w') => (QU.out w' (below_step HB.out hC.out)).mono (fun e w'' h => show e = .returned (.bool bq) ∧ BelowOf W3 w'' from ⟨h.1, ⟨below_step hC.out h.2⟩⟩))
       refine wp_region_below (by kernel_rfl) (by kernel_rfl) ?_
       repeat (first | go_big_quiet_skip | (go_big_quiet_want; rename_i K hK; refine quiet_mk (v := ?_) ?_ (hK _ ?_); rotate_left 1; (focus (intro w' hC; first | (go_simp; first | done | with_reducible rfl) | (obtain ⟨s0, s1, s2, s3, s4, s5, n0, n1, n2⟩ := CF.out w' hC; go_simp; first | done | with_reducible rfl) | (have hp0 := (hC.out.cell (World.block_lt_of_cell? _ _ HPJ.out)).trans HPJ.out; go_simp; first | done | with_reducible rfl) | (go_simp; go_at_call 83; exact QU1.out w' hC))); clear hK K); try simp only [Act.put, List.setIfInBounds_toArray, List.set_cons_zero, List.set_cons_succ])
       refine wpQuiet_nil ?_
       intro W4 hb1
       have hb := hb1.out
       clear hb1 CF QU1
       replace HB := Aside0.mk (below_step HB.out hb)
       clear hb
       go_wp2_with fail
       go_ret
       rw [HV.out, HE.out false (by rw [show decide (dl ≤ 1000015) = false from decide_eq_false (by omega)]; simp)]
       exact ⟨by simp, HB.out⟩
     have e5 : decide (1000015 < dl) = false := decide_eq_false h5
     cases bq with
     | false =>
      as_aux_lemma =>
       have QU1 := Aside0.mk (fun (w' : World) (hC : BelowOf W3 w') => (QU.out w' (below_step HB.out hC.out)).mono (fun e w'' h => show e = .returned (.bool false) ∧ BelowOf W3 w'' from ⟨h.1, ⟨below_step hC.out h.2⟩⟩))
       refine wp_region_below (by kernel_rfl) (by kernel_rfl) ?_
       repeat (first | go_big_quiet_skip | (go_big_quiet_want; rename_i K hK; refine quiet_mk (v := ?_) ?_ (hK _ ?_); rotate_left 1; (focus (intro w' hC; first | (go_simp; first | done | with_reducible rfl) | (obtain ⟨s0, s1, s2, s3, s4, s5, n0, n1, n2⟩ := CF.out w' hC; go_simp; first | done | with_reducible rfl) | (have hp0 := (hC.out.cell (World.block_lt_of_cell? _ _ HPJ.out)).trans HPJ.out; go_simp; first | done | with_reducible rfl) | (go_simp; go_at_call 83; exact QU1.out w' hC))); clear hK K); try simp only [Act.put, List.setIfInBounds_toArray, List.set_cons_zero, List.set_cons_succ])
       refine wpQuiet_nil ?_
       intro W4 hb1
       have hb := hb1.out
       clear hb1 CF QU1
       replace HB := Aside0.mk (below_step HB.out hb)
       clear hb
       go_wp2_with fail
       go_ret
       rw [HV.out, HE.out false (by simp)]
       exact ⟨by simp, HB.out⟩
     | true =>
      have H4 := Aside0.mk h4
      have H5 := Aside0.mk h5
      clear h4 h5
      as_aux_lemma =>
       have QU1 := Aside0.mk (fun (w' : World) (hC : BelowOf W3 w') => (QU.out w' (below_step HB.out hC.out)).mono (fun e w'' h => show e = .returned (.bool true) ∧ BelowOf W3 w'' from ⟨h.1, ⟨below_step hC.out h.2⟩⟩))
       refine wp_region_below (by kernel_rfl) (by kernel_rfl) ?_
       repeat (first | go_big_quiet_skip | (go_big_quiet_want; rename_i K hK; refine quiet_mk (v := ?_) ?_ (hK _ ?_); rotate_left 1; (focus (intro w' hC; first | (go_simp; first | done | with_reducible rfl) | (obtain ⟨s0, s1, s2, s3, s4, s5, n0, n1, n2⟩ := CF.out w' hC; go_simp; first | done | with_reducible rfl) | (have hp0 := (hC.out.cell (World.block_lt_of_cell? _ _ HPJ.out)).trans HPJ.out; go_simp; first | done | with_reducible rfl) | (go_simp; go_at_call 83; exact QU1.out w' hC))); clear hK K); try simp only [Act.put, List.setIfInBounds_toArray, List.set_cons_zero, List.set_cons_succ])
       refine wpQuiet_nil ?_
       intro W4 hb1
       have hb := hb1.out
       clear hb1 CF QU1
       replace HS := Aside0.mk (blk_below HS.out hb)
       replace HX := Aside0.mk (blk_below HX.out hb)
       replace BN := Aside0.mk (blk_below BN.out hb)
       replace HB := Aside0.mk (below_step HB.out hb)
       have hm2 : ∃ m, m ≤ i ∧ IdMap W4 G m (xs.take i) := by
        obtain ⟨m, h1, h2⟩ := HM.out
        exact ⟨m, h1, h2.below h2.lt hb⟩
       clear hb
       obtain ⟨m, hmi, hM⟩ := hm2
       obtain ⟨D, hown, hhas⟩ := hM.out
       have HO := Aside0.mk hown
       have HH := Aside0.mk hhas
       have HMX := Aside0.mk (show m < maxLen by unfold maxLen; omega)
       have HK := Aside0.mk (Maps.keyOf_int_mk (P := Tryz.prog) (k := 22) Tryz.underlying22 (wf_u64 HRID.out.1 HRID.out.2))
       have HW := Aside0.mk (plainElem_int (H := Unit) (P := Tryz.prog) (e := 3) Tryz.underlying3 (wf_i64 i (by omega)))
       have HMI := Aside0.mk hmi
       have HEN := Aside0.mk (HE.out true (by have h4 := H4.out; have h5 := H5.out; rw [decide_eq_true (show 1 ≤ id by omega), decide_eq_true (show id ≤ n by omega), show (i == 0) = false from beq_eq_false_iff_ne.2 (by omega), decide_eq_true (show p < id by omega), decide_eq_true (show 0 ≤ dl by omega), decide_eq_true (show dl ≤ 1000015 by omega)]; rfl))
       have n0 := blk_cell BN.out 0
       have x0 := blk_cell HX.out 0
       simp only [List.getElem?_toArray, List.getElem?_cons_zero, List.getElem?_cons_succ] at n0 x0
       clear hown hhas hM HM HE hmi
       go_wp2_with (at_mapUpdate; refine wpList_mapUpdate_own _ rfl _ _ _ 109 rfl 22 3 (Maps.int_keyed Tryz.underlying22) Tryz.underlying109 _ G m D rfl HO.out HMX.out _ _ (.int .u64 id) rfl rfl HK.out (.lit (.int .i64 i)) [] HW.out ?_; intro w5 hown5 hgrow5)
       have HS5 := Aside0.mk ((hgrow5.block w.heap.size (Array.getElem?_eq_some_iff.1 HS.out).1 (by have := HG.out; simp; omega)).trans HS.out)
       have HX5 := Aside0.mk ((hgrow5.block (G + 1) (Array.getElem?_eq_some_iff.1 HX.out).1 (by simp)).trans HX.out)
       have HB5 := Aside0.mk (below_grown HB.out (Nat.le_of_lt HG.out) hgrow5 HB.out.size)
       have HM5 := Aside0.mk (idMap_put HO.out HH.out ⟨id, dl, q⟩ _ hown5)
       have hmi2 := HMI.out
       clear hown5 hgrow5
       have hj2 := HJ.out
       obtain ⟨k1, rfl⟩ : ∃ k1, gk = k1 + 1 := ⟨gk - 1, by omega⟩
       go_roundg k1
       case measure => omega
       case rel => exact ⟨i + 1, by go_num, ⟨⟨by omega, by omega⟩⟩, ⟨by rw [HEN.out, Bool.true_and]⟩, HS5, HX5, ⟨⟨m + 1, by omega, by rw [HT.out]; exact HM5.out⟩⟩, HB5⟩
    ·
     have c1 : decide ((i : Int) < (xs.length : Int)) = false := decide_eq_false (by omega)
     have hi : i = xs.length := by omega
     have HXS := Aside0.mk (show allI (sesB n xs) 0 xs = true from by rw [HA.out, allI_end _ xs i (by omega)])
     rw [HXS.out] at HV
     have HM2 := Aside0.mk (show ∃ m, m ≤ xs.length ∧ IdMap wr G m xs from by
      obtain ⟨m, h1, h2⟩ := HM.out
      rw [hi, List.take_length] at h2
      exact ⟨m, by omega, h2⟩)
     clear HM HA HXS hi
     have HX0 := HX
     have HS0 := HS
     have own0 := World.ownsMap_made (H := Unit) wr Tryz.prog 9 (plainElem Tryz.prog 22)
     have hbm := below_alloc (Below.refl wr.heap.size wr) (.map #[] 0)
     obtain ⟨W5, hrun, hown5, hgrow5⟩ := own0.update (Maps.string_keyed Tryz.underlying9) Tryz.underlying113 (by decide) (key := .string ⟨#[47]⟩) (val := .int .u64 0) (key_str [47] (by simp)) (plainElem_int (H := Unit) (P := Tryz.prog) Tryz.underlying22 (by decide))
     have hB5 := below_grown hbm (Nat.le_refl _) hgrow5 (by rw [World.size_alloc]; omega)
     have own5 := ownMap_root (w := wr) hown5
     replace HS := Aside0.mk (blk_below HS.out hB5)
     replace HX := Aside0.mk (blk_below HX.out hB5)
     replace HB := Aside0.mk (below_step HB.out hB5)
     replace HM2 := Aside0.mk (show ∃ m, m ≤ xs.length ∧ IdMap W5 G m xs from by
      obtain ⟨m, h1, h2⟩ := HM2.out
      exact ⟨m, h1, h2.below h2.lt hB5⟩)
     have HOW := Aside0.mk own5
     have hg3 : G + 1 < wr.heap.size := (Array.getElem?_eq_some_iff.1 HX0.out).1
     have HG3 := Aside0.mk hg3
     clear own0 hbm hown5 hgrow5 hB5 own5 hg3
     have s4 := blk_cell HS.out 4
     have s5 := blk_cell HS.out 5
     simp only [List.getElem?_toArray, List.getElem?_cons_zero, List.getElem?_cons_succ] at s4 s5
     have s5w := blk_cell HS0.out 5
     have s4w := blk_cell HS0.out 4
     simp only [List.getElem?_toArray, List.getElem?_cons_zero, List.getElem?_cons_succ] at s4w s5w
     go_wp2_with fail
     clear hrun s4 s5 s4w s5w HX0 HS0
     generalize wr.heap.size = G3 at *
     go_loopg [77] (ns.length + 1) (fun kq v77 w' => ∃ i : Nat, v77 = .int .i64 i ∧ Aside0 (kq + i = ns.length + 1 ∧ i ≤ ns.length) ∧ Aside0 (allI (nodeI e g xs ns) 0 ns = allI (nodeI e g xs ns) i (ns.drop i)) ∧ Aside0 (w'.heap[w.heap.size]? = some (.cells #[.int .u64 e, .int .u64 g, .int .u64 n, .int .i64 t, .slice As xs.length cs, .slice An ns.length cn] 31)) ∧ Aside0 (w'.heap[G + 1]? = some (.cells #[.map (some G)] 109)) ∧ Aside0 (∃ m, m ≤ xs.length ∧ IdMap w' G m xs) ∧ Aside0 (∃ m, m ≤ i + 1 ∧ OwnMap w' G3 m (ns.take i)) ∧ Aside0 (GoodP ns i) ∧ Aside0 (Below w.heap.size w w'))
     case atStart => exact ⟨0, rfl, ⟨⟨by omega, by omega⟩⟩, ⟨by rw [List.drop_zero]⟩, HS, HX, HM2, ⟨⟨1, by omega, by rw [List.take_zero]; exact HOW.out⟩⟩, ⟨GoodP.zero ns⟩, HB⟩
     case round =>
      as_aux_lemma =>
       clear HS HX HM2 HB HOW HJ
       obtain ⟨i2, rfl, HJ, HA, HS, HX, HM, HO, HGP, HB⟩ := hrel
       have hj0 := HJ.out
       by_cases hj : i2 < ns.length
       ·
        skip
        have c1b : decide ((i2 : Int) < (ns.length : Int)) = true := decide_eq_true (by omega)
        have ci : (0 : Int) ≤ (i2 : Int) := by omega
        have ci2 : (i2 : Int) < (ns.length : Int) := by omega
        obtain ⟨ad, B0, b0, B1, b1, B4, b4, B7, b7, eA, hx0, hx1, hx2, hx3, hx4, hx5, hx6, hx7, hl0, hi0, hl1, hi1, hl4, hi4, hl7, hi7⟩ := at_T93 H2.out.1 (i2 : Int) ci ci2
        rw [rd_nv ns i2 hj] at hx0 hx1 hx2 hx3 hx4 hx5 hx6 hx7 hl0 hi0 hl1 hi1 hl4 hi4 hl7 hi7
        rw [Int.toNat_natCast] at hx0 hx1 hx2 hx3 hx4 hx5 hx6 hx7
        cases eA
        have hprev : 0 < i2 → ∃ Ap cp, w.cell? (ad.add ((i2 - 1) * 8)) = some (.slice Ap (ns.getD (i2 - 1) zNo).f0.length cp) ∧ Kd.C (Kd.int .u8) w Ap (ns.getD (i2 - 1) zNo).f0.length (ns.getD (i2 - 1) zNo).f0 := by
         intro h0
         have hj1 : i2 - 1 < ns.length := by omega
         obtain ⟨ad', C0, d0, C1, d1, C4, d4, C7, d7, eA', hy0, _, _, _, _, _, _, _, _, hyi, _⟩ := at_T93 H2.out.1 ((i2 - 1 : Nat) : Int) (by omega) (by omega)
         rw [rd_nv ns (i2 - 1) hj1] at hy0 hyi
         rw [Int.toNat_natCast] at hy0
         cases eA'
         rw [show ns.getD (i2 - 1) zNo = ns[i2 - 1] by rw [List.getD_eq_getElem?_getD, List.getElem?_eq_getElem hj1]; rfl]
         exact ⟨C0, d0, hy0, hyi⟩
        have hal : ∀ {a : Addr} {z : Value}, w.cell? a = some z → wr.cell? a = some z := fun hz => (HB.out.cell (World.block_lt_of_cell? w _ hz)).trans hz
        replace hx0 := hal hx0
        replace hx1 := hal hx1
        replace hx2 := hal hx2
        replace hx3 := hal hx3
        replace hx4 := hal hx4
        replace hx5 := hal hx5
        replace hx6 := hal hx6
        replace hx7 := hal hx7
        clear hal
        have HE := Aside0.mk (show ∀ b, nodeI e g xs ns i2 ns[i2] = b → allI (nodeI e g xs ns) 0 ns = (b && allI (nodeI e g xs ns) (i2 + 1) (ns.drop (i2 + 1))) from fun b hb => by rw [HA.out, allI_drop _ ns i2 hj, hb])
        have hsm := HSM.out.m ns[i2] (List.getElem_mem hj)
        have hrg := HRG.out.m ns[i2] (List.getElem_mem hj)
        have HT := Aside0.mk (show ns.take (i2 + 1) = ns.take i2 ++ [ns[i2]] from List.take_succ_eq_append_getElem hj)
        have HGN := Aside0.mk (fun (h1 : pathB ns[i2].f0 = true) (h2 : 0 < i2 → leB ns[i2].f0 (ns.getD (i2 - 1) zNo).f0 = false) => HGP.out.next hj h1 h2)
        have HCP := Aside0.mk (HGP.out.canPar (Nat.le_of_lt hj))
        have hI : nodeI e g xs ns i2 ns[i2] = ((pathB ns[i2].f0 && (i2 == 0 || !leB ns[i2].f0 (ns.getD (i2 - 1) zNo).f0) && decide (ns[i2].f1.length ≤ 40) && (ns[i2].f2 == 0 || liveB xs ns[i2].f2)) &&
          (ascB ns[i2].f4 && ascB ns[i2].f7 && ns[i2].f4.all (liveB xs) && ns[i2].f7.all (liveB xs) && lockB e g ns[i2]) && canParB (ns.take i2) (parentL ns[i2].f0)) := rfl
        rw [hI, HCP.out] at HE
        clear hI HCP HGP HA
        obtain ⟨y, hy⟩ : ∃ y, ns[i2] = y := ⟨_, rfl⟩
        rw [hy] at hx0 hx1 hx2 hx3 hx4 hx5 hx6 hx7 hl0 hi0 hl1 hi1 hl4 hi4 hl7 hi7 hrg hsm
        simp only [hy] at HE HT HGN
        clear hy
        obtain ⟨p, v, o, m, h, ep, ge, wa⟩ := y
        simp only at hx0 hx1 hx2 hx3 hx4 hx5 hx6 hx7 hl0 hi0 hl1 hi1 hl4 hi4 hl7 hi7 hrg hsm HE HGN
        obtain ⟨q, hq⟩ : ∃ q, (ns.getD (i2 - 1) zNo).f0 = q := ⟨_, rfl⟩
        rw [hq] at hprev
        simp only [hq] at HE HGN
        clear hq
        have VP := Aside0.mk (fun (W : World) (hW : Below w.heap.size w W) => impl_ValidPath_calls B0 b0 p W (Kd.C_below hi0 hW) hl0 hsm.1.1.2)
        have AS4 := Aside0.mk (fun (W : World) (hW : Below w.heap.size w W) => impl_ascending.calls 10000000 B4 b4 h (ascB h) W (Kd.C_below hi4 hW) hl4 (asc_f h hsm.2.1))
        have AS7 := Aside0.mk (fun (W : World) (hW : Below w.heap.size w W) => impl_ascending.calls 10000000 B7 b7 wa (ascB wa) W (Kd.C_below hi7 hW) hl7 (asc_f wa hsm.2.2))
        have CF4 := Aside0.mk (fun (W : World) (hW : Below w.heap.size w W) (k : Nat) (hb : W.cell? ⟨G + 1, 0, none⟩ = some (.map (some G))) (hm : IdMap W G k xs) => containsU_calls (G + 1) G k xs B4 b4 h W (Kd.C_below hi4 hW) hsm.2.1 hrg.2.1 hb hm)
        have CF7 := Aside0.mk (fun (W : World) (hW : Below w.heap.size w W) (k : Nat) (hb : W.cell? ⟨G + 1, 0, none⟩ = some (.map (some G))) (hm : IdMap W G k xs) => containsU_calls (G + 1) G k xs B7 b7 wa W (Kd.C_below hi7 hW) hsm.2.2 hrg.2.2 hb hm)
        have LK := Aside0.mk (fun (W : World) (hW : Below w.heap.size w W) => impl_lockOk.calls e g n t As cs xs (some ad) cn ns B0 b0 p B1 b1 v o m B4 b4 h ep ge B7 b7 wa (lockB e g ⟨p, v, o, m, h, ep, ge, wa⟩) W (Kd.C_below H1.out.1 hW) H1.out.2 (Kd.C_below H2.out.1 hW) H2.out.2 (Kd.C_below hi0 hW) hl0 (Kd.C_below hi1 hW) hl1 (Kd.C_below hi4 hW) hl4 (Kd.C_below hi7 hW) hl7 (lockI_f e g n t xs ns p v o m h ep ge wa))
        have STR := Aside0.mk (fun (W : World) (k : Nat) (hb : W.cell? ⟨G + 1, 0, none⟩ = some (.map (some G))) (hm : IdMap W G k xs) => strange_calls (G + 1) G k xs o W hb hm hrg.1.1 hrg.1.2)
        have HPR := Aside0.mk (fun (W : World) (h0 : ∃ r, p = 47 :: r) => parentOf_calls p W hsm.1.1.2 hsm.1.1.1 h0)
        have HP0 := Aside0.mk (And.intro hi0 hsm.1.1)
        have HRO := Aside0.mk hrg.1
        have HPV := Aside0.mk hprev
        obtain ⟨a1, ha1⟩ : ∃ b, pathB p = b := ⟨_, rfl⟩
        obtain ⟨a2, ha2⟩ : ∃ b, leB p q = b := ⟨_, rfl⟩
        obtain ⟨a3, ha3⟩ : ∃ b, liveB xs o = b := ⟨_, rfl⟩
        obtain ⟨a4, ha4⟩ : ∃ b, ascB h = b := ⟨_, rfl⟩
        obtain ⟨a5, ha5⟩ : ∃ b, ascB wa = b := ⟨_, rfl⟩
        obtain ⟨a6, ha6⟩ : ∃ b, h.all (liveB xs) = b := ⟨_, rfl⟩
        obtain ⟨a7, ha7⟩ : ∃ b, wa.all (liveB xs) = b := ⟨_, rfl⟩
        obtain ⟨a8, ha8⟩ : ∃ b, lockB e g ⟨p, v, o, m, h, ep, ge, wa⟩ = b := ⟨_, rfl⟩
        have HSL := Aside0.mk (show a1 = true → ∃ r, p = 47 :: r from fun hh => path_head (ha1.trans hh))
        have HLE : Aside0 (decide (0 ≤ Lib.compareBytes (Lib.bytesOf q) (Lib.bytesOf p)) = a2) := ⟨by rw [cmp_le]; exact ha2⟩
        rw [ha1] at VP
        rw [ha4] at AS4
        rw [ha5] at AS7
        rw [ha6] at CF4
        rw [ha7] at CF7
        rw [ha8] at LK
        rw [ha3] at STR
        simp only [ha1, ha2] at HGN
        simp only [ha1, ha2, ha3, ha4, ha5, ha6, ha7, ha8] at HE
        clear ha1 ha2 ha3 ha4 ha5 ha6 ha7 ha8 hl0 hi0 hl1 hi1 hl4 hi4 hl7 hi7 hsm hrg hprev
        have s5 := blk_cell HS.out 5
        simp only [List.getElem?_toArray, List.getElem?_cons_zero, List.getElem?_cons_succ] at s5
        go_wp2_with fail
        have bn := blk_new wr (.cells #[.slice B0 p.length b0, .slice B1 v.length b1, .int .u64 o, .int .i64 m, .slice B4 h.length b4, .int .u64 ep, .int .u64 ge, .slice B7 wa.length b7] 93)
        have bs := blk_alloc HS.out (.cells #[.slice B0 p.length b0, .slice B1 v.length b1, .int .u64 o, .int .i64 m, .slice B4 h.length b4, .int .u64 ep, .int .u64 ge, .slice B7 wa.length b7] 93)
        have bx := blk_alloc HX.out (.cells #[.slice B0 p.length b0, .slice B1 v.length b1, .int .u64 o, .int .i64 m, .slice B4 h.length b4, .int .u64 ep, .int .u64 ge, .slice B7 wa.length b7] 93)
        have hwb := below_alloc (Below.refl wr.heap.size wr) (.cells #[.slice B0 p.length b0, .slice B1 v.length b1, .int .u64 o, .int .i64 m, .slice B4 h.length b4, .int .u64 ep, .int .u64 ge, .slice B7 wa.length b7] 93)
        have hB := below_alloc HB.out (.cells #[.slice B0 p.length b0, .slice B1 v.length b1, .int .u64 o, .int .i64 m, .slice B4 h.length b4, .int .u64 ep, .int .u64 ge, .slice B7 wa.length b7] 93)
        have hm1 : ∃ mm, mm ≤ xs.length ∧ IdMap (wr.alloc (.cells #[.slice B0 p.length b0, .slice B1 v.length b1, .int .u64 o, .int .i64 m, .slice B4 h.length b4, .int .u64 ep, .int .u64 ge, .slice B7 wa.length b7] 93)) G mm xs := by
         obtain ⟨mm, h1, h2⟩ := HM.out
         exact ⟨mm, h1, h2.below h2.lt hwb⟩
        have ho1 : ∃ mm, mm ≤ i2 + 1 ∧ OwnMap (wr.alloc (.cells #[.slice B0 p.length b0, .slice B1 v.length b1, .int .u64 o, .int .i64 m, .slice B4 h.length b4, .int .u64 ep, .int .u64 ge, .slice B7 wa.length b7] 93)) G3 mm (ns.take i2) := by
         obtain ⟨mm, h1, h2⟩ := HO.out
         exact ⟨mm, h1, h2.below h2.lt hwb⟩
        generalize wr.heap.size = g2 at bn ⊢
        generalize wr.alloc (.cells #[.slice B0 p.length b0, .slice B1 v.length b1, .int .u64 o, .int .i64 m, .slice B4 h.length b4, .int .u64 ep, .int .u64 ge, .slice B7 wa.length b7] 93) = W3 at bn bs bx hB hm1 ho1 ⊢
        replace HS := Aside0.mk bs
        replace HX := Aside0.mk bx
        replace HB := Aside0.mk hB
        replace HM := Aside0.mk hm1
        replace HO := Aside0.mk ho1
        have BN := Aside0.mk bn
        clear bn bs bx hwb hB hm1 ho1 hx0 hx1 hx2 hx3 hx4 hx5 hx6 hx7 s5
        obtain ⟨s0, s1, s2, s3, s4, s5⟩ := cells6 HS.out
        obtain ⟨n0, n1, n2, n3, n4, n5, n6, n7⟩ := cells8 BN.out
        have x0 := cells1 HX.out
        have CF : Aside0 (∀ w' : World, BelowOf W3 w' → (w'.cell? ⟨w.heap.size, 0, none⟩ = some (.int .u64 e) ∧ w'.cell? ⟨w.heap.size, 1, none⟩ = some (.int .u64 g) ∧ w'.cell? ⟨w.heap.size, 2, none⟩ = some (.int .u64 n) ∧ w'.cell? ⟨w.heap.size, 3, none⟩ = some (.int .i64 t) ∧ w'.cell? ⟨w.heap.size, 4, none⟩ = some (.slice As xs.length cs) ∧ w'.cell? ⟨w.heap.size, 5, none⟩ = some (.slice (some ad) ns.length cn) ∧ w'.cell? ⟨g2, 0, none⟩ = some (.slice B0 p.length b0) ∧ w'.cell? ⟨g2, 1, none⟩ = some (.slice B1 v.length b1) ∧ w'.cell? ⟨g2, 2, none⟩ = some (.int .u64 o) ∧ w'.cell? ⟨g2, 3, none⟩ = some (.int .i64 m) ∧ w'.cell? ⟨g2, 4, none⟩ = some (.slice B4 h.length b4) ∧ w'.cell? ⟨g2, 5, none⟩ = some (.int .u64 ep) ∧ w'.cell? ⟨g2, 6, none⟩ = some (.int .u64 ge) ∧ w'.cell? ⟨g2, 7, none⟩ = some (.slice B7 wa.length b7) ∧ w'.cell? ⟨G + 1, 0, none⟩ = some (.map (some G)))) := ⟨fun w' hC => ⟨(hC.out.cell (World.block_lt_of_cell? _ _ s0)).trans s0, (hC.out.cell (World.block_lt_of_cell? _ _ s1)).trans s1, (hC.out.cell (World.block_lt_of_cell? _ _ s2)).trans s2, (hC.out.cell (World.block_lt_of_cell? _ _ s3)).trans s3, (hC.out.cell (World.block_lt_of_cell? _ _ s4)).trans s4, (hC.out.cell (World.block_lt_of_cell? _ _ s5)).trans s5, (hC.out.cell (World.block_lt_of_cell? _ _ n0)).trans n0, (hC.out.cell (World.block_lt_of_cell? _ _ n1)).trans n1, (hC.out.cell (World.block_lt_of_cell? _ _ n2)).trans n2, (hC.out.cell (World.block_lt_of_cell? _ _ n3)).trans n3, (hC.out.cell (World.block_lt_of_cell? _ _ n4)).trans n4, (hC.out.cell (World.block_lt_of_cell? _ _ n5)).trans n5, (hC.out.cell (World.block_lt_of_cell? _ _ n6)).trans n6, (hC.out.cell (World.block_lt_of_cell? _ _ n7)).trans n7, (hC.out.cell (World.block_lt_of_cell? _ _ x0)).trans x0⟩⟩
        clear s0 s1 s2 s3 s4 s5 n0 n1 n2 n3 n4 n5 n6 n7 x0
        cases a1 with
        | false =>
         by_cases h0 : i2 = 0
         ·
          have e0 : decide (0 < i2) = false := decide_eq_false (by omega)
          as_aux_lemma =>
           have VP1 := Aside0.mk (fun (w' : World) (hC : BelowOf W3 w') => (VP.out w' (below_step HB.out hC.out)).mono (fun e w'' h => show e = .returned (.bool false) ∧ BelowOf W3 w'' from ⟨h.1, ⟨below_step hC.out h.2⟩⟩))
           refine wp_region_below (by kernel_rfl) (by kernel_rfl) ?_
           repeat (first | go_big_quiet_skip | (go_big_quiet_want; rename_i K hK; refine quiet_mk (v := ?_) ?_ (hK _ ?_); rotate_left 1; (focus (intro w' hC; first | (go_simp; first | done | with_reducible rfl) | (obtain ⟨s0, s1, s2, s3, s4, s5, n0, n1, n2, n3, n4, n5, n6, n7, x0⟩ := CF.out w' hC; go_simp; first | done | with_reducible rfl) | (go_simp; go_at_call 85; exact VP1.out w' hC))); clear hK K); try simp only [Act.put, List.setIfInBounds_toArray, List.set_cons_zero, List.set_cons_succ])
           refine wpQuiet_nil ?_
           intro W4 hb1
           have hb := hb1.out
           clear hb1 CF VP1
           replace HB := Aside0.mk (below_step HB.out hb)
           clear hb
           go_wp2_with fail
           go_ret
           rw [HV.out, HE.out false (by simp)]
           exact ⟨by simp, HB.out⟩
         ·
          have e0 : decide (0 < i2) = true := decide_eq_true (by omega)
          as_aux_lemma =>
           have VP1 := Aside0.mk (fun (w' : World) (hC : BelowOf W3 w') => (VP.out w' (below_step HB.out hC.out)).mono (fun e w'' h => show e = .returned (.bool false) ∧ BelowOf W3 w'' from ⟨h.1, ⟨below_step hC.out h.2⟩⟩))
           refine wp_region_below (by kernel_rfl) (by kernel_rfl) ?_
           repeat (first | go_big_quiet_skip | (go_big_quiet_want; rename_i K hK; refine quiet_mk (v := ?_) ?_ (hK _ ?_); rotate_left 1; (focus (intro w' hC; first | (go_simp; first | done | with_reducible rfl) | (obtain ⟨s0, s1, s2, s3, s4, s5, n0, n1, n2, n3, n4, n5, n6, n7, x0⟩ := CF.out w' hC; go_simp; first | done | with_reducible rfl) | (go_simp; go_at_call 85; exact VP1.out w' hC))); clear hK K); try simp only [Act.put, List.setIfInBounds_toArray, List.set_cons_zero, List.set_cons_succ])
           refine wpQuiet_nil ?_
           intro W4 hb1
           have hb := hb1.out
           clear hb1 CF VP1
           replace HB := Aside0.mk (below_step HB.out hb)
           clear hb
           go_wp2_with fail
           go_ret
           rw [HV.out, HE.out false (by simp)]
           exact ⟨by simp, HB.out⟩
        | true =>
         refine if h0 : i2 = 0 then ?zq else ?zr
         case' zq =>
          have e0 : decide (0 < i2) = false := decide_eq_false (by omega)
          have HGN2 := Aside0.mk (HGN.out rfl (fun hh => absurd hh (by omega)))
          by_cases h40 : 40 < v.length
          ·
           have hv1 : decide ((40 : Int) < (v.length : Int)) = true := decide_eq_true (by omega)
           have hv2 : decide (40 < v.length) = true := decide_eq_true h40
           as_aux_lemma =>
            have VP1 := Aside0.mk (fun (w' : World) (hC : BelowOf W3 w') => (VP.out w' (below_step HB.out hC.out)).mono (fun e w'' h => show e = .returned (.bool true) ∧ BelowOf W3 w'' from ⟨h.1, ⟨below_step hC.out h.2⟩⟩))
            refine wp_region_below (by kernel_rfl) (by kernel_rfl) ?_
            repeat (first | go_big_quiet_skip | (go_big_quiet_want; rename_i K hK; refine quiet_mk (v := ?_) ?_ (hK _ ?_); rotate_left 1; (focus (intro w' hC; first | (go_simp; first | done | with_reducible rfl) | (obtain ⟨s0, s1, s2, s3, s4, s5, n0, n1, n2, n3, n4, n5, n6, n7, x0⟩ := CF.out w' hC; go_simp; first | done | with_reducible rfl) | (go_simp; go_at_call 85; exact VP1.out w' hC))); clear hK K); try simp only [Act.put, List.setIfInBounds_toArray, List.set_cons_zero, List.set_cons_succ])
            refine wpQuiet_nil ?_
            intro W4 hb1
            have hb := hb1.out
            clear hb1 CF VP1
            replace HB := Aside0.mk (below_step HB.out hb)
            clear hb
            go_wp2_with fail
            go_ret
            rw [HV.out, HE.out false (by rw [show decide (v.length ≤ 40) = false from decide_eq_false (by omega)]; simp)]
            exact ⟨by simp, HB.out⟩
          have hv1 : decide ((40 : Int) < (v.length : Int)) = false := decide_eq_false (by omega)
          have hv2 : decide (40 < v.length) = false := decide_eq_false h40
          have HV40 := Aside0.mk (show decide (v.length ≤ 40) = true from decide_eq_true (by omega))
          have HC3 := Aside0.mk (show (i2 == 0) = true from beq_iff_eq.2 (by omega))
          by_cases ho0 : o = 0
          case' pos =>
           subst ho0
           have HO0 := Aside0.mk (show ((0 : Int) == 0) = true from rfl)
           have VP1 := Aside0.mk (fun (w' : World) (hC : BelowOf W3 w') => (VP.out w' (below_step HB.out hC.out)).mono (fun e w'' h => show e = .returned (.bool true) ∧ BelowOf W3 w'' from ⟨h.1, ⟨below_step hC.out h.2⟩⟩))
           refine wp_region_below (by kernel_rfl) (by kernel_rfl) ?_
           repeat (first | go_big_quiet_skip | (go_big_quiet_want; rename_i K hK; refine quiet_mk (v := ?_) ?_ (hK _ ?_); rotate_left 1; (focus (intro w' hC; first | (go_simp; first | done | with_reducible rfl) | (obtain ⟨s0, s1, s2, s3, s4, s5, n0, n1, n2, n3, n4, n5, n6, n7, x0⟩ := CF.out w' hC; go_simp; first | done | with_reducible rfl) | (go_simp; go_at_call 85; exact VP1.out w' hC))); clear hK K); try simp only [Act.put, List.setIfInBounds_toArray, List.set_cons_zero, List.set_cons_succ])
           refine wpQuiet_nil ?_
           intro W4 hb1
           have hb := hb1.out
           clear hb1 CF VP1
           have hq := updV HS HX BN HB HM HO hb
           clear HS HX BN HB HM HO hb
           obtain ⟨HS, HX, BN, HB, HM, HO⟩ := hq
           refine ?qn0
          case' neg =>
           have d0 : decide (o = 0) = false := decide_eq_false ho0
           have d1 : (o == 0) = false := beq_eq_false_iff_ne.2 ho0
           have d3 : (o != 0) = true := by rw [bne, d1]; rfl
           have HO0 := Aside0.mk (show (o == 0) = false from beq_eq_false_iff_ne.2 ho0)
           cases a3
           case' false =>
            as_aux_lemma =>
             have VP1 := Aside0.mk (fun (w' : World) (hC : BelowOf W3 w') => (VP.out w' (below_step HB.out hC.out)).mono (fun e w'' h => show e = .returned (.bool true) ∧ BelowOf W3 w'' from ⟨h.1, ⟨below_step hC.out h.2⟩⟩))
             have ST1 : Aside0 (∀ w' : World, BelowOf W3 w' → Calls Tryz.prog 84 #[.int .u64 o, .pointer (some ⟨G + 1, 0, none⟩)] w' fun e w'' => e = .returned (.bool true) ∧ BelowOf W3 w'') := ⟨fun w' hC => by
              obtain ⟨k, hk, hI⟩ := HM.out
              obtain ⟨s0, s1, s2, s3, s4, s5, n0, n1, n2, n3, n4, n5, n6, n7, x0⟩ := CF.out w' hC
              exact (STR.out w' k x0 (hI.below hI.lt hC.out)).mono (fun e w'' h => ⟨h.1, ⟨by rw [h.2]; exact hC.out⟩⟩)⟩
             refine wp_region_below (by kernel_rfl) (by kernel_rfl) ?_
             repeat (first | go_big_quiet_skip | (go_big_quiet_want; rename_i K hK; refine quiet_mk (v := ?_) ?_ (hK _ ?_); rotate_left 1; (focus (intro w' hC; first | (go_simp; first | done | with_reducible rfl) | (obtain ⟨s0, s1, s2, s3, s4, s5, n0, n1, n2, n3, n4, n5, n6, n7, x0⟩ := CF.out w' hC; go_simp; first | done | with_reducible rfl) | (go_simp; go_at_call 85; exact VP1.out w' hC) | (go_simp; go_at_call 84; exact ST1.out w' hC))); clear hK K); try simp only [Act.put, List.setIfInBounds_toArray, List.set_cons_zero, List.set_cons_succ])
             refine wpQuiet_nil ?_
             intro W4 hb1
             have hb := hb1.out
             clear hb1 CF VP1 ST1
             replace HB := Aside0.mk (below_step HB.out hb)
             clear hb
             go_wp2_with fail
             go_ret
             rw [HV.out, HE.out false (by rw [HO0.out]; simp)]
             exact ⟨by simp, HB.out⟩
           case' true =>
            have VP1 := Aside0.mk (fun (w' : World) (hC : BelowOf W3 w') => (VP.out w' (below_step HB.out hC.out)).mono (fun e w'' h => show e = .returned (.bool true) ∧ BelowOf W3 w'' from ⟨h.1, ⟨below_step hC.out h.2⟩⟩))
            have ST1 : Aside0 (∀ w' : World, BelowOf W3 w' → Calls Tryz.prog 84 #[.int .u64 o, .pointer (some ⟨G + 1, 0, none⟩)] w' fun e w'' => e = .returned (.bool false) ∧ BelowOf W3 w'') := ⟨fun w' hC => by
             obtain ⟨k, hk, hI⟩ := HM.out
             obtain ⟨s0, s1, s2, s3, s4, s5, n0, n1, n2, n3, n4, n5, n6, n7, x0⟩ := CF.out w' hC
             exact (STR.out w' k x0 (hI.below hI.lt hC.out)).mono (fun e w'' h => ⟨h.1, ⟨by rw [h.2]; exact hC.out⟩⟩)⟩
            refine wp_region_below (by kernel_rfl) (by kernel_rfl) ?_
            repeat (first | go_big_quiet_skip | (go_big_quiet_want; rename_i K hK; refine quiet_mk (v := ?_) ?_ (hK _ ?_); rotate_left 1; (focus (intro w' hC; first | (go_simp; first | done | with_reducible rfl) | (obtain ⟨s0, s1, s2, s3, s4, s5, n0, n1, n2, n3, n4, n5, n6, n7, x0⟩ := CF.out w' hC; go_simp; first | done | with_reducible rfl) | (go_simp; go_at_call 85; exact VP1.out w' hC) | (go_simp; go_at_call 84; exact ST1.out w' hC))); clear hK K); try simp only [Act.put, List.setIfInBounds_toArray, List.set_cons_zero, List.set_cons_succ])
            refine wpQuiet_nil ?_
            intro W4 hb1
            have hb := hb1.out
            clear hb1 CF VP1 ST1
            have hq := updV HS HX BN HB HM HO hb
            clear HS HX BN HB HM HO hb
            obtain ⟨HS, HX, BN, HB, HM, HO⟩ := hq
            refine ?qn1
         case' zr =>
          have e0 : decide (0 < i2) = true := decide_eq_true (by omega)
          have wd0 := wrap_dn i2 (by omega) (by omega)
          have wd3 : ((i2 - 1 : Nat) : Int) < (ns.length : Int) := by omega
          obtain ⟨j, hjj⟩ : ∃ j, i2 - 1 = j := ⟨_, rfl⟩
          obtain ⟨Ap, cp, hpc⟩ := HPV.out (by omega)
          have HPC := Aside0.mk hpc
          rw [hjj] at wd0 wd3 HPC
          have wd := (i64_w ((i2 : Int) - 1)).trans wd0
          have wd2 : (0 : Int) ≤ (j : Int) := by omega
          obtain ⟨cv, hcv⟩ : ∃ cv, Lib.compareBytes (Lib.bytesOf q) (Lib.bytesOf p) = cv := ⟨_, rfl⟩
          have dcv := HLE.out
          rw [hcv] at dcv
          have HCV := Aside0.mk hcv
          clear wd0 hjj hpc hcv HLE
          cases a2
          case' true =>
           as_aux_lemma =>
            have VP1 := Aside0.mk (fun (w' : World) (hC : BelowOf W3 w') => (VP.out w' (below_step HB.out hC.out)).mono (fun e w'' h => show e = .returned (.bool true) ∧ BelowOf W3 w'' from ⟨h.1, ⟨below_step hC.out h.2⟩⟩))
            have CM1 := Aside0.mk (fun (w' : World) (hC : BelowOf W3 w') => (compare_calls Ap cp q B0 b0 p w' (Kd.C_below HPC.out.2 (below_step HB.out hC.out)) (Kd.C_below HP0.out.1 (below_step HB.out hC.out))).mono (fun e w'' h => show e = .returned (.int .i64 cv) ∧ BelowOf W3 w'' from ⟨h.1.trans (by rw [HCV.out]), ⟨by rw [h.2]; exact hC.out⟩⟩))
            refine wp_region_below (by kernel_rfl) (by kernel_rfl) ?_
            repeat (first | go_big_quiet_skip | (go_big_quiet_want; rename_i K hK; refine quiet_mk (v := ?_) ?_ (hK _ ?_); rotate_left 1; (focus (intro w' hC; first | (go_simp; first | done | with_reducible rfl) | (obtain ⟨s0, s1, s2, s3, s4, s5, n0, n1, n2, n3, n4, n5, n6, n7, x0⟩ := CF.out w' hC; go_simp; first | done | with_reducible rfl) | (have hp0 := ((below_step HB.out hC.out).cell (World.block_lt_of_cell? w _ HPC.out.1)).trans HPC.out.1; go_simp; first | done | with_reducible rfl) | (go_simp; go_at_call 85; exact VP1.out w' hC) | (go_simp; go_at_call 86; exact CM1.out w' hC))); clear hK K); try simp only [Act.put, List.setIfInBounds_toArray, List.set_cons_zero, List.set_cons_succ])
            refine wpQuiet_nil ?_
            intro W4 hb1
            have hb := hb1.out
            clear hb1 CF VP1 CM1
            replace HB := Aside0.mk (below_step HB.out hb)
            clear hb
            go_wp2_with fail
            go_ret
            rw [HV.out, HE.out false (by rw [show (i2 == 0) = false from beq_eq_false_iff_ne.2 (by omega)]; simp)]
            exact ⟨by simp, HB.out⟩
          case' false =>
           have HGN2 := Aside0.mk (HGN.out rfl (fun _ => rfl))
           by_cases h40 : 40 < v.length
           ·
            have hv1 : decide ((40 : Int) < (v.length : Int)) = true := decide_eq_true (by omega)
            have hv2 : decide (40 < v.length) = true := decide_eq_true h40
            as_aux_lemma =>
             have VP1 := Aside0.mk (fun (w' : World) (hC : BelowOf W3 w') => (VP.out w' (below_step HB.out hC.out)).mono (fun e w'' h => show e = .returned (.bool true) ∧ BelowOf W3 w'' from ⟨h.1, ⟨below_step hC.out h.2⟩⟩))
             have CM1 := Aside0.mk (fun (w' : World) (hC : BelowOf W3 w') => (compare_calls Ap cp q B0 b0 p w' (Kd.C_below HPC.out.2 (below_step HB.out hC.out)) (Kd.C_below HP0.out.1 (below_step HB.out hC.out))).mono (fun e w'' h => show e = .returned (.int .i64 cv) ∧ BelowOf W3 w'' from ⟨h.1.trans (by rw [HCV.out]), ⟨by rw [h.2]; exact hC.out⟩⟩))
             refine wp_region_below (by kernel_rfl) (by kernel_rfl) ?_
             repeat (first | go_big_quiet_skip | (go_big_quiet_want; rename_i K hK; refine quiet_mk (v := ?_) ?_ (hK _ ?_); rotate_left 1; (focus (intro w' hC; first | (go_simp; first | done | with_reducible rfl) | (obtain ⟨s0, s1, s2, s3, s4, s5, n0, n1, n2, n3, n4, n5, n6, n7, x0⟩ := CF.out w' hC; go_simp; first | done | with_reducible rfl) | (have hp0 := ((below_step HB.out hC.out).cell (World.block_lt_of_cell? w _ HPC.out.1)).trans HPC.out.1; go_simp; first | done | with_reducible rfl) | (go_simp; go_at_call 85; exact VP1.out w' hC) | (go_simp; go_at_call 86; exact CM1.out w' hC))); clear hK K); try simp only [Act.put, List.setIfInBounds_toArray, List.set_cons_zero, List.set_cons_succ])
             refine wpQuiet_nil ?_
             intro W4 hb1
             have hb := hb1.out
             clear hb1 CF VP1 CM1
             replace HB := Aside0.mk (below_step HB.out hb)
             clear hb
             go_wp2_with fail
             go_ret
             rw [HV.out, HE.out false (by rw [show decide (v.length ≤ 40) = false from decide_eq_false (by omega)]; simp)]
             exact ⟨by simp, HB.out⟩
           have hv1 : decide ((40 : Int) < (v.length : Int)) = false := decide_eq_false (by omega)
           have hv2 : decide (40 < v.length) = false := decide_eq_false h40
           have HV40 := Aside0.mk (show decide (v.length ≤ 40) = true from decide_eq_true (by omega))
           have HC3 := Aside0.mk (show (i2 == 0) = false from beq_eq_false_iff_ne.2 (by omega))
           by_cases ho0 : o = 0
           case' pos =>
            subst ho0
            have HO0 := Aside0.mk (show ((0 : Int) == 0) = true from rfl)
            have VP1 := Aside0.mk (fun (w' : World) (hC : BelowOf W3 w') => (VP.out w' (below_step HB.out hC.out)).mono (fun e w'' h => show e = .returned (.bool true) ∧ BelowOf W3 w'' from ⟨h.1, ⟨below_step hC.out h.2⟩⟩))
            have CM1 := Aside0.mk (fun (w' : World) (hC : BelowOf W3 w') => (compare_calls Ap cp q B0 b0 p w' (Kd.C_below HPC.out.2 (below_step HB.out hC.out)) (Kd.C_below HP0.out.1 (below_step HB.out hC.out))).mono (fun e w'' h => show e = .returned (.int .i64 cv) ∧ BelowOf W3 w'' from ⟨h.1.trans (by rw [HCV.out]), ⟨by rw [h.2]; exact hC.out⟩⟩))
            refine wp_region_below (by kernel_rfl) (by kernel_rfl) ?_
            repeat (first | go_big_quiet_skip | (go_big_quiet_want; rename_i K hK; refine quiet_mk (v := ?_) ?_ (hK _ ?_); rotate_left 1; (focus (intro w' hC; first | (go_simp; first | done | with_reducible rfl) | (obtain ⟨s0, s1, s2, s3, s4, s5, n0, n1, n2, n3, n4, n5, n6, n7, x0⟩ := CF.out w' hC; go_simp; first | done | with_reducible rfl) | (have hp0 := ((below_step HB.out hC.out).cell (World.block_lt_of_cell? w _ HPC.out.1)).trans HPC.out.1; go_simp; first | done | with_reducible rfl) | (go_simp; go_at_call 85; exact VP1.out w' hC) | (go_simp; go_at_call 86; exact CM1.out w' hC))); clear hK K); try simp only [Act.put, List.setIfInBounds_toArray, List.set_cons_zero, List.set_cons_succ])
            refine wpQuiet_nil ?_
            intro W4 hb1
            have hb := hb1.out
            clear hb1 CF VP1 CM1
            have hq := updV HS HX BN HB HM HO hb
            clear HS HX BN HB HM HO hb
            obtain ⟨HS, HX, BN, HB, HM, HO⟩ := hq
            refine ?qp0
           case' neg =>
            have d0 : decide (o = 0) = false := decide_eq_false ho0
            have d1 : (o == 0) = false := beq_eq_false_iff_ne.2 ho0
            have d3 : (o != 0) = true := by rw [bne, d1]; rfl
            have HO0 := Aside0.mk (show (o == 0) = false from beq_eq_false_iff_ne.2 ho0)
            cases a3
            case' false =>
             as_aux_lemma =>
              have VP1 := Aside0.mk (fun (w' : World) (hC : BelowOf W3 w') => (VP.out w' (below_step HB.out hC.out)).mono (fun e w'' h => show e = .returned (.bool true) ∧ BelowOf W3 w'' from ⟨h.1, ⟨below_step hC.out h.2⟩⟩))
              have CM1 := Aside0.mk (fun (w' : World) (hC : BelowOf W3 w') => (compare_calls Ap cp q B0 b0 p w' (Kd.C_below HPC.out.2 (below_step HB.out hC.out)) (Kd.C_below HP0.out.1 (below_step HB.out hC.out))).mono (fun e w'' h => show e = .returned (.int .i64 cv) ∧ BelowOf W3 w'' from ⟨h.1.trans (by rw [HCV.out]), ⟨by rw [h.2]; exact hC.out⟩⟩))
              have ST1 : Aside0 (∀ w' : World, BelowOf W3 w' → Calls Tryz.prog 84 #[.int .u64 o, .pointer (some ⟨G + 1, 0, none⟩)] w' fun e w'' => e = .returned (.bool true) ∧ BelowOf W3 w'') := ⟨fun w' hC => by
               obtain ⟨k, hk, hI⟩ := HM.out
               obtain ⟨s0, s1, s2, s3, s4, s5, n0, n1, n2, n3, n4, n5, n6, n7, x0⟩ := CF.out w' hC
               exact (STR.out w' k x0 (hI.below hI.lt hC.out)).mono (fun e w'' h => ⟨h.1, ⟨by rw [h.2]; exact hC.out⟩⟩)⟩
              refine wp_region_below (by kernel_rfl) (by kernel_rfl) ?_
              repeat (first | go_big_quiet_skip | (go_big_quiet_want; rename_i K hK; refine quiet_mk (v := ?_) ?_ (hK _ ?_); rotate_left 1; (focus (intro w' hC; first | (go_simp; first | done | with_reducible rfl) | (obtain ⟨s0, s1, s2, s3, s4, s5, n0, n1, n2, n3, n4, n5, n6, n7, x0⟩ := CF.out w' hC; go_simp; first | done | with_reducible rfl) | (have hp0 := ((below_step HB.out hC.out).cell (World.block_lt_of_cell? w _ HPC.out.1)).trans HPC.out.1; go_simp; first | done | with_reducible rfl) | (go_simp; go_at_call 85; exact VP1.out w' hC) | (go_simp; go_at_call 86; exact CM1.out w' hC) | (go_simp; go_at_call 84; exact ST1.out w' hC))); clear hK K); try simp only [Act.put, List.setIfInBounds_toArray, List.set_cons_zero, List.set_cons_succ])
              refine wpQuiet_nil ?_
              intro W4 hb1
              have hb := hb1.out
              clear hb1 CF VP1 CM1 ST1
              replace HB := Aside0.mk (below_step HB.out hb)
              clear hb
              go_wp2_with fail
              go_ret
              rw [HV.out, HE.out false (by rw [HO0.out]; simp)]
              exact ⟨by simp, HB.out⟩
            case' true =>
             have VP1 := Aside0.mk (fun (w' : World) (hC : BelowOf W3 w') => (VP.out w' (below_step HB.out hC.out)).mono (fun e w'' h => show e = .returned (.bool true) ∧ BelowOf W3 w'' from ⟨h.1, ⟨below_step hC.out h.2⟩⟩))
             have CM1 := Aside0.mk (fun (w' : World) (hC : BelowOf W3 w') => (compare_calls Ap cp q B0 b0 p w' (Kd.C_below HPC.out.2 (below_step HB.out hC.out)) (Kd.C_below HP0.out.1 (below_step HB.out hC.out))).mono (fun e w'' h => show e = .returned (.int .i64 cv) ∧ BelowOf W3 w'' from ⟨h.1.trans (by rw [HCV.out]), ⟨by rw [h.2]; exact hC.out⟩⟩))
             have ST1 : Aside0 (∀ w' : World, BelowOf W3 w' → Calls Tryz.prog 84 #[.int .u64 o, .pointer (some ⟨G + 1, 0, none⟩)] w' fun e w'' => e = .returned (.bool false) ∧ BelowOf W3 w'') := ⟨fun w' hC => by
              obtain ⟨k, hk, hI⟩ := HM.out
              obtain ⟨s0, s1, s2, s3, s4, s5, n0, n1, n2, n3, n4, n5, n6, n7, x0⟩ := CF.out w' hC
              exact (STR.out w' k x0 (hI.below hI.lt hC.out)).mono (fun e w'' h => ⟨h.1, ⟨by rw [h.2]; exact hC.out⟩⟩)⟩
             refine wp_region_below (by kernel_rfl) (by kernel_rfl) ?_
             repeat (first | go_big_quiet_skip | (go_big_quiet_want; rename_i K hK; refine quiet_mk (v := ?_) ?_ (hK _ ?_); rotate_left 1; (focus (intro w' hC; first | (go_simp; first | done | with_reducible rfl) | (obtain ⟨s0, s1, s2, s3, s4, s5, n0, n1, n2, n3, n4, n5, n6, n7, x0⟩ := CF.out w' hC; go_simp; first | done | with_reducible rfl) | (have hp0 := ((below_step HB.out hC.out).cell (World.block_lt_of_cell? w _ HPC.out.1)).trans HPC.out.1; go_simp; first | done | with_reducible rfl) | (go_simp; go_at_call 85; exact VP1.out w' hC) | (go_simp; go_at_call 86; exact CM1.out w' hC) | (go_simp; go_at_call 84; exact ST1.out w' hC))); clear hK K); try simp only [Act.put, List.setIfInBounds_toArray, List.set_cons_zero, List.set_cons_succ])
             refine wpQuiet_nil ?_
             intro W4 hb1
             have hb := hb1.out
             clear hb1 CF VP1 CM1 ST1
             have hq := updV HS HX BN HB HM HO hb
             clear HS HX BN HB HM HO hb
             obtain ⟨HS, HX, BN, HB, HM, HO⟩ := hq
             refine ?qp1
         all_goals
          as_aux_lemma =>
           obtain ⟨s0, s1, s2, s3, s4, s5⟩ := cells6 HS.out
           obtain ⟨n0, n1, n2, n3, n4, n5, n6, n7⟩ := cells8 BN.out
           have x0 := cells1 HX.out
           go_wp2_with fail
           refine (AS4.out _ HB.out).mono ?_
           rintro r Wa4 ⟨rfl, hb0⟩
           have hb : Below W4.heap.size W4 Wa4 := d0_below hb0
           clear hb0
           have hq := updV HS HX BN HB HM HO hb
           clear HS HX BN HB HM HO hb
           obtain ⟨HS, HX, BN, HB, HM, HO⟩ := hq
           clear s0 s1 s2 s3 s4 s5 n0 n1 n2 n3 n4 n5 n6 n7 x0
           obtain ⟨s0, s1, s2, s3, s4, s5⟩ := cells6 HS.out
           obtain ⟨n0, n1, n2, n3, n4, n5, n6, n7⟩ := cells8 BN.out
           have x0 := cells1 HX.out
           cases a4 with
           | false =>
            go_wp2_with fail
            go_ret
            rw [HV.out, HE.out false (by simp)]
            exact ⟨by simp, HB.out⟩
           | true =>
            go_wp2_with fail
            refine (AS7.out _ HB.out).mono ?_
            rintro r Wa5 ⟨rfl, hb0⟩
            have hb : Below Wa4.heap.size Wa4 Wa5 := d0_below hb0
            clear hb0
            have hq := updV HS HX BN HB HM HO hb
            clear HS HX BN HB HM HO hb
            obtain ⟨HS, HX, BN, HB, HM, HO⟩ := hq
            clear s0 s1 s2 s3 s4 s5 n0 n1 n2 n3 n4 n5 n6 n7 x0
            obtain ⟨s0, s1, s2, s3, s4, s5⟩ := cells6 HS.out
            obtain ⟨n0, n1, n2, n3, n4, n5, n6, n7⟩ := cells8 BN.out
            have x0 := cells1 HX.out
            cases a5 with
            | false =>
             go_wp2_with fail
             go_ret
             rw [HV.out, HE.out false (by simp)]
             exact ⟨by simp, HB.out⟩
            | true =>
             go_wp2_with fail
             cases a6 with
             | false =>
              obtain ⟨kk, hkk, hI⟩ := HM.out
              refine (CF4.out _ HB.out kk x0 hI).mono ?_
              rintro r W' ⟨rfl, hw⟩
              obtain rfl : Wa5 = W' := hw.symm
              clear hw hI
              go_wp2_with fail
              go_ret
              rw [HV.out, HE.out false (by simp)]
              exact ⟨by simp, HB.out⟩
             | true =>
              obtain ⟨kk, hkk, hI⟩ := HM.out
              refine (CF4.out _ HB.out kk x0 hI).mono ?_
              rintro r W' ⟨rfl, hw⟩
              obtain rfl : Wa5 = W' := hw.symm
              clear hw hI
              go_wp2_with fail
              cases a7 with
              | false =>
               obtain ⟨kk, hkk, hI⟩ := HM.out
               refine (CF7.out _ HB.out kk x0 hI).mono ?_
               rintro r W' ⟨rfl, hw⟩
               obtain rfl : Wa5 = W' := hw.symm
               clear hw hI
               go_wp2_with fail
               go_ret
               rw [HV.out, HE.out false (by simp)]
               exact ⟨by simp, HB.out⟩
              | true =>
               obtain ⟨kk, hkk, hI⟩ := HM.out
               refine (CF7.out _ HB.out kk x0 hI).mono ?_
               rintro r W' ⟨rfl, hw⟩
               obtain rfl : Wa5 = W' := hw.symm
               clear hw hI
               go_wp2_with fail
               refine (LK.out _ HB.out).mono ?_
               rintro r Wa8 ⟨rfl, hb0⟩
               have hb : Below Wa5.heap.size Wa5 Wa8 := hb0
               clear hb0
               have hq := updV HS HX BN HB HM HO hb
               clear HS HX BN HB HM HO hb
               obtain ⟨HS, HX, BN, HB, HM, HO⟩ := hq
               clear s0 s1 s2 s3 s4 s5 n0 n1 n2 n3 n4 n5 n6 n7 x0
               obtain ⟨s0, s1, s2, s3, s4, s5⟩ := cells6 HS.out
               obtain ⟨n0, n1, n2, n3, n4, n5, n6, n7⟩ := cells8 BN.out
               have x0 := cells1 HX.out
               cases a8 with
               | false =>
                go_wp2_with fail
                go_ret
                rw [HV.out, HE.out false (by simp)]
                exact ⟨by simp, HB.out⟩
               | true =>
                have hcv1 := Kd.C_string (P := Tryz.prog) (A := B0) (c := b0) Tryz.underlying38 Tryz.underlying5 Tryz.underlying9 (Kd.C_below HP0.out.1 HB.out)
                go_wp2_with fail
                as_aux_lemma =>
                 clear hcv1
                 refine (HPR.out _ (HSL.out (by first | rfl | trivial))).mono ?_
                 rintro r W7 ⟨rfl, hb⟩
                 have hq := updV HS HX BN HB HM HO hb
                 clear HS HX BN HB HM HO hb
                 obtain ⟨HS, HX, BN, HB, HM, HO⟩ := hq
                 clear s0 s1 s2 s3 s4 s5 n0 n1 n2 n3 n4 n5 n6 n7 x0
                 obtain ⟨s0, s1, s2, s3, s4, s5⟩ := cells6 HS.out
                 obtain ⟨n0, n1, n2, n3, n4, n5, n6, n7⟩ := cells8 BN.out
                 have x0 := cells1 HX.out
                 obtain ⟨mm, hmm2, hOW⟩ := HO.out
                 have hlk := own_look hOW (parentL p) (parentL_by HP0.out.2.2) (parentL_len HP0.out.2.1)
                 obtain ⟨D, hown, hhas⟩ := hOW.out
                 have HOD := Aside0.mk hown
                 have HOH := Aside0.mk hhas
                 have HMM := Aside0.mk hmm2
                 clear hown hhas hOW hmm2
                 obtain ⟨L, hL⟩ : ∃ L, lookF (ns.take i2) (parentL p) = L := ⟨_, rfl⟩
                 rw [hL] at hlk
                 simp only [hL] at HE
                 clear hL
                 cases L with
                 | none =>
                  go_wp2_with fail
                  go_ret
                  rw [HV.out, HE.out false (by simp)]
                  exact ⟨by simp, HB.out⟩
                 | some ow =>
                  by_cases hw0 : ow = 0
                  ·
                   subst hw0
                   have hcv2 := Kd.C_string (P := Tryz.prog) (A := B0) (c := b0) Tryz.underlying38 Tryz.underlying5 Tryz.underlying9 (Kd.C_below HP0.out.1 HB.out)
                   have HMX := Aside0.mk (show mm < maxLen by have := HMM.out; unfold maxLen; omega)
                   have HKS := Aside0.mk (key_str p HP0.out.2.1)
                   have HWU := Aside0.mk (plainElem_int (H := Unit) (P := Tryz.prog) (e := 22) Tryz.underlying22 (wf_u64 HRO.out.1 HRO.out.2))
                   go_wp2_with (at_mapUpdate; refine wpList_mapUpdate_own _ rfl _ _ _ 113 rfl 9 22 (Maps.string_keyed Tryz.underlying9) Tryz.underlying113 _ G3 mm D rfl HOD.out HMX.out _ _ (.string (Lib.bytesOf p)) rfl rfl HKS.out (.lit (.int .u64 _)) [] HWU.out ?_; intro w5 hown5 hgrow5)
                   have hg1 := HG.out
                   have hg2 := HG3.out
                   have HS5 := Aside0.mk ((hgrow5.block w.heap.size (Array.getElem?_eq_some_iff.1 HS.out).1 (by simp; omega)).trans HS.out)
                   have HX5 := Aside0.mk ((hgrow5.block (G + 1) (Array.getElem?_eq_some_iff.1 HX.out).1 (by simp; omega)).trans HX.out)
                   have HB5 := Aside0.mk (below_grown HB.out (by omega) hgrow5 HB.out.size)
                   have HO5 := Aside0.mk (ownMap_put HOD.out HOH.out ⟨p, v, _, m, h, ep, ge, wa⟩ HP0.out.2.2 hown5)
                   have HM5 := Aside0.mk (show ∃ mm, mm ≤ xs.length ∧ IdMap w5 G mm xs from by
                    obtain ⟨k, h1, h2⟩ := HM.out
                    obtain ⟨D2, h3, h4⟩ := h2.out
                    exact ⟨k, h1, ⟨D2, h3.kept hgrow5 (by simp; omega), h4⟩⟩)
                   have HEN := Aside0.mk (HE.out true (by rw [HC3.out, HV40.out, HO0.out]; rfl))
                   have hmi2 := HMM.out
                   clear hown5 hgrow5 hg1 hg2
                   have hj2 := HJ.out
                   obtain ⟨k1, rfl⟩ : ∃ k1, gk = k1 + 1 := ⟨gk - 1, by omega⟩
                   go_roundg k1
                   case measure => omega
                   case rel => exact ⟨i2 + 1, by go_num, ⟨⟨by omega, by omega⟩⟩, ⟨by rw [HEN.out, Bool.true_and]⟩, HS5, HX5, HM5, ⟨⟨mm + 1, by omega, by rw [HT.out]; exact HO5.out⟩⟩, HGN2, HB5⟩
                  ·
                   have e8 : decide (ow = 0) = false := decide_eq_false hw0
                   have e9 : (ow == 0) = false := beq_eq_false_iff_ne.2 hw0
                   go_wp2_with fail
                   go_ret
                   rw [HV.out, HE.out false (by simp [hw0])]
                   exact ⟨by simp, HB.out⟩
       ·
        skip
        have c2 : decide ((i2 : Int) < (ns.length : Int)) = false := decide_eq_false (by omega)
        have HNS := Aside0.mk (show allI (nodeI e g xs ns) 0 ns = true from by rw [HA.out, allI_end _ ns i2 (by omega)])
        go_wp2_with fail
        go_ret
        rw [HV.out, HNS.out]
        exact ⟨by simp, HB.out⟩
theorem valIC : ValIC := fun e g n t As cs xs An cn ns w h1 hc1 h2 hc2 hs hx hm => by
 have h := impl_ValidState_calls e g n t As cs xs An cn ns w h1 hc1 h2 hc2 ⟨hs.x, hs.n, hs.e, hs.m⟩ ⟨hx, hm⟩
 rw [valid_eq] at h
 exact h
end Go.Proofs.YtbgbocdohadhoaaGreatDoor.Print
namespace Go.Proofs.YtbgbocdohadhoaaGreatDoor.fnExactRegrace
open Go.ChangeShapes Go.WideShapes Go.ChangeAt Go.RowKit Print
open Go.ChangeMaps (open_string shut_string)
open Go.Proofs.YtbgbocdohadhoaaGreatDoorW.PrintWords Go.Proofs.YtbgbocdohadhoaaGreatDoorW.PrintLast Go.Proofs.YtbgbocdohadhoaaGreatDoorW.PrintMore
set_option linter.unusedVariables false
theorem own : ownKnob Tryz.prog.godebug = none := by kernel_rfl
theorem laidOut : laidOutB Tryz.prog = true := by kernel_rfl
set_option maxRecDepth 100000 in
theorem lifted (os : Os) (started : os.Started) (H : Type) (enc : TypeId × Value → H) :
  ReturnsInHanded {} Tryz.checked os 3 .any (fun w args => (Rows.fnExactRegraceSpec.pre enc Tryz.prog Tryz.f3 Rows.fnExactRegraceRow.domain false w args ∧ laidMetH Tryz.prog Rows.fnExactRegraceRow.laid w) ∧ sizedMet enc Tryz.prog Tryz.f3 (OpenSpec.ofChange Rows.fnExactRegraceSpec) false w args) (Rows.fnExactRegraceSpec.post enc Tryz.prog Tryz.f3 false true false false) := by
 refine returnsInHanded_of_change_and (C := Tryz.checked) (X := fun w _ => laidMetH Tryz.prog Rows.fnExactRegraceRow.laid w) (fun _ _ _ hh h => h.of_heap hh) own started (by kernel_rfl) Tryz.func3
  (ChangeSpec.witness_shaped (enc := enc) (C := Tryz.checked) (os := os) (X := fun w _ => laidMetH Tryz.prog Rows.fnExactRegraceRow.laid w) false (World.laidAll Tryz.prog os Rows.fnExactRegraceRow.laid) #[.agg #[.int .u64 0, .int .u64 0, .int .u64 0, .int .i64 0, .slice none 0 0, .slice none 0 0], .int .i64 0] 8 (World.laidAll_os _ _ _)
   (World.shaped_of_ZipB (by kernel_rfl) (by kernel_rfl)) (by kernel_rfl) (by kernel_rfl) (by kernel_rfl)
   (by rw [MakeChecks.laidMetH_plain _ _ _ (by kernel_rfl)]; exact laidMet_laidAll _ (by kernel_rfl) (by kernel_rfl))) ?_
 intro W base args ds gs before hval0 hW hcnd hsz0 hL _
 have hsz : (DataW.weightsEach Tryz.prog (Tryz.f3.params.toList ++ Rows.fnExactRegraceSpec.plain.varTypes Tryz.prog) (ds ++ gs)).all (· ≤ reachBytes) = true := hsz0
 have hval : ∀ (j : Nat) t v, Tryz.f3.params[j]? = some t → args[j]? = some v → Value.okWide Tryz.prog W .any base t v := hval0
 have hW' := hW
 obtain ⟨p, q, hA0, hV, rfl, hfz, hnd⟩ := hW
 have hA : DataW.TrodAll enc Tryz.prog W 0 (fun _ => true) true Tryz.f3.params.toList args.toList ds p := hA0
 rw [Tryz.params3] at hA hval hsz
 obtain ⟨v0, vs0, d0, ds0, p0, q0, hargs, rfl, rfl, h0, r0⟩ := trodAll_cons hA
 obtain ⟨v1, vs1, d1, ds1, p1, q1, rfl, rfl, rfl, h1, r1⟩ := trodAll_cons r0
 obtain ⟨rfl, rfl, rfl⟩ := trodAll_nil r1
 obtain rfl : args = #[v0, v1] := by cases args; simp_all
 obtain ⟨rfl, rfl⟩ := trodVars_none hV
 have k0 := h0
 have lt0 : ∀ x ∈ p0, x.block < W.heap.size := by obtain ⟨m, hm⟩ := k0; exact DataW.trod_lt m _ _ _ hm
 have k1 := h1
 have lt1 : ∀ x ∈ p1, x.block < W.heap.size := by obtain ⟨m, hm⟩ := k1; exact DataW.trod_lt m _ _ _ hm
 obtain ⟨e0, g0, n0, t0, As0, cs0, xs0, An0, cn0, ns0, rfl, hs0, hcs0, hn0, hcn0, gx0, gn0, we0, wg0, wn0, wt0⟩ := state_open hsz (j := 0) rfl rfl (hval 0 26 v0 rfl rfl) h0
 obtain ⟨n1, rfl, rfl, rfl, w1⟩ := open_int Tryz.underlying3 (hval 1 3 v1 rfl rfl) h1
 clear hA0 hval0 hsz0 hsz
 refine (FnExactRegrace_walk valIC e0 g0 n0 t0 n1 As0 cs0 xs0 An0 cn0 ns0 W hs0 hcs0 hn0 hcn0 gx0 gn0).mono fun e W' ⟨he, bel⟩ => ?_
 subst he
 exact ⟨_, rfl, _, _, _, [], _, [], hW', trodAll_mk1 (shut_bool Tryz.underlying4 _), (trodAll_cons_mk (Below.trod laidOut (by kernel_rfl) (of_decide_eq_true (by kernel_rfl)) k0 bel lt0) (trodAll_cons_mk (Below.trod laidOut (by kernel_rfl) (of_decide_eq_true (by kernel_rfl)) k1 bel lt1) trodAll_mk0)), rfl, bel.frame _, fun h => by cases h⟩
theorem over : Rows.fnExactRegraceRow.holds Tryz.pinned (OpenSpec.ofChange Rows.fnExactRegraceSpec) :=
 OpenClaim.holds_of_wide 3 Tryz.f3 rfl rfl rfl rfl rfl rfl rfl ⟨rfl, rfl, rfl, rfl, rfl⟩ rfl rfl rfl rfl rfl (by kernel_rfl) Tryz.func3 (by kernel_rfl)
  (of_decide_eq_true (by kernel_rfl)) (by unfold Func.isWrapper; first | (rw [if_pos (by decide +kernel)]; kernel_rfl) | (rw [if_neg (by decide +kernel)]; exact ⟨rfl, rfl⟩))
  (fun os started H enc _ => lifted os started H enc)
theorem card : Rows.FnExactRegraceCardSaid :=
 Claim7.holds_tied_plain_at .later [] [.data, .pinned] true (true, "1f18d1295a7c5ca0029c8454bacdcaa440162efbe6a17fc9a9c9a340f9e5627a") false over (fun _ h => by cases h) (by kernel_rfl) (fun _ h => by cases h) fnExactRegrace_row_tie rfl ⟨rfl, rfl⟩ (by kernel_rfl) rfl
  (fun f fn hf hfn => by
   obtain rfl : f = 3 := Option.some.inj ((show Tryz.prog.funcNamed "loop.example/s02132/laws.FnExactRegrace" = some 3 by kernel_rfl).symm.trans hf) |>.symm
   obtain rfl : fn = Tryz.f3 := (Option.some.inj (Tryz.func3.symm.trans hfn)).symm
   exact ⟨by kernel_rfl, fun j t ht => by
    rw [Tryz.params3] at ht
    have hm : t ∈ [26, 3] := by simpa using Array.mem_of_getElem? ht
    have hall : ([26, 3].all fun u => !Tryz.prog.wantsStandIn u) = true := by kernel_rfl
    exact (show Tryz.prog.wantsStandIn t = false by simpa using List.all_eq_true.1 hall t hm)⟩)
  (by kernel_rfl)
end Go.Proofs.YtbgbocdohadhoaaGreatDoor.fnExactRegrace
namespace Go.Proofs.YtbgbocdohadhoaaGreatDoor
theorem fnExactRegrace_holds : Rows.FnExactRegraceCardSaid := fnExactRegrace.card
end Go.Proofs.YtbgbocdohadhoaaGreatDoor
