/- Texts of this session, joined by its own program. -/
import Derived.Deep.RegionLaw
import Derived.Test.YtbgbocdohadhoaaDoorCDS6
namespace Go.Proofs.YtbgbocdohadhoaaDoor.Print
open Go Go.RowKit Go.Proofs.YtbgbocdohadhoaaDoorW.PrintWords Go.Proofs.YtbgbocdohadhoaaDoorW.PrintLast Go.Proofs.YtbgbocdohadhoaaDoorW.PrintMore
set_option linter.unusedVariables false
set_option linter.unusedSimpArgs false
theorem kept_grown_set {w W W2 : World} {S : Nat → Prop} {v u : Value} {p j : Nat} (h : Kept w W S) (hg : W.grownBy W2 v.ownBlock) (hv : ∀ k, v.ownBlock = some k → k < w.heap.size → S k) (hp : p < w.heap.size → S p) : Kept w (W2.setCell ⟨p, j, none⟩ u) S :=
 ⟨Nat.le_trans h.1 (by simp only [World.setCell, Array.size_setIfInBounds, Array.size_modify]; exact hg.size), fun i hi hn => (Below.heap_setCell _ ⟨p, j, none⟩ _ i (fun e => by have e' : i = p := e; exact hn (e' ▸ hp (e' ▸ hi)))).trans ((hg.block i (Nat.lt_of_lt_of_le hi h.1) (fun e => hn (hv i e.symm hi))).trans (h.2 i hi hn))⟩
theorem cut_none {l : List Int} (h : cSt l = none) : decA l = corA := by rw [← cut_dec, h]; rfl
set_option maxHeartbeats 8000000 in
set_option maxRecDepth 100000 in
theorem spec_DecodeState_at (A : Option Addr) (c : Nat) (l : List Int) (w : World) (h : Kd.C (Kd.int .u8) w A l.length l) (hc : l.length ≤ c) (hl : l.length ≤ 2097152) (hbr : ∀ x ∈ l, 0 ≤ x ∧ x < 256) :
  Calls Tryd.prog 28 #[.slice A l.length c] w fun r w' => DecAns w w l r w' := by
 have HBR := Aside0.mk hbr
 have HLL := Aside0.mk hl
 have H := Aside0.mk (And.intro h hc)
 have RV := Aside0.mk (fun (o : Option (List Int)) (ho : OkP l o) (W : World) (hW : Below w.heap.size w W) => rvC hbr hl A c o ho W (Kd.C_below h hW) hc)
 have RT := Aside0.mk (fun (o : Option (List Int)) (ho : OkP l o) (W : World) (hW : Below w.heap.size w W) => rtC hbr hl A c o ho W (Kd.C_below h hW) hc)
 have RB := Aside0.mk (fun (o : Option (List Int)) (ho : OkP l o) (W : World) (hW : Below w.heap.size w W) => rbC hbr hl A c o ho W (Kd.C_below h hW) hc)
 clear hbr hl h hc
 have ho0 : OkP l (some l) := fun r e => by cases e; simp
 obtain ⟨y1, q1⟩ : ∃ y, lax 0 (rv 10 0 0) (some l) = y := ⟨_, rfl⟩
 obtain ⟨e, o1⟩ := y1
 have C1 := Aside0.mk (fun (W : World) (hW : Below w.heap.size w W) => RV.out (some l) ho0 W hW)
 have ho1 := (lax_N HBR.out HLL.out (some l) ho0).2
 rw [q1] at C1 ho1
 simp only at C1 ho1
 rw [show plc l (some l) = 0 by simp [plc]] at C1
 obtain ⟨y2, q2⟩ : ∃ y, lax 0 (rv 10 0 0) o1 = y := ⟨_, rfl⟩
 obtain ⟨g, o2⟩ := y2
 have C2 := Aside0.mk (fun (W : World) (hW : Below w.heap.size w W) => RV.out o1 ho1 W hW)
 have ho2 := (lax_N HBR.out HLL.out o1 ho1).2
 rw [q2] at C2 ho2
 simp only at C2 ho2
 obtain ⟨y3, q3⟩ : ∃ y, lax 0 (rv 10 0 0) o2 = y := ⟨_, rfl⟩
 obtain ⟨n, o3⟩ := y3
 have C3 := Aside0.mk (fun (W : World) (hW : Below w.heap.size w W) => RV.out o2 ho2 W hW)
 have ho3 := (lax_N HBR.out HLL.out o2 ho2).2
 rw [q3] at C3 ho3
 simp only at C3 ho3
 obtain ⟨y4, q4⟩ : ∃ y, lax 0 (rv 10 0 0) o3 = y := ⟨_, rfl⟩
 obtain ⟨v4, o4⟩ := y4
 have C4 := Aside0.mk (fun (W : World) (hW : Below w.heap.size w W) => RV.out o3 ho3 W hW)
 have ho4 := (lax_N HBR.out HLL.out o3 ho3).2
 rw [q4] at C4 ho4
 simp only at C4 ho4
 have hc0 : cSt l = o4.bind (fun l' => if (50 : Int) < v4 then none else bindR (rdIds v4.toNat) (fun h => cutR 200 fun j => bindR (cNos j) fun q => pureR (e, g, n, h, q)) l') := by
  show (some l).bind cSt = _
  unfold cSt
  rw [lax_step 0, q1]
  simp only
  rw [lax_step 0, q2]
  simp only
  rw [lax_step 0, q3]
  simp only
  rw [lax_cut, q4]
  rfl
 have HC := Aside0.mk hc0
 have HN4 := Aside0.mk (show 0 ≤ v4 by have := lax_nonneg o3; rw [q4] at this; exact this)
 have HO4 := Aside0.mk ho4
 have hpn := plc_neg l o4
 clear q1 q2 q3 q4 hc0 ho0 ho1 ho2 ho3 ho4
 go_enter Tryd.func28, Tryd.ntmps28
 go_upto_region 1 with (fail)
 have bz := blk_new w (.cells #[.int .u64 0, .int .u64 0, .int .u64 0, .int .i64 0, .slice none 0 0, .slice none 0 0] 36)
 have hB := below_alloc (Below.refl w.heap.size w) (.cells #[.int .u64 0, .int .u64 0, .int .u64 0, .int .i64 0, .slice none 0 0, .slice none 0 0] 36)
 generalize w.alloc (.cells #[.int .u64 0, .int .u64 0, .int .u64 0, .int .i64 0, .slice none 0 0, .slice none 0 0] 36) = W0 at *
 have HB := Aside0.mk hB
 clear hB
 go_wp2_with fail
 refine (C1.out _ HB.out).mono ?_
 rintro r w1 ⟨rfl, hb⟩
 replace bz := blk_below bz hb
 replace HB := Aside0.mk (below_step HB.out hb)
 clear hb C1
 go_wp2_with fail
 refine (C2.out _ HB.out).mono ?_
 rintro r w2 ⟨rfl, hb⟩
 replace bz := blk_below bz hb
 replace HB := Aside0.mk (below_step HB.out hb)
 clear hb C2
 go_wp2_with fail
 refine (C3.out _ HB.out).mono ?_
 rintro r w3 ⟨rfl, hb⟩
 replace bz := blk_below bz hb
 replace HB := Aside0.mk (below_step HB.out hb)
 clear hb C3
 go_wp2_with fail
 refine (C4.out _ HB.out).mono ?_
 rintro r w4 ⟨rfl, hb⟩
 replace bz := blk_below bz hb
 replace HB := Aside0.mk (below_step HB.out hb)
 clear hb C4
 go_upto_region 7 with (fail)
 have bx := blk_new w4 (.cells #[.int .u64 e, .int .u64 g, .int .u64 n, .int .i64 0, .slice none 0 0, .slice none 0 0] 36)
 have hb := below_alloc (Below.refl w4.heap.size w4) (.cells #[.int .u64 e, .int .u64 g, .int .u64 n, .int .i64 0, .slice none 0 0, .slice none 0 0] 36)
 have bz1 := blk_alloc bz (.cells #[.int .u64 e, .int .u64 g, .int .u64 n, .int .i64 0, .slice none 0 0, .slice none 0 0] 36)
 have hRp : w.heap.size < w4.heap.size := blk_lt bz
 obtain ⟨p, hp⟩ : ∃ p, w4.heap.size = p := ⟨_, rfl⟩
 replace HB := Aside0.mk (below_step HB.out hb)
 generalize w4.alloc (.cells #[.int .u64 e, .int .u64 g, .int .u64 n, .int .i64 0, .slice none 0 0, .slice none 0 0] 36) = W1 at *
 rw [hp] at bx hRp ⊢
 have BZ := Aside0.mk bz1
 have PP := Aside0.mk (And.intro hRp (blk_lt bx))
 clear bz bz1 hb hRp hp
 obtain ⟨a4, ha4⟩ : ∃ a, plc l o4 = a := ⟨_, rfl⟩
 rw [ha4] at hpn ⊢
 have HA4 := Aside0.mk ha4
 by_cases hbad : o4.isNone = true ∨ 50 < v4
 case pos =>
  have HZ := Aside0.mk (show decA l = corA by
   refine cut_none ?_
   rw [HC.out]
   rcases hbad with h | h
   ·
    rw [Option.isNone_iff_eq_none.1 h]; rfl
   ·
    cases o4 with
    | none => rfl
    | some r => rw [Option.bind_some, if_pos h])
  have BZ8 := BZ
  clear ha4
  cases hn : o4.isNone with
  | true =>
   rw [hn] at hpn
   clear hbad hn
   obtain ⟨x0, x1, x2, x3, x4, x5⟩ := cells6 BZ8.out
   have f0 := blk_frozen BZ8.out 0
   have f1 := blk_frozen BZ8.out 1
   have f2 := blk_frozen BZ8.out 2
   have f3 := blk_frozen BZ8.out 3
   have f4 := blk_frozen BZ8.out 4
   have f5 := blk_frozen BZ8.out 5
   go_wp2_with fail
   refine bodyPost_ret (results_ct rfl _ _ w.heap.size 36 #[.int .u64 0, .int .u64 0, .int .u64 0, .int .i64 0, .slice none 0 0, .slice none 0 0] (0, 0) _ rfl (blk_set6 BZ8.out) Tryd.underlying36 rfl (by kernel_rfl)) rfl ?_
   exact DecAns.zero HZ.out HB.out
  | false =>
   have h50 : decide ((50 : Int) < v4) = true := decide_eq_true (by rcases hbad with h | h; (rw [hn] at h; cases h); exact h)
   rw [hn] at hpn
   clear hbad hn
   obtain ⟨x0, x1, x2, x3, x4, x5⟩ := cells6 BZ8.out
   have f0 := blk_frozen BZ8.out 0
   have f1 := blk_frozen BZ8.out 1
   have f2 := blk_frozen BZ8.out 2
   have f3 := blk_frozen BZ8.out 3
   have f4 := blk_frozen BZ8.out 4
   have f5 := blk_frozen BZ8.out 5
   go_wp2_with fail
   refine bodyPost_ret (results_ct rfl _ _ w.heap.size 36 #[.int .u64 0, .int .u64 0, .int .u64 0, .int .i64 0, .slice none 0 0, .slice none 0 0] (0, 0) _ rfl (blk_set6 BZ8.out) Tryd.underlying36 rfl (by kernel_rfl)) rfl ?_
   exact DecAns.zero HZ.out HB.out
 have hnn : o4.isNone = false := by cases h : o4.isNone with | false => rfl | true => exact absurd (Or.inl h) hbad
 have h50 : ¬ (50 : Int) < v4 := fun h => hbad (Or.inr h)
 have c50 : decide ((50 : Int) < v4) = false := decide_eq_false h50
 rw [hnn] at hpn
 have HC1 := Aside0.mk (show cSt l = o4.bind (bindR (rdIds v4.toNat) (fun h => cutR 200 fun j => bindR (cNos j) fun q => pureR (e, g, n, h, q))) by
  rw [HC.out]
  congr 1
  funext l'
  rw [if_neg h50])
 have HV4 := Aside0.mk (show 0 ≤ v4 ∧ v4 ≤ 50 from ⟨HN4.out, by omega⟩)
 have hv4w : wrap64 v4 = v4 := by have := HV4.out; unfold wrap64; omega
 have BX0 := Aside0.mk bx
 rw [← ha4]
 rw [← ha4] at hpn
 clear hbad hnn h50 HC HN4 ha4 HA4 bx
 go_wp2_with fail
 clear hpn c50
 go_loopg [5, 13] (v4.toNat + 1) (fun kq v5 v13 w' => ∃ (i : Nat) (pre : List Int) (o : Option (List Int)) (B : Option Addr) (d : Nat), v5 = .int .i64 (plc l o) ∧ v13 = .int .i64 (i : Int) ∧ Aside0 (kq + i = v4.toNat + 1 ∧ i ≤ v4.toNat ∧ pre.length = i) ∧ Aside0 (OkP l o) ∧ Aside0 (cSt l = o.bind (bindR (rdIds (v4.toNat - i)) (fun y => (fun h => cutR 200 fun j => bindR (cNos j) fun q => pureR (e, g, n, h, q)) (pre ++ y)))) ∧ Aside0 (w'.heap[p]? = some (.cells #[.int .u64 e, .int .u64 g, .int .u64 n, .int .i64 0, .slice B pre.length d, .slice none 0 0] 36 (0, 0))) ∧ Aside0 (Kd.S aSe 70 w' w.heap.size (fun q => W1.heap.size ≤ q) (.slice B pre.length d) (pre.map seI)) ∧ Aside0 (Kept W1 w' (fun q => q = p)) ∧ Aside0 (Below w.heap.size w w'))
 case atStart => exact ⟨0, [], o4, none, 0, rfl, rfl, ⟨⟨by omega, by omega, rfl⟩⟩, HO4, HC1, BX0, ⟨Kd.S_nil _ _ _ _ _⟩, ⟨⟨Nat.le_refl _, fun _ _ _ => rfl⟩⟩, HB⟩
 case round =>
  clear HO4 HC1 BX0 HB
  obtain ⟨i, pre, o, B, d, rfl, rfl, HJ, HO, HC, BX, HR, HK, HB⟩ := hrel
  have hj0 := HJ.out
  have hv4 := HV4.out
  by_cases hj : i < v4.toNat
  ·
   have hcj : decide ((i : Int) < v4) = true := decide_eq_true (by omega)
   obtain ⟨k1, rfl⟩ : ∃ k1, gk = k1 + 1 := ⟨gk - 1, by omega⟩
   obtain ⟨yj, qj⟩ : ∃ y, lax 0 (rv 10 0 0) o = y := ⟨_, rfl⟩
   obtain ⟨x, oj⟩ := yj
   have Cj := Aside0.mk (fun (W : World) (hW : Below w.heap.size w W) => RV.out o HO.out W hW)
   have hoj := (lax_N HBR.out HLL.out o HO.out).2
   rw [qj] at Cj hoj
   simp only at Cj hoj
   have HC2 := Aside0.mk (show cSt l = oj.bind (bindR (rdIds (v4.toNat - (i + 1))) (fun y => (fun h => cutR 200 fun j => bindR (cNos j) fun q => pureR (e, g, n, h, q)) ((pre ++ [x]) ++ y))) by
    rw [HC.out, show v4.toNat - i = (v4.toNat - (i + 1)) + 1 by omega, ids_succ, lax_step 0, qj]
    simp only [List.append_assoc, List.singleton_append])
   have HOJ := Aside0.mk hoj
   have HQJ := Aside0.mk (show i + 1 ≤ v4.toNat by omega)
   clear qj hoj hj hj0 hv4
   go_wp2_with fail
   refine (Cj.out _ HB.out).mono ?_
   rintro r w5 ⟨rfl, hb⟩
   have BX5 := Aside0.mk (blk_below BX.out hb)
   have HR5 := Aside0.mk (Kd.S_below HR.out hb)
   have HB5 := Aside0.mk (below_step HB.out hb)
   have HK5 := Aside0.mk (kept_trans HK.out (kept_below (S := fun q => q = p) hb) (fun q h => h))
   clear hb Cj hcj
   obtain ⟨z0, z1, z2, z3, z4, z5⟩ := cells6 BX5.out
   have za4 : (w5.alloc (.cells #[.int .u64 x, .int .i64 0, .slice none 0 0] 70)).cell? ⟨p, 4, none⟩ = some (.slice B pre.length d) := (blk_cell (blk_alloc BX5.out _) 4).trans rfl
   go_wp2_with (first | ((with_reducible refine gate_builtin (b := .append) (xs := #[.tmp 81, .tmp 84]) rfl ?_); at_builtin; refine Kd.S_append aSe (w0 := w) w.heap.size rfl (.tmp 81) (.tmp 84) 33 70 (.agg #[(.int .u64 0), (.int .i64 0), (.slice none 0 0)]) 40 rfl Tryd.underlying33 info70 rfl (by decide) (by omega) (.slice B pre.length d) (pre.map seI) (⟨x, 0, []⟩ : Se) [.int .u64 x, .int .i64 0, .slice none 0 0] (fun q => W1.heap.size ≤ q) (fun _ => False) ?eS ?eX ?aP (fun _ hk => hk.elim) ?aF ?aO HB5.out HB5.out.size ?aL ?_; (case eS => first | rfl | simp [Act.eval, Act.put]); (case eX => first | rfl | simp [Act.eval, Act.put]); (case aP => exact aSe_mk _ _ _ (⟨x, 0, []⟩ : Se) (Kd.S_nil _ _ _ _ _)); (case aF => exact (fun q hq => Nat.le_trans HK5.out.1 hq)); (case aO => exact Kd.S_mono HR5.out (fun q hq => ⟨hq, fun h => h.elim⟩)); (case aL => have := HJ.out; have := HV4.out; rw [List.length_map]; omega); intro v1 w6 ho hb hg hat; obtain ⟨B1, d1, rfl⟩ := Kd.S_slice ho; have HO6 := Aside0.mk ho; have HB6 := Aside0.mk hb; have HG6 := Aside0.mk hg; have bx6 := blk_grown BX5.out hg (Kd.R_ne (Kd.S_R HR5.out) BX5.out (by decide)); have BX6 := Aside0.mk bx6; clear z0 z1 z2 z3 z4 z5 za4; have y4 := (cells6 bx6).2.2.2.2.1; have g4 := blk_frozen bx6 4; clear ho hb hg hat bx6))
   have hp5 := PP.out
   have hj2 := HJ.out
   have hq2 := HQJ.out
   have hv4 := HV4.out
   have eL : (pre ++ [x]).length = pre.length + 1 := by simp
   have eM : (pre.map seI ++ [(⟨x, 0, []⟩ : Se)]).length = pre.length + 1 := by simp
   have ho := HO6.out
   rw [eM] at ho
   go_roundg k1
   case measure => omega
   case rel =>
    refine ⟨i + 1, pre ++ [x], oj, B1, d1, rfl, (by have h9 : wrap64 ((i : Int) + 1) = ((i + 1 : Nat) : Int) := (by unfold wrap64; omega); first | rw [h9] | (simp only [h9]; done)), ⟨⟨by omega, hq2, by omega⟩⟩, HOJ, HC2, ⟨?_⟩, ⟨?_⟩, ⟨?_⟩, ⟨below_set HB6.out (show w.heap.size ≤ p by omega)⟩⟩
    ·
     rw [eL]; exact blk_put BX6.out 4 _ rfl
    ·
     rw [eL, List.map_append]; exact Kd.S_far ho (fun q hq => by have : W1.heap.size ≤ q := hq; show q ≠ p; omega) _
    ·
     exact kept_grown_set HK5.out HG6.out (fun k hk hlt => by have := (Kd.S_R HR5.out).1 k hk; omega) (fun _ => rfl)
  ·
   have hcj : decide ((i : Int) < v4) = false := decide_eq_false (by omega)
   have hi0 : v4.toNat - i = 0 := by omega
   have hpl : pre.length ≤ 50 := by omega
   have hcs := HC.out
   rw [hi0] at hcs
   have hcs2 : cSt l = o.bind (cutR 200 fun j => bindR (cNos j) fun q => pureR (e, g, n, pre, q)) := by
    rw [hcs]
    show o.bind (fun l => (some (([] : List Int), l)).bind fun y => (cutR 200 fun j => bindR (cNos j) fun q => pureR (e, g, n, pre ++ y.1, q)) y.2) = _
    simp only [Option.bind_some, List.append_nil]
   clear hcs hi0
   obtain ⟨y6, q6⟩ : ∃ y, lax 0 (rv 10 0 0) o = y := ⟨_, rfl⟩
   obtain ⟨v6, o6⟩ := y6
   have C6 := Aside0.mk (fun (W : World) (hW : Below w.heap.size w W) => RV.out o HO.out W hW)
   have ho6 := (lax_N HBR.out HLL.out o HO.out).2
   rw [q6] at C6 ho6
   simp only at C6 ho6
   have hc6 : cSt l = o6.bind (fun l' => if (200 : Int) < v6 then none else bindR (cNos v6.toNat) (fun q => pureR (e, g, n, pre, q)) l') := by rw [hcs2, lax_cut, q6]; rfl
   have HC6 := Aside0.mk hc6
   have HN6 := Aside0.mk (show 0 ≤ v6 by have := lax_nonneg o; rw [q6] at this; exact this)
   have HO6 := Aside0.mk ho6
   have hpn := plc_neg l o6
   have HPL := Aside0.mk hpl
   clear hcs2 q6 ho6 hc6 hj hj0 hv4 HC HO HJ hpl
   go_wp2_with fail
   refine (C6.out _ HB.out).mono ?_
   rintro r w7 ⟨rfl, hb⟩
   have HSB := Kd.S_mono (ok' := fun q => W1.heap.size ≤ q ∧ q < w7.heap.size) (Kd.S_bound (Kd.S_below HR.out hb)) (fun q hq => ⟨hq.1, hq.2.2.1⟩)
   replace HR := Aside0.mk HSB
   replace BX := Aside0.mk (blk_below BX.out hb)
   replace HB := Aside0.mk (below_step HB.out hb)
   replace HK := Aside0.mk (kept_trans HK.out (kept_below (S := fun q => q = p) hb) (fun q h => h))
   clear hb C6 hcj HSB hv4w
   go_upto_region 16 with (fail)
   obtain ⟨a6, ha6⟩ : ∃ a, plc l o6 = a := ⟨_, rfl⟩
   rw [ha6] at hpn ⊢
   by_cases hbad : o6.isNone = true ∨ 200 < v6
   case pos =>
    have HZ := Aside0.mk (show decA l = corA by
     refine cut_none ?_
     rw [HC6.out]
     rcases hbad with h | h
     ·
      rw [Option.isNone_iff_eq_none.1 h]; rfl
     ·
      cases o6 with
      | none => rfl
      | some r => rw [Option.bind_some, if_pos h])
    have BZ8 := Aside0.mk (blk_kept BZ.out HK.out (fun h => by have := PP.out; omega))
    clear ha6
    cases hn : o6.isNone with
    | true =>
     rw [hn] at hpn
     clear hbad hn
     obtain ⟨x0, x1, x2, x3, x4, x5⟩ := cells6 BZ8.out
     have f0 := blk_frozen BZ8.out 0
     have f1 := blk_frozen BZ8.out 1
     have f2 := blk_frozen BZ8.out 2
     have f3 := blk_frozen BZ8.out 3
     have f4 := blk_frozen BZ8.out 4
     have f5 := blk_frozen BZ8.out 5
     go_wp2_with fail
     refine bodyPost_ret (results_ct rfl _ _ w.heap.size 36 #[.int .u64 0, .int .u64 0, .int .u64 0, .int .i64 0, .slice none 0 0, .slice none 0 0] (0, 0) _ rfl (blk_set6 BZ8.out) Tryd.underlying36 rfl (by kernel_rfl)) rfl ?_
     exact DecAns.zero HZ.out HB.out
    | false =>
     have h50 : decide ((200 : Int) < v6) = true := decide_eq_true (by rcases hbad with h | h; (rw [hn] at h; cases h); exact h)
     rw [hn] at hpn
     clear hbad hn
     obtain ⟨x0, x1, x2, x3, x4, x5⟩ := cells6 BZ8.out
     have f0 := blk_frozen BZ8.out 0
     have f1 := blk_frozen BZ8.out 1
     have f2 := blk_frozen BZ8.out 2
     have f3 := blk_frozen BZ8.out 3
     have f4 := blk_frozen BZ8.out 4
     have f5 := blk_frozen BZ8.out 5
     go_wp2_with fail
     refine bodyPost_ret (results_ct rfl _ _ w.heap.size 36 #[.int .u64 0, .int .u64 0, .int .u64 0, .int .i64 0, .slice none 0 0, .slice none 0 0] (0, 0) _ rfl (blk_set6 BZ8.out) Tryd.underlying36 rfl (by kernel_rfl)) rfl ?_
     exact DecAns.zero HZ.out HB.out
   have hnn : o6.isNone = false := by cases h : o6.isNone with | false => rfl | true => exact absurd (Or.inl h) hbad
   have h200 : ¬ (200 : Int) < v6 := fun h => hbad (Or.inr h)
   have c200 : decide ((200 : Int) < v6) = false := decide_eq_false h200
   rw [hnn] at hpn
   have HC7 := Aside0.mk (show cSt l = o6.bind (bindR (cNos v6.toNat) (fun q => pureR (e, g, n, pre, q))) by
    rw [HC6.out]
    congr 1
    funext l'
    rw [if_neg h200])
   have HV6 := Aside0.mk (show 0 ≤ v6 ∧ v6 ≤ 200 from ⟨HN6.out, by omega⟩)
   have hv6w : wrap64 v6 = v6 := by have := HV6.out; unfold wrap64; omega
   rw [← ha6]
   rw [← ha6] at hpn
   clear hbad hnn h200 HC6 HN6 ha6
   go_wp2_with fail
   clear hpn c200
   have BZ7 := Aside0.mk (blk_kept BZ.out HK.out (fun h => by have := PP.out; omega))
   have HPW := Aside0.mk (And.intro (show p < w7.heap.size from blk_lt BX.out) HK.out.1)
   go_loopg [5, 15] (v6.toNat + 1) (fun kq v5 v15 w' => ∃ (i2 : Nat) (ys : List No) (o : Option (List Int)) (A2 : Option Addr) (c2 : Nat), v5 = .int .i64 (plc l o) ∧ v15 = .int .i64 (i2 : Int) ∧ Aside0 (kq + i2 = v6.toNat + 1 ∧ i2 ≤ v6.toNat ∧ ys.length = i2) ∧ Aside0 (OkP l o) ∧ Aside0 (cSt l = o.bind (bindR (cNos (v6.toNat - i2)) (fun y => (fun q => pureR (e, g, n, pre, q)) (ys ++ y)))) ∧ Aside0 (w'.heap[p]? = some (.cells #[.int .u64 e, .int .u64 g, .int .u64 n, .int .i64 0, .slice B pre.length d, .slice A2 ys.length c2] 36 (0, 0))) ∧ Aside0 (Kd.S aNo 76 w' w.heap.size (fun q => w7.heap.size ≤ q) (.slice A2 ys.length c2) ys) ∧ Aside0 (Kd.S aSe 70 w' w.heap.size (fun q => W1.heap.size ≤ q ∧ q < w7.heap.size) (.slice B pre.length d) (pre.map seI)) ∧ Aside0 (Kept w7 w' (fun q => q = p)) ∧ Aside0 (Below w.heap.size w w'))
   case atStart => exact ⟨0, [], o6, none, 0, rfl, rfl, ⟨⟨by omega, by omega, rfl⟩⟩, HO6, HC7, BX, ⟨Kd.S_nil _ _ _ _ _⟩, HR, ⟨⟨Nat.le_refl _, fun _ _ _ => rfl⟩⟩, HB⟩
   case round =>
    clear HO6 HC7 BX HR HK HB BZ
    obtain ⟨i2, ys, o, A2, c2, rfl, rfl, HJ, HO, HC, BX, HR, HS, HK, HB⟩ := hrel
    have hj0 := HJ.out
    have hv6 := HV6.out
    by_cases hj : i2 < v6.toNat
    ·
     have hcj : decide ((i2 : Int) < v6) = true := decide_eq_true (by omega)
     obtain ⟨k1, rfl⟩ : ∃ k1, gk = k1 + 1 := ⟨gk - 1, by omega⟩
     obtain ⟨yA, qA⟩ : ∃ y, lax [] rdT o = y := ⟨_, rfl⟩
     obtain ⟨t1, oA⟩ := yA
     have CA := Aside0.mk (fun (W : World) (hW : Below w.heap.size w W) => RT.out o HO.out W hW)
     have hoA := (lax_T HBR.out HLL.out o HO.out).2
     rw [qA] at CA hoA
     simp only at CA hoA
     obtain ⟨yB, qB⟩ : ∃ y, lax [] rdT oA = y := ⟨_, rfl⟩
     obtain ⟨t2, oB⟩ := yB
     have CB := Aside0.mk (fun (W : World) (hW : Below w.heap.size w W) => RT.out oA hoA W hW)
     have hoB := (lax_T HBR.out HLL.out oA hoA).2
     rw [qB] at CB hoB
     simp only at CB hoB
     obtain ⟨yC, qC⟩ : ∃ y, lax 0 (rv 10 0 0) oB = y := ⟨_, rfl⟩
     obtain ⟨n3, oC⟩ := yC
     have CC := Aside0.mk (fun (W : World) (hW : Below w.heap.size w W) => RV.out oB hoB W hW)
     have hoC := (lax_N HBR.out HLL.out oB hoB).2
     rw [qC] at CC hoC
     simp only at CC hoC
     obtain ⟨yD, qD⟩ : ∃ y, lax 0 rdB oC = y := ⟨_, rfl⟩
     obtain ⟨n4, oD⟩ := yD
     have CD := Aside0.mk (fun (W : World) (hW : Below w.heap.size w W) => RB.out oC hoC W hW)
     have hoD := (lax_B HBR.out HLL.out oC hoC).2
     rw [qD] at CD hoD
     simp only at CD hoD
     obtain ⟨yE, qE⟩ : ∃ y, lax 0 (rv 10 0 0) oD = y := ⟨_, rfl⟩
     obtain ⟨v8, o8⟩ := yE
     have CE := Aside0.mk (fun (W : World) (hW : Below w.heap.size w W) => RV.out oD hoD W hW)
     have hoE := (lax_N HBR.out HLL.out oD hoD).2
     rw [qE] at CE hoE
     simp only at CE hoE
     have hc8 : cSt l = o8.bind (fun l' => if (50 : Int) < v8 then none else bindR (rdIds v8.toNat) (fun h => bindR (rv 10 0 0) fun e1 => bindR (rv 10 0 0) fun g1 => bindR (cNos (v6.toNat - (i2 + 1))) fun y => pureR (e, g, n, pre, ys ++ (⟨t1, t2, n3, n4, h, e1, g1, []⟩ :: y))) l') := by
      rw [HC.out, show v6.toNat - i2 = (v6.toNat - (i2 + 1)) + 1 by omega, nods_succ]
      rw [lax_step [] rdT, qA]
      simp only
      rw [lax_step [] rdT, qB]
      simp only
      rw [lax_step 0 (rv 10 0 0), qC]
      simp only
      rw [lax_step 0 rdB, qD]
      simp only
      rw [lax_cut, qE]
      rfl
     have HC8 := Aside0.mk hc8
     have HN8 := Aside0.mk (show 0 ≤ v8 by have := lax_nonneg oD; rw [qE] at this; exact this)
     have HO8 := Aside0.mk hoE
     have hpn := plc_neg l o8
     have HQJ := Aside0.mk (show i2 + 1 ≤ v6.toNat by omega)
     clear hc8 qA qB qC qD qE hoA hoB hoC hoD hoE hj hj0 hv6 HC HO
     go_wp2_with fail
     refine (CA.out _ HB.out).mono ?_
     rintro r w8 ⟨C0, k0, rfl, hr, hb⟩
     have hm0 := hb.size
     have hr0 := Kd.R_mono (ok' := fun q => wr.heap.size ≤ q ∧ q < w8.heap.size) (Kd.R_bound hr) (fun q hq => ⟨hq.2.1, hq.2.2.1⟩)
     have hbb := hb
     have HB8 := Aside0.mk (below_step HB.out hb)
     clear hr hb CA
     go_wp2_with fail
     refine (CB.out _ HB8.out).mono ?_
     rintro r w9 ⟨C1, k1_, rfl, hr, hb⟩
     have hm1 := hb.size
     have hr1 := Kd.R_mono (ok' := fun q => w8.heap.size ≤ q ∧ q < w9.heap.size) (Kd.R_bound hr) (fun q hq => ⟨hq.2.1, hq.2.2.1⟩)
     replace hr0 := Kd.R_below hr0 hb
     replace hbb := below_step hbb hb
     replace HB8 := Aside0.mk (below_step HB8.out hb)
     clear hr hb CB
     go_wp2_with fail
     refine (CC.out _ HB8.out).mono ?_
     rintro r w10 ⟨rfl, hb⟩
     replace hr0 := Kd.R_below hr0 hb
     replace hr1 := Kd.R_below hr1 hb
     replace hbb := below_step hbb hb
     replace HB8 := Aside0.mk (below_step HB8.out hb)
     have hmC := hb.size
     clear hb CC
     go_wp2_with fail
     refine (CD.out _ HB8.out).mono ?_
     rintro r w11 ⟨rfl, hb⟩
     replace hr0 := Kd.R_below hr0 hb
     replace hr1 := Kd.R_below hr1 hb
     replace hbb := below_step hbb hb
     replace HB8 := Aside0.mk (below_step HB8.out hb)
     have hmD := hb.size
     clear hb CD
     go_wp2_with fail
     refine (CE.out _ HB8.out).mono ?_
     rintro r w12 ⟨rfl, hb⟩
     replace hr0 := Kd.R_below hr0 hb
     replace hr1 := Kd.R_below hr1 hb
     replace hbb := below_step hbb hb
     replace HB8 := Aside0.mk (below_step HB8.out hb)
     have hmE := hb.size
     clear hb CE
     go_upto_region 28 with (fail)
     have bn := blk_new w12 (.cells #[.slice C0 t1.length k0, .slice C1 t2.length k1_, .int .u64 n3, .int .i64 n4, .slice none 0 0, .int .u64 0, .int .u64 0, .slice none 0 0] 76)
     have hb := below_alloc (Below.refl w12.heap.size w12) (.cells #[.slice C0 t1.length k0, .slice C1 t2.length k1_, .int .u64 n3, .int .i64 n4, .slice none 0 0, .int .u64 0, .int .u64 0, .slice none 0 0] 76)
     have hwn : (w12.alloc (.cells #[.slice C0 t1.length k0, .slice C1 t2.length k1_, .int .u64 n3, .int .i64 n4, .slice none 0 0, .int .u64 0, .int .u64 0, .slice none 0 0] 76)).heap.size = w12.heap.size + 1 := World.size_alloc ..
     replace hr0 := Kd.R_below hr0 hb
     replace hr1 := Kd.R_below hr1 hb
     replace hbb := below_step hbb hb
     replace HB8 := Aside0.mk (below_step HB8.out hb)
     obtain ⟨b, hbn⟩ : ∃ b, w12.heap.size = b := ⟨_, rfl⟩
     have hm2 : w7.heap.size ≤ wr.heap.size ∧ wr.heap.size ≤ w8.heap.size ∧ w8.heap.size ≤ w9.heap.size ∧ w9.heap.size ≤ b := ⟨HK.out.1, hm0, hm1, by omega⟩
     generalize w12.alloc (.cells #[.slice C0 t1.length k0, .slice C1 t2.length k1_, .int .u64 n3, .int .i64 n4, .slice none 0 0, .int .u64 0, .int .u64 0, .slice none 0 0] 76) = Wn at *
     rw [hbn] at bn hwn ⊢
     have MM := Aside0.mk (And.intro hm2 hwn)
     have HR0 := Aside0.mk hr0
     have HR1 := Aside0.mk hr1
     have BXN := Aside0.mk (blk_below BX.out hbb)
     have HRN := Aside0.mk (Kd.S_below (Kd.S_mono (ok' := fun q => w7.heap.size ≤ q ∧ q < wr.heap.size) (Kd.S_bound HR.out) (fun q hq => ⟨hq.1, hq.2.2.1⟩)) hbb)
     have HSN := Aside0.mk (Kd.S_below HS.out hbb)
     have HKN := Aside0.mk (kept_trans HK.out (kept_below (S := fun q => q = p) hbb) (fun q h => h))
     replace HB := HB8
     have BN := Aside0.mk bn
     clear hm0 hm1 hmC hmD hmE hm2 hwn hr0 hr1 hb hbb hbn bn HB8 BX HR HS HK
     obtain ⟨sr, hsr⟩ : ∃ s, wr.heap.size = s := ⟨_, rfl⟩
     rw [hsr] at MM HR0 HRN
     clear hsr
     obtain ⟨a8, ha8⟩ : ∃ a, plc l o8 = a := ⟨_, rfl⟩
     rw [ha8] at hpn ⊢
     by_cases hbad : o8.isNone = true ∨ 50 < v8
     case pos =>
      have HZ := Aside0.mk (show decA l = corA by
       refine cut_none ?_
       rw [HC8.out]
       rcases hbad with h | h
       ·
        rw [Option.isNone_iff_eq_none.1 h]; rfl
       ·
        cases o8 with
        | none => rfl
        | some r => rw [Option.bind_some, if_pos h])
      have BZ8 := Aside0.mk (blk_kept BZ7.out HKN.out (fun h => by have := PP.out; omega))
      clear ha8
      cases hn : o8.isNone with
      | true =>
       rw [hn] at hpn
       clear hbad hn
       obtain ⟨x0, x1, x2, x3, x4, x5⟩ := cells6 BZ8.out
       have f0 := blk_frozen BZ8.out 0
       have f1 := blk_frozen BZ8.out 1
       have f2 := blk_frozen BZ8.out 2
       have f3 := blk_frozen BZ8.out 3
       have f4 := blk_frozen BZ8.out 4
       have f5 := blk_frozen BZ8.out 5
       go_wp2_with fail
       refine bodyPost_ret (results_ct rfl _ _ w.heap.size 36 #[.int .u64 0, .int .u64 0, .int .u64 0, .int .i64 0, .slice none 0 0, .slice none 0 0] (0, 0) _ rfl (blk_set6 BZ8.out) Tryd.underlying36 rfl (by kernel_rfl)) rfl ?_
       exact DecAns.zero HZ.out HB.out
      | false =>
       have h50 : decide ((50 : Int) < v8) = true := decide_eq_true (by rcases hbad with h | h; (rw [hn] at h; cases h); exact h)
       rw [hn] at hpn
       clear hbad hn
       obtain ⟨x0, x1, x2, x3, x4, x5⟩ := cells6 BZ8.out
       have f0 := blk_frozen BZ8.out 0
       have f1 := blk_frozen BZ8.out 1
       have f2 := blk_frozen BZ8.out 2
       have f3 := blk_frozen BZ8.out 3
       have f4 := blk_frozen BZ8.out 4
       have f5 := blk_frozen BZ8.out 5
       go_wp2_with fail
       refine bodyPost_ret (results_ct rfl _ _ w.heap.size 36 #[.int .u64 0, .int .u64 0, .int .u64 0, .int .i64 0, .slice none 0 0, .slice none 0 0] (0, 0) _ rfl (blk_set6 BZ8.out) Tryd.underlying36 rfl (by kernel_rfl)) rfl ?_
       exact DecAns.zero HZ.out HB.out
     have hnn : o8.isNone = false := by cases h : o8.isNone with | false => rfl | true => exact absurd (Or.inl h) hbad
     have h50 : ¬ (50 : Int) < v8 := fun h => hbad (Or.inr h)
     have c50 : decide ((50 : Int) < v8) = false := decide_eq_false h50
     rw [hnn] at hpn
     have HC9 := Aside0.mk (show cSt l = o8.bind (bindR (rdIds v8.toNat) (fun h => bindR (rv 10 0 0) fun e1 => bindR (rv 10 0 0) fun g1 => bindR (cNos (v6.toNat - (i2 + 1))) fun y => pureR (e, g, n, pre, ys ++ (⟨t1, t2, n3, n4, h, e1, g1, []⟩ :: y)))) by
      rw [HC8.out]
      congr 1
      funext l'
      rw [if_neg h50])
     have HV8 := Aside0.mk (show 0 ≤ v8 ∧ v8 ≤ 50 from ⟨HN8.out, by omega⟩)
     have hv8w : wrap64 v8 = v8 := by have := HV8.out; unfold wrap64; omega
     rw [← ha8]
     rw [← ha8] at hpn
     clear hbad hnn h50 HC8 HN8 ha8
     go_wp2_with fail
     clear hpn c50
     go_loopg [5, 27] (v8.toNat + 1) (fun kq v5 v27 w' => ∃ (i3 : Nat) (hs : List Int) (o : Option (List Int)) (B4 : Option Addr) (d4 : Nat), v5 = .int .i64 (plc l o) ∧ v27 = .int .i64 (i3 : Int) ∧ Aside0 (kq + i3 = v8.toNat + 1 ∧ i3 ≤ v8.toNat ∧ hs.length = i3) ∧ Aside0 (OkP l o) ∧ Aside0 (cSt l = o.bind (bindR (rdIds (v8.toNat - i3)) (fun y => (fun h => bindR (rv 10 0 0) fun e1 => bindR (rv 10 0 0) fun g1 => bindR (cNos (v6.toNat - (i2 + 1))) fun y => pureR (e, g, n, pre, ys ++ (⟨t1, t2, n3, n4, h, e1, g1, []⟩ :: y))) (hs ++ y)))) ∧ Aside0 (w'.heap[b]? = some (.cells #[.slice C0 t1.length k0, .slice C1 t2.length k1_, .int .u64 n3, .int .i64 n4, .slice B4 hs.length d4, .int .u64 0, .int .u64 0, .slice none 0 0] 76 (0, 0))) ∧ Aside0 (Kd.R (Kd.int .u64) 26 w' w.heap.size (fun q => b < q) (.slice B4 hs.length d4) hs) ∧ Aside0 (Kept Wn w' (fun q => q = b)) ∧ Aside0 (Below w.heap.size w w'))
     case atStart => exact ⟨0, [], o8, none, 0, rfl, rfl, ⟨⟨by omega, by omega, rfl⟩⟩, HO8, HC9, BN, ⟨Kd.R_nil _ _ _ _ _⟩, ⟨⟨Nat.le_refl _, fun _ _ _ => rfl⟩⟩, HB⟩
     case round =>
      clear HO8 HC9 BN HB
      obtain ⟨i3, hs, o, B4, d4, rfl, rfl, HJ3, HO, HC, BN, HR4, HK3, HB⟩ := hrel
      have hj0 := HJ3.out
      have hv8 := HV8.out
      by_cases hj : i3 < v8.toNat
      ·
       have hcj3 : decide ((i3 : Int) < v8) = true := decide_eq_true (by omega)
       obtain ⟨k3, rfl⟩ : ∃ k3, gk = k3 + 1 := ⟨gk - 1, by omega⟩
       obtain ⟨yj, qj⟩ : ∃ y, lax 0 (rv 10 0 0) o = y := ⟨_, rfl⟩
       obtain ⟨x, oj⟩ := yj
       have Cj := Aside0.mk (fun (W : World) (hW : Below w.heap.size w W) => RV.out o HO.out W hW)
       have hoj := (lax_N HBR.out HLL.out o HO.out).2
       rw [qj] at Cj hoj
       simp only at Cj hoj
       have HC2 := Aside0.mk (show cSt l = oj.bind (bindR (rdIds (v8.toNat - (i3 + 1))) (fun y => (fun h => bindR (rv 10 0 0) fun e1 => bindR (rv 10 0 0) fun g1 => bindR (cNos (v6.toNat - (i2 + 1))) fun y => pureR (e, g, n, pre, ys ++ (⟨t1, t2, n3, n4, h, e1, g1, []⟩ :: y))) ((hs ++ [x]) ++ y))) by
        rw [HC.out, show v8.toNat - i3 = (v8.toNat - (i3 + 1)) + 1 by omega, ids_succ, lax_step 0, qj]
        simp only [List.append_assoc, List.singleton_append])
       have HOJ := Aside0.mk hoj
       have HQ3 := Aside0.mk (show i3 + 1 ≤ v8.toNat by omega)
       clear qj hoj hj hj0 hv8
       go_wp2_with fail
       refine (Cj.out _ HB.out).mono ?_
       rintro r w5 ⟨rfl, hb⟩
       have BN5 := Aside0.mk (blk_below BN.out hb)
       have HR5 := Aside0.mk (Kd.R_below HR4.out hb)
       have HB5 := Aside0.mk (below_step HB.out hb)
       have HK5 := Aside0.mk (kept_trans HK3.out (kept_below (S := fun q => q = b) hb) (fun q h => h))
       clear hb Cj hcj3
       obtain ⟨z0, z1, z2, z3, z4, z5, z6, z7⟩ := cells8 BN5.out
       have za4 : (w5.alloc (.cells #[.int .u64 x] 26)).cell? ⟨b, 4, none⟩ = some (.slice B4 hs.length d4) := (blk_cell (blk_alloc BN5.out _) 4).trans rfl
       go_wp2_with (first | ((with_reducible refine gate_builtin (b := .append) (xs := #[.tmp 162, .tmp 164]) rfl ?_); at_builtin; refine Kd.R_append (Kd.int .u64) (w0 := w) w.heap.size rfl (.tmp 162) (.tmp 164) 40 26 (.int .u64 0) 8 rfl Tryd.underlying40 info26 rfl (by decide) (by omega) (.slice B4 hs.length d4) hs x [.int .u64 x] (fun q => b < q) (fun _ => False) ?eS ?eX rfl (fun _ hk => hk.elim) ?aF ?aO HB5.out HB5.out.size ?aL ?_; (case eS => first | rfl | simp [Act.eval, Act.put]); (case eX => first | rfl | simp [Act.eval, Act.put]); (case aF => exact (fun q hq => by have h1 := HK5.out.1; have h2 := MM.out.2; show b < q; omega)); (case aO => exact HR5.out); (case aL => have := HJ3.out; have := HV8.out; omega); intro v1 w6 ho hb hg hat; obtain ⟨B1, d1, rfl⟩ := Kd.R_slice ho; have HO6 := Aside0.mk ho; have HB6 := Aside0.mk hb; have HG6 := Aside0.mk hg; have bx6 := blk_grown BN5.out hg (Kd.R_ne HR5.out BN5.out (by decide)); have BN6 := Aside0.mk bx6; clear z0 z1 z2 z3 z4 z5 z6 z7 za4; have y4 := (cells8 bx6).2.2.2.2.1; have g4 := blk_frozen bx6 4; clear ho hb hg hat bx6))
       have hp5 := PP.out
       have hmm := MM.out
       have hpw := HPW.out
       have hj2 := HJ3.out
       have hq2 := HQ3.out
       have hv8 := HV8.out
       have eL : (hs ++ [x]).length = hs.length + 1 := by simp
       go_roundg k3
       case measure => omega
       case rel =>
        refine ⟨i3 + 1, hs ++ [x], oj, B1, d1, rfl, (by have h9 : wrap64 ((i3 : Int) + 1) = ((i3 + 1 : Nat) : Int) := (by unfold wrap64; omega); first | rw [h9] | (simp only [h9]; done)), ⟨⟨by omega, hq2, by omega⟩⟩, HOJ, HC2, ⟨?_⟩, ⟨?_⟩, ⟨?_⟩, ⟨below_set HB6.out (show w.heap.size ≤ b by omega)⟩⟩
        ·
         rw [eL]; exact blk_put BN6.out 4 _ rfl
        ·
         exact Kd.R_far HO6.out (fun q hq => by have : b < q := hq; show q ≠ b; omega) _
        ·
         exact kept_grown_set HK5.out HG6.out (fun k hk hlt => by have : b < k := HR5.out.1 k hk; omega) (fun _ => rfl)
      ·
       have hcj3 : decide ((i3 : Int) < v8) = false := decide_eq_false (by omega)
       have hi0 : v8.toNat - i3 = 0 := by omega
       have hcs := HC.out
       rw [hi0] at hcs
       have hcs2 : cSt l = o.bind (bindR (rv 10 0 0) fun e1 => bindR (rv 10 0 0) fun g1 => bindR (cNos (v6.toNat - (i2 + 1))) fun y => pureR (e, g, n, pre, ys ++ (⟨t1, t2, n3, n4, hs, e1, g1, []⟩ :: y))) := by
        rw [hcs]
        show o.bind (fun l => (some (([] : List Int), l)).bind fun y => (fun h => bindR (rv 10 0 0) fun e1 => bindR (rv 10 0 0) fun g1 => bindR (cNos (v6.toNat - (i2 + 1))) fun y => pureR (e, g, n, pre, ys ++ (⟨t1, t2, n3, n4, h, e1, g1, []⟩ :: y))) (hs ++ y.1) y.2) = _
        simp only [Option.bind_some, List.append_nil]
       clear hcs hi0
       obtain ⟨yF, qF⟩ : ∃ y, lax 0 (rv 10 0 0) o = y := ⟨_, rfl⟩
       obtain ⟨e1, oF⟩ := yF
       have CF := Aside0.mk (fun (W : World) (hW : Below w.heap.size w W) => RV.out o HO.out W hW)
       have hoF := (lax_N HBR.out HLL.out o HO.out).2
       rw [qF] at CF hoF
       simp only at CF hoF
       obtain ⟨yG, qG⟩ : ∃ y, lax 0 (rv 10 0 0) oF = y := ⟨_, rfl⟩
       obtain ⟨g1, oG⟩ := yG
       have CG := Aside0.mk (fun (W : World) (hW : Below w.heap.size w W) => RV.out oF hoF W hW)
       have hoG := (lax_N HBR.out HLL.out oF hoF).2
       rw [qG] at CG hoG
       simp only at CG hoG
       have HC2 := Aside0.mk (show cSt l = oG.bind (bindR (cNos (v6.toNat - (i2 + 1))) (fun y => (fun q => pureR (e, g, n, pre, q)) ((ys ++ [(⟨t1, t2, n3, n4, hs, e1, g1, []⟩ : No)]) ++ y))) by
        rw [hcs2, lax_step 0, qF]
        simp only
        rw [lax_step 0, qG]
        simp only [List.append_assoc, List.singleton_append])
       have HOG := Aside0.mk hoG
       clear hcs2 qF qG hoF hoG hj hj0 hv8 HC HO HJ3
       go_wp2_with fail
       refine (CF.out _ HB.out).mono ?_
       rintro r w13 ⟨rfl, hb⟩
       replace BN := Aside0.mk (blk_below BN.out hb)
       replace HR4 := Aside0.mk (Kd.R_below HR4.out hb)
       replace HB := Aside0.mk (below_step HB.out hb)
       replace HK3 := Aside0.mk (kept_trans HK3.out (kept_below (S := fun q => q = b) hb) (fun q h => h))
       clear hb CF hcj3 hv8w
       go_wp2_with fail
       refine (CG.out _ HB.out).mono ?_
       rintro r w14 ⟨rfl, hb⟩
       replace BN := Aside0.mk (blk_below BN.out hb)
       replace HR4 := Aside0.mk (Kd.R_below HR4.out hb)
       replace HB := Aside0.mk (below_step HB.out hb)
       replace HK3 := Aside0.mk (kept_trans HK3.out (kept_below (S := fun q => q = b) hb) (fun q h => h))
       clear hb CG
       have hmm := MM.out
       have hpw := HPW.out
       have hpp := PP.out
       have HG1 := Aside0.mk (Kd.R_kept HR0.out HK3.out (fun q hq he => by have := hq.2; omega))
       have HG2 := Aside0.mk (Kd.R_kept HR1.out HK3.out (fun q hq he => by have := hq.2; omega))
       have BX4 := Aside0.mk (blk_kept BXN.out HK3.out (fun h => by omega))
       have HRM := Aside0.mk (Kd.S_kept HRN.out HK3.out (fun q hq he => by have := hq.2; omega))
       have HSM := Aside0.mk (Kd.S_kept HSN.out HK3.out (fun q hq he => by have := hq.2; omega))
       have hk7 : Kept w7 w14 (fun q => q = p) := ⟨Nat.le_trans HKN.out.1 HK3.out.1, fun i hi hn => (HK3.out.2 i (Nat.lt_of_lt_of_le hi HKN.out.1) (fun e => by omega)).trans (HKN.out.2 i hi hn)⟩
       have BN4 := Aside0.mk (blk_put (cs' := #[.slice C0 t1.length k0, .slice C1 t2.length k1_, .int .u64 n3, .int .i64 n4, .slice B4 hs.length d4, .int .u64 e1, .int .u64 g1, .slice none 0 0]) (blk_put (cs' := #[.slice C0 t1.length k0, .slice C1 t2.length k1_, .int .u64 n3, .int .i64 n4, .slice B4 hs.length d4, .int .u64 e1, .int .u64 0, .slice none 0 0]) BN.out 5 (.int .u64 e1) rfl) 6 (.int .u64 g1) rfl)
       have BX5 := Aside0.mk (blk_far (p := ⟨b, 6, none⟩) (blk_far (p := ⟨b, 5, none⟩) BX4.out (show p ≠ b by omega) (.int .u64 e1)) (show p ≠ b by omega) (.int .u64 g1))
       have RG1 := Aside0.mk (Kd.R_far (p := ⟨b, 6, none⟩) (Kd.R_far (p := ⟨b, 5, none⟩) HG1.out (fun q hq => by have := hq.2; show q ≠ b; omega) (.int .u64 e1)) (fun q hq => by have := hq.2; show q ≠ b; omega) (.int .u64 g1))
       have RG2 := Aside0.mk (Kd.R_far (p := ⟨b, 6, none⟩) (Kd.R_far (p := ⟨b, 5, none⟩) HG2.out (fun q hq => by have := hq.2; show q ≠ b; omega) (.int .u64 e1)) (fun q hq => by have := hq.2; show q ≠ b; omega) (.int .u64 g1))
       have RG4 := Aside0.mk (Kd.R_far (p := ⟨b, 6, none⟩) (Kd.R_far (p := ⟨b, 5, none⟩) HR4.out (fun q hq => by have : b < q := hq; show q ≠ b; omega) (.int .u64 e1)) (fun q hq => by have : b < q := hq; show q ≠ b; omega) (.int .u64 g1))
       have HRO := Aside0.mk (Kd.S_far (p := ⟨b, 6, none⟩) (Kd.S_far (p := ⟨b, 5, none⟩) HRM.out (fun q hq => by have := hq.2; show q ≠ b; omega) (.int .u64 e1)) (fun q hq => by have := hq.2; show q ≠ b; omega) (.int .u64 g1))
       have HSO := Aside0.mk (Kd.S_far (p := ⟨b, 6, none⟩) (Kd.S_far (p := ⟨b, 5, none⟩) HSM.out (fun q hq => by have := hq.2; show q ≠ b; omega) (.int .u64 e1)) (fun q hq => by have := hq.2; show q ≠ b; omega) (.int .u64 g1))
       have HBO := Aside0.mk (show Below w.heap.size w ((w14.setCell ⟨b, 5, none⟩ (.int .u64 e1)).setCell ⟨b, 6, none⟩ (.int .u64 g1)) from below_set (below_set HB.out (show w.heap.size ≤ b by omega)) (show w.heap.size ≤ b by omega))
       have HKO := Aside0.mk (show Kept w7 ((w14.setCell ⟨b, 5, none⟩ (.int .u64 e1)).setCell ⟨b, 6, none⟩ (.int .u64 g1)) (fun q => q = p) from Kept.setNew (Kept.setNew hk7 _ (show w7.heap.size ≤ b by omega)) _ (show w7.heap.size ≤ b by omega))
       have z5 := (cells8 BN.out).2.2.2.2.2.1
       have z6 := (cells8 BN.out).2.2.2.2.2.2.1
       have f5 := blk_frozen BN.out 5
       have f6 := blk_frozen BN.out 6
       clear hmm hpw hpp hk7
       go_upto_region 41 with (fail)
       clear z5 z6 f5 f6
       generalize (w14.setCell ⟨b, 5, none⟩ (.int .u64 e1)).setCell ⟨b, 6, none⟩ (.int .u64 g1) = W15 at *
       have hmm := MM.out
       have hpw := HPW.out
       have HM := Aside0.mk (show aNo.M W15 w.heap.size (fun q => sr ≤ q) (⟨t1, t2, n3, n4, hs, e1, g1, []⟩ : No) [.slice C0 t1.length k0, .slice C1 t2.length k1_, .int .u64 n3, .int .i64 n4, .slice B4 hs.length d4, .int .u64 e1, .int .u64 g1, .slice none 0 0] from aNo_mkp _ _ _ (⟨t1, t2, n3, n4, hs, e1, g1, []⟩ : No) (fun q => q < w8.heap.size) (fun q => q < w9.heap.size) (fun _ => True) (Kd.R_mono (Kd.R_lower RG1.out (by have := PP.out; omega)) (fun q hq => by have := hq.1; have := hq.2; omega)) (Kd.R_mono (Kd.R_lower RG2.out (by have := PP.out; omega)) (fun q hq => by have := hq.1; have := hq.2; omega)) (Kd.R_mono RG4.out (fun q hq => by have : b < q := hq; exact ⟨by omega, trivial⟩)) (Kd.R_nil _ _ _ _ _))
       have HWS := Aside0.mk (show w7.heap.size ≤ W15.heap.size from HKO.out.1)
       clear hmm hpw HG1 HG2 BX4 HRM HSM BN HR4 HK3 RG1 RG2 RG4 HR0 HR1 BXN HRN HSN HKN
       obtain ⟨z0, z1, z2, z3, z4, z5, z6, z7⟩ := cells8 BN4.out
       have y5 := (cells6 BX5.out).2.2.2.2.2
       have za5 : (W15.alloc (.cells #[.slice C0 t1.length k0, .slice C1 t2.length k1_, .int .u64 n3, .int .i64 n4, .slice B4 hs.length d4, .int .u64 e1, .int .u64 g1, .slice none 0 0] 76)).cell? ⟨p, 5, none⟩ = some (.slice A2 ys.length c2) := (blk_cell (blk_alloc BX5.out _) 5).trans rfl
       go_wp2_with (first | ((with_reducible refine gate_builtin (b := .append) (xs := #[.tmp 185, .tmp 187]) rfl ?_); at_builtin; refine Kd.S_append aNo (w0 := w) w.heap.size rfl (.tmp 185) (.tmp 187) 34 76 (.agg #[(.slice none 0 0), (.slice none 0 0), (.int .u64 0), (.int .i64 0), (.slice none 0 0), (.int .u64 0), (.int .u64 0), (.slice none 0 0)]) 128 rfl Tryd.underlying34 info76 rfl (by decide) (by omega) (.slice A2 ys.length c2) ys (⟨t1, t2, n3, n4, hs, e1, g1, []⟩ : No) [.slice C0 t1.length k0, .slice C1 t2.length k1_, .int .u64 n3, .int .i64 n4, .slice B4 hs.length d4, .int .u64 e1, .int .u64 g1, .slice none 0 0] (fun q => w7.heap.size ≤ q) (fun q => sr ≤ q) ?eS ?eX ?aP ?aK ?aF ?aO HBO.out HBO.out.size ?aL ?_; (case eS => first | rfl | simp [Act.eval, Act.put]); (case eX => first | rfl | simp [Act.eval, Act.put]); (case aP => exact HM.out); (case aK => exact (fun q hq => ⟨by have := MM.out; have h3 : sr ≤ q := hq; show w7.heap.size ≤ q; omega, fun e => by have h := ((Kd.S_R HRO.out).1 q e.symm).2; have h3 : sr ≤ q := hq; omega⟩)); (case aF => exact (fun q hq => Nat.le_trans HWS.out hq)); (case aO => exact Kd.S_mono HRO.out (fun q hq => ⟨hq.1, fun h => by have : sr ≤ q := h; have := hq.2; omega⟩)); (case aL => have := HJ.out; have := HV6.out; omega); intro v1 w16 ho hb hg hat; obtain ⟨A3, c3, rfl⟩ := Kd.S_slice ho; have HO6 := Aside0.mk ho; have HB6 := Aside0.mk hb; have HG6 := Aside0.mk hg; have bx6 := blk_grown BX5.out hg (Kd.R_ne (Kd.S_R HRO.out) BX5.out (by decide)); have BX6 := Aside0.mk bx6; clear z0 z1 z2 z3 z4 z5 z6 z7 y5 za5; have y4 := (cells6 bx6).2.2.2.2.2; have g4 := blk_frozen bx6 5; clear ho hb hg hat bx6))
       have hp5 := PP.out
       have hpw := HPW.out
       have hj2 := HJ.out
       have hq2 := HQJ.out
       have hv6 := HV6.out
       have eL : (ys ++ [(⟨t1, t2, n3, n4, hs, e1, g1, []⟩ : No)]).length = ys.length + 1 := by simp
       go_roundg k1
       case measure => omega
       case rel =>
        refine ⟨i2 + 1, ys ++ [(⟨t1, t2, n3, n4, hs, e1, g1, []⟩ : No)], oG, A3, c3, rfl, (by have h9 : wrap64 ((i2 : Int) + 1) = ((i2 + 1 : Nat) : Int) := (by unfold wrap64; omega); first | rw [h9] | (simp only [h9]; done)), ⟨⟨by omega, hq2, by omega⟩⟩, HOG, HC2, ⟨?_⟩, ⟨?_⟩, ⟨?_⟩, ⟨?_⟩, ⟨below_set HB6.out (show w.heap.size ≤ p by omega)⟩⟩
        ·
         rw [eL]; exact blk_put BX6.out 5 _ rfl
        ·
         exact Kd.S_far HO6.out (fun q hq => by have : w7.heap.size ≤ q := hq; show q ≠ p; omega) _
        ·
         exact Kd.S_far (Kd.S_step HSO.out (fun q ho hlt => HG6.out.block q hlt (fun e => by have := ((Kd.S_R HRO.out).1 q e.symm).1; have := ho.2; omega))) (fun q hq => by have := hq.1; show q ≠ p; omega) _
        ·
         exact kept_grown_set HKO.out HG6.out (fun k hk hlt => by have := ((Kd.S_R HRO.out).1 k hk).1; omega) (fun _ => rfl)
    ·
     have hcj : decide ((i2 : Int) < v6) = false := decide_eq_false (by omega)
     have hi0 : v6.toNat - i2 = 0 := by omega
     have hcs := HC.out
     rw [hi0] at hcs
     have HCE := Aside0.mk (show cSt l = o.bind (fun l' => some ((e, g, n, pre, ys), l')) by
      rw [hcs]
      show o.bind (fun l => (some (([] : List No), l)).bind fun y => pureR (e, g, n, pre, ys ++ y.1) y.2) = _
      simp only [Option.bind_some, List.append_nil]
      rfl)
     have hpn := plc_neg l o
     clear hcs hi0 hj hj0 hv6 HC HO HJ
     go_upto_region 42 with (fail)
     have BZ8 := Aside0.mk (blk_kept BZ7.out HK.out (fun h => by have := PP.out; omega))
     obtain ⟨a9, ha9⟩ : ∃ a, plc l o = a := ⟨_, rfl⟩
     rw [ha9] at hpn ⊢
     clear ha9 hcj hv6w
     cases o with
     | none =>
      have HZ := Aside0.mk (show decA l = corA from cut_none HCE.out)
      have hpn : decide (a9 < 0) = true := hpn
      obtain ⟨x0, x1, x2, x3, x4, x5⟩ := cells6 BZ8.out
      have f0 := blk_frozen BZ8.out 0
      have f1 := blk_frozen BZ8.out 1
      have f2 := blk_frozen BZ8.out 2
      have f3 := blk_frozen BZ8.out 3
      have f4 := blk_frozen BZ8.out 4
      have f5 := blk_frozen BZ8.out 5
      go_wp2_with fail
      refine bodyPost_ret (results_ct rfl _ _ w.heap.size 36 #[.int .u64 0, .int .u64 0, .int .u64 0, .int .i64 0, .slice none 0 0, .slice none 0 0] (0, 0) _ rfl (blk_set6 BZ8.out) Tryd.underlying36 rfl (by kernel_rfl)) rfl ?_
      exact DecAns.zero HZ.out HB.out
     | some r9 =>
      have hpn : decide (a9 < 0) = false := hpn
      have hcs : cSt l = some ((e, g, n, pre, ys), r9) := HCE.out
      have hD : decA l = if okB l (e, g, n, pre, ys) = true then ((e, g, n, pre, ys), 0) else corA := by rw [← cut_dec, hcs]; rfl
      have HO := rdSt_ok (y := (e, g, n, pre, ys)) (r := r9) HBR.out HLL.out ((Rl.st l).1 _ hcs)
      have rs := Kd.S_reads' HS.out
      have rn := Kd.S_reads' HR.out
      have hle1 : (pre.map seI).length = pre.length := List.length_map ..
      have RC := Aside0.mk (show (Kd.C kSe wr B (pre.map seI).length (pre.map seI) ∧ (pre.map seI).length ≤ d) ∧ Kd.C kNo wr A2 ys.length ys ∧ ys.length ≤ c2 from ⟨⟨aSe_C rs.2.2, by rw [hle1]; exact rs.2.1⟩, aNo_C rn.2.2, rn.2.1⟩)
      have VI := Aside0.mk (fun (W : World) (hW : Below wr.heap.size wr W) => spec_ValidState.calls 10000000 e g n 0 B d (pre.map seI) A2 c2 ys _ W (Kd.C_below RC.out.1.1 hW) RC.out.1.2 (Kd.C_below RC.out.2.1 hW) RC.out.2.2 (validState_f e g n 0 (pre.map seI) ys HO.s))
      have EI := Aside0.mk (fun (W : World) (hW : Below wr.heap.size wr W) => l3enc_ok e g n 0 B d (pre.map seI) A2 c2 ys W (Kd.C_below RC.out.1.1 hW) RC.out.1.2 (Kd.C_below RC.out.2.1 hW) RC.out.2.2 HO.s HO.r HO.h.1 HO.h.2.1 HO.h.2.2 HO.m)
      rw [hle1] at VI EI
      obtain ⟨vb, hvb⟩ : ∃ vb, validB e g n 0 (pre.map seI) ys = vb := ⟨_, rfl⟩
      rw [hvb] at VI
      have HOB := Aside0.mk (show okB l (e, g, n, pre, ys) = (vb && ((strOfNums (encSt e g n (pre.map seI) ys)).toList == (strOfNums l).toList)) by rw [← hvb]; rfl)
      have HDD := Aside0.mk hD
      obtain ⟨s0, s1, s2, s3, s4, s5⟩ := cells6 BX.out
      clear rs rn hle1 hvb hD HO hcs HCE
      obtain ⟨x0, x1, x2, x3, x4, x5⟩ := cells6 BZ8.out
      have f0 := blk_frozen BZ8.out 0
      have f1 := blk_frozen BZ8.out 1
      have f2 := blk_frozen BZ8.out 2
      have f3 := blk_frozen BZ8.out 3
      have f4 := blk_frozen BZ8.out 4
      have f5 := blk_frozen BZ8.out 5
      go_wp2_with fail
      refine (VI.out _ (Below.refl _ _)).mono ?_
      rintro r w9 ⟨rfl, hb⟩
      clear s0 s1 s2 s3 s4 s5 x0 x1 x2 x3 x4 x5 f0 f1 f2 f3 f4 f5
      replace BZ8 := Aside0.mk (blk_below BZ8.out hb)
      replace HB := Aside0.mk (below_step HB.out hb)
      have BX9 := Aside0.mk (blk_below BX.out hb)
      have HB9 := Aside0.mk hb
      clear hb
      cases vb with
      | false =>
       have HZ := Aside0.mk (show decA l = corA by rw [HDD.out, if_neg (by rw [HOB.out]; simp)])
       obtain ⟨x0, x1, x2, x3, x4, x5⟩ := cells6 BZ8.out
       have f0 := blk_frozen BZ8.out 0
       have f1 := blk_frozen BZ8.out 1
       have f2 := blk_frozen BZ8.out 2
       have f3 := blk_frozen BZ8.out 3
       have f4 := blk_frozen BZ8.out 4
       have f5 := blk_frozen BZ8.out 5
       go_wp2_with fail
       refine bodyPost_ret (results_ct rfl _ _ w.heap.size 36 #[.int .u64 0, .int .u64 0, .int .u64 0, .int .i64 0, .slice none 0 0, .slice none 0 0] (0, 0) _ rfl (blk_set6 BZ8.out) Tryd.underlying36 rfl (by kernel_rfl)) rfl ?_
       exact DecAns.zero HZ.out HB.out
      | true =>
       obtain ⟨s0, s1, s2, s3, s4, s5⟩ := cells6 BX9.out
       rw [Bool.true_and] at HOB
       go_wp2_with fail
       refine (EI.out _ HB9.out).mono ?_
       rintro r w10 ⟨v, rfl, hr, hb⟩
       obtain ⟨E, ec, rfl⟩ := Kd.R_slice hr
       have HE := Aside0.mk (Kd.R_reads' hr).2
       clear s0 s1 s2 s3 s4 s5
       replace BZ8 := Aside0.mk (blk_below BZ8.out hb)
       replace HB := Aside0.mk (below_step HB.out hb)
       replace BX9 := Aside0.mk (blk_below BX9.out hb)
       replace HB9 := Aside0.mk (below_step HB9.out hb)
       clear hb hr
       generalize encSt e g n (pre.map seI) ys = es at *
       obtain ⟨tt, htt⟩ : ∃ tt, ((strOfNums es).toList == (strOfNums l).toList) = tt := ⟨_, rfl⟩
       have HQE := Aside0.mk (show spec_l3same.f es l = some tt by unfold spec_l3same.f; rw [htt])
       rw [htt] at HOB
       clear htt
       go_wp2_with fail
       refine (spec_l3same.calls E ec es A c l tt _ HE.out.2 HE.out.1 (Kd.C_below H.out.1 HB.out) H.out.2 HQE.out).mono ?_
       rintro r w11 ⟨rfl, hb0⟩
       have hb := hb0.below
       replace BZ8 := Aside0.mk (blk_below BZ8.out hb)
       replace HB := Aside0.mk (below_step HB.out hb)
       replace BX9 := Aside0.mk (blk_below BX9.out hb)
       replace HB9 := Aside0.mk (below_step HB9.out hb)
       clear hb0 hb
       cases tt with
       | false =>
        have HZ := Aside0.mk (show decA l = corA by rw [HDD.out, if_neg (by rw [HOB.out]; simp)])
        obtain ⟨x0, x1, x2, x3, x4, x5⟩ := cells6 BZ8.out
        have f0 := blk_frozen BZ8.out 0
        have f1 := blk_frozen BZ8.out 1
        have f2 := blk_frozen BZ8.out 2
        have f3 := blk_frozen BZ8.out 3
        have f4 := blk_frozen BZ8.out 4
        have f5 := blk_frozen BZ8.out 5
        go_wp2_with fail
        refine bodyPost_ret (results_ct rfl _ _ w.heap.size 36 #[.int .u64 0, .int .u64 0, .int .u64 0, .int .i64 0, .slice none 0 0, .slice none 0 0] (0, 0) _ rfl (blk_set6 BZ8.out) Tryd.underlying36 rfl (by kernel_rfl)) rfl ?_
        exact DecAns.zero HZ.out HB.out
       | true =>
        have HZ := Aside0.mk (show decA l = ((e, g, n, pre, ys), 0) by rw [HDD.out, if_pos HOB.out])
        obtain ⟨s0, s1, s2, s3, s4, s5⟩ := cells6 BX9.out
        obtain ⟨x0, x1, x2, x3, x4, x5⟩ := cells6 BZ8.out
        have f0 := blk_frozen BZ8.out 0
        have f1 := blk_frozen BZ8.out 1
        have f2 := blk_frozen BZ8.out 2
        have f3 := blk_frozen BZ8.out 3
        have f4 := blk_frozen BZ8.out 4
        have f5 := blk_frozen BZ8.out 5
        go_wp2_with fail
        refine bodyPost_ret (results_ct rfl _ _ w.heap.size 36 #[.int .u64 e, .int .u64 g, .int .u64 n, .int .i64 0, .slice B pre.length d, .slice A2 ys.length c2] (0, 0) _ rfl (blk_set6 BZ8.out) Tryd.underlying36 rfl (by kernel_rfl)) rfl ?_
        have hp := PP.out
        have hw5 := HPW.out
        exact DecAns.good (T := w7.heap.size) HZ.out HB.out (Kd.S_mono (Kd.S_below HS.out HB9.out) (fun q hq => ⟨by have := hq.1; omega, hq.2⟩)) (Kd.S_mono (Kd.S_below HR.out HB9.out) (fun q hq => ⟨by have : w7.heap.size ≤ q := hq; omega, hq⟩))
theorem spec_DecodeState_ok (w0 : World) (A : Option Addr) (c : Nat) (l : List Int) (w : World) (hB : Below w0.heap.size w0 w) (h : Kd.C (Kd.int .u8) w A l.length l) (hc : l.length ≤ c) (hl : l.length ≤ 2097152) (hbr : ∀ x ∈ l, 0 ≤ x ∧ x < 256) :
  Calls Tryd.prog 28 #[.slice A l.length c] w fun r w' => DecAns w0 w l r w' :=
 (spec_DecodeState_at A c l w h hc hl hbr).mono fun r w' h => h.rebase hB
theorem markByteS_bk (k m : Nat) (w0 : World) (lo hi : Nat) (A : Option Addr) (c : Nat) (l : List Int) (w : World) (hB : Below w0.heap.size w0 w) (hd : BK w0 w lo hi A c l) (hl : l.length ≤ 100000000) (hm : m ≤ 100000000) (hk : 100000000 < k) :
  Calls Tryd.prog 26 #[.slice A l.length c, .int .i64 m] w fun e w' => e = .returned (.int .i64 ((m + l.length : Nat) : Int)) ∧ BK w0 w' lo hi A c (marksB l.length m) ∧ Below w0.heap.size w0 w' ∧ Kept w w' (fun k => lo ≤ k ∧ k < hi) := by
 refine (laws_markByteS.calls k (OB A l.length c) _ l m _ _ w0 w hB hd.r (markByteS_f l m (by omega) k (by omega))).mono ?_
 rintro e w' ⟨rfl, hr, hb, hkp⟩
 refine ⟨rfl, ⟨?_, ?_⟩, hb, hkp.1, fun i hi hn => hkp.2 i hi (fun h => hn (hd.b i h))⟩
 ·
  rw [marksB_length]
  exact Kd.R_tight rfl hr
 ·
  rw [marksB_length]
  exact hd.b
theorem eqByteS_bk (k : Nat) (w0 w1 : World) (lo hi lo' hi' : Nat) (A : Option Addr) (c : Nat) (l : List Int) (B : Option Addr) (d : Nat) (w : World) (hd : BK w0 w lo hi A c l) (hd' : BK w1 w lo' hi' B d l) (hl : l.length ≤ 100000000) (hk : 100000000 < k) :
  Calls Tryd.prog 12 #[.slice A l.length c, .slice B l.length d] w fun e w' => e = .returned (.bool true) ∧ Below w.heap.size w w' := by
 refine (laws_eqByteS.calls k A c l B d l true w hd.reads.1 hd.reads.2 hd'.reads.1 hd'.reads.2 (eqByteS_self l (by omega) k (by omega))).mono ?_
 rintro e w' ⟨rfl, hb⟩
 exact ⟨rfl, hb.below⟩
theorem KeepP.box {w w' : World} {g b t : Nat} {cs : Array Value} (h : KeepP w w' g) (hb : w.heap[b]? = some (.cells cs t (0, 0))) (hne : b ≠ g) (ht : t ≠ 5) : w'.heap[b]? = some (.cells cs t (0, 0)) :=
 (h.2 b (blk_lt hb) hne (fun ⟨cs', e⟩ => by rw [hb] at e; cases e; exact ht rfl)).trans hb
theorem grown_pre {W W1 w6 : World} {v : Value} (h : Below W.heap.size W W1) (hg : W1.grownBy w6 v.ownBlock) : W.grownBy w6 v.ownBlock := World.grownBy.trans (grown_of_below h _) hg
theorem u8_wrap (x : Int) : IntKind.u8.wrap x = x % 256 := by first | rfl | (simp [IntKind.wrap]; done) | (unfold IntKind.wrap; simp; done)
theorem litN (w : World) (l : List Int) (hl : l.length ≤ 100) : Kd.R (Kd.int .u64) 26 (w.alloc (.cells (nums .u64 l).toArray 26)) w.heap.size (fun _ => True) (.slice (some ⟨w.heap.size, 0, none⟩) l.length l.length) l :=
 Kd.R_of_own (enc := Value.int .u64) (h1 := fun _ => rfl) (xs := l) (own_lit w w.heap.size 26 .u64 l (Nat.le_refl _) (by omega)) (fun _ _ => trivial)
theorem encSt_dur (e g n : Int) (xs : List Se) (ns : List No) : encSt e g n (xs.map durSe) (ns.map durNo) = encSt e g n xs ns := by
 unfold encSt encMid encHd
 rw [List.length_map, List.length_map, List.flatMap_map, List.flatMap_map]
 rfl
theorem sumNo_dur (ns : List No) : sumL lnNo (ns.map durNo) ≤ sumL lnNo ns := by
 induction ns with
 | nil => exact Nat.le_refl _
 | cons x r ih =>
  have h : lnNo (durNo x) ≤ lnNo x := by unfold lnNo durNo; simp only [List.length_nil]; omega
  simp only [List.map_cons, sumL]
  omega
set_option maxHeartbeats 8000000 in
set_option maxRecDepth 100000 in
theorem implEnc_ok (HV : ValIC) (w0 : World) (e g n t : Int) (As : Option Addr) (cs : Nat) (xs : List Se) (An : Option Addr) (cn : Nat) (ns : List No) (w : World) (hB : Below w0.heap.size w0 w) (h1 : Kd.C kSe w As xs.length xs) (hc1 : xs.length ≤ cs) (h2 : Kd.C kNo w An ns.length ns) (hc2 : ns.length ≤ cn) (hs : SmS xs ns) (hr : RgT xs ns) (hh : (0 ≤ e ∧ e < 18446744073709551616) ∧ (0 ≤ g ∧ g < 18446744073709551616) ∧ (0 ≤ n ∧ n < 18446744073709551616)) (hsum : sumL lnSe xs + sumL lnNo ns ≤ 4194305) :
  Calls Tryd.prog 25 #[.agg #[.int .u64 e, .int .u64 g, .int .u64 n, .int .i64 t, .slice As xs.length cs, .slice An ns.length cn]] w fun r w' => ∃ A c, r = .returned (.slice A (encF e g n t xs ns).length c) ∧ BK w0 w' w.heap.size w'.heap.size A c (encF e g n t xs ns) ∧ Below w.heap.size w w' := by
 have HB0 := Aside0.mk hB
 have hF : encF e g n t xs ns = if validB e g n t xs ns = true then encSt e g n xs ns else [] := rfl
 have hV := Aside0.mk (fun (W : World) (hW : Below w.heap.size w W) => HV e g n t As cs xs An cn ns W (Kd.C_below h1 hW) hc1 (Kd.C_below h2 hW) hc2 hs hr.x hr.m)
 have hD := Aside0.mk (fun (W : World) (hW : Below w.heap.size w W) => durable_ok e g n t As cs xs An cn ns W (Kd.C_below h1 hW) hc1 (Kd.C_below h2 hW) hc2 hs)
 obtain ⟨vb, hvb⟩ : ∃ vb, validB e g n t xs ns = vb := ⟨_, rfl⟩
 rw [hvb] at hF
 simp only [hvb] at hV
 rw [← encSt_dur] at hF
 have HF := Aside0.mk hF
 have HH := Aside0.mk hh
 have hX1 : ∀ x ∈ xs.map durSe, 0 ≤ x.f0 ∧ x.f0 < 18446744073709551616 := fun x hx => by
  obtain ⟨y, hy, rfl⟩ := List.mem_map.1 hx
  exact hr.x y hy
 have hN1 : ∀ x ∈ ns.map durNo, ((0 ≤ x.f2 ∧ x.f2 < 18446744073709551616) ∧ (∀ z ∈ x.f4, 0 ≤ z ∧ z < 18446744073709551616)) ∧ ((0 ≤ x.f5 ∧ x.f5 < 18446744073709551616) ∧ (0 ≤ x.f6 ∧ x.f6 < 18446744073709551616)) ∧ ((x.f0.length ≤ 2097152 ∧ x.f1.length ≤ 2097152) ∧ x.f4.length ≤ 2097152) := fun x hx => by
  obtain ⟨y, hy, rfl⟩ := List.mem_map.1 hx
  exact ⟨⟨(hr.m y hy).1, (hr.m y hy).2.1⟩, hr.p y hy, ⟨(hs.m y hy).1.1.1, (hs.m y hy).1.2⟩, (hs.m y hy).2.1⟩
 have hXl : (xs.map durSe).length ≤ 2097152 := by rw [List.length_map]; exact hs.x
 have hNl : (ns.map durNo).length ≤ 2097152 := by rw [List.length_map]; exact hs.n
 have hsu : (xs.map durSe).length + sumL lnNo (ns.map durNo) ≤ 4194305 := by
  have h1 := ses_le xs
  have h2 := sumNo_dur ns
  rw [List.length_map]
  omega
 obtain ⟨X, hX⟩ : ∃ X, xs.map durSe = X := ⟨_, rfl⟩
 obtain ⟨N, hN⟩ : ∃ N, ns.map durNo = N := ⟨_, rfl⟩
 rw [hX, hN] at HF hsu
 rw [hX] at hX1 hXl
 rw [hN] at hN1 hNl
 simp only [hX, hN] at hD
 have HX := Aside0.mk hX1
 have HN := Aside0.mk hN1
 have HSU := Aside0.mk hsu
 have HU := Aside0.mk (And.intro (u64_nat X.length (by omega)) (u64_nat N.length (by omega)))
 clear h1 hc1 h2 hc2 hs hr hh hsum hvb hF hB HV hX hN hX1 hN1 hsu
 go_enter Tryd.func25, Tryd.ntmps25
 go_upto_region 1 with (fail)
 have bs := blk_new w (.cells #[.int .u64 e, .int .u64 g, .int .u64 n, .int .i64 t, .slice As xs.length cs, .slice An ns.length cn] 36)
 have hB := below_alloc (Below.refl w.heap.size w) (.cells #[.int .u64 e, .int .u64 g, .int .u64 n, .int .i64 t, .slice As xs.length cs, .slice An ns.length cn] 36)
 have hlt := blk_lt bs
 generalize w.alloc (.cells #[.int .u64 e, .int .u64 g, .int .u64 n, .int .i64 t, .slice As xs.length cs, .slice An ns.length cn] 36) = W0 at *
 have BS := Aside0.mk bs
 have HB := Aside0.mk hB
 clear bs hB
 obtain ⟨s0, s1, s2, s3, s4, s5⟩ := cells6 BS.out
 go_wp2_with fail
 refine (hV.out _ HB.out).mono ?_
 rintro r W1 ⟨rfl, hb⟩
 clear s0 s1 s2 s3 s4 s5
 have hlt1 : w.heap.size < W1.heap.size := Nat.lt_of_lt_of_le hlt hb.size
 replace BS := Aside0.mk (blk_below BS.out hb)
 replace HB := Aside0.mk (below_step HB.out hb)
 clear hb hV hlt
 obtain ⟨s0, s1, s2, s3, s4, s5⟩ := cells6 BS.out
 cases vb with
 | false =>
  go_wp2_with fail
  go_ret
  rw [HF.out, if_neg (by decide)]
  exact ⟨none, 0, rfl, BK.of (ok := fun _ => True) (Kd.R_nil _ _ _ _ _) HB0.out, HB.out⟩
 | true =>
  rw [if_pos rfl] at HF
  go_wp2_with fail
  refine (hD.out _ HB.out).mono ?_
  rintro r W2 ⟨Bs, ds, Bn, dn, rfl, hK, hb⟩
  clear s0 s1 s2 s3 s4 s5 hD
  replace BS := Aside0.mk (blk_below BS.out hb)
  replace HB := Aside0.mk (below_step HB.out hb)
  have hs2 := hb.size
  clear hb
  obtain ⟨s0, s1, s2, s3, s4, s5⟩ := cells6 BS.out
  have f0 := blk_frozen BS.out 0
  have f1 := blk_frozen BS.out 1
  have f2 := blk_frozen BS.out 2
  have f3 := blk_frozen BS.out 3
  have f4 := blk_frozen BS.out 4
  have f5 := blk_frozen BS.out 5
  go_upto_region 5 with (fail)
  clear s0 s1 s2 s3 s4 s5 f0 f1 f2 f3 f4 f5
  obtain ⟨pS, hS1, hS2⟩ := hK.ex
  have bs := (blk_put (cs := #[.int .u64 e, .int .u64 g, .int .u64 n, .int .i64 0, .slice Bs X.length ds, .slice An ns.length cn]) (cs' := #[.int .u64 e, .int .u64 g, .int .u64 n, .int .i64 0, .slice Bs X.length ds, .slice Bn N.length dn]) (blk_put (cs := #[.int .u64 e, .int .u64 g, .int .u64 n, .int .i64 0, .slice As xs.length cs, .slice An ns.length cn]) (cs' := #[.int .u64 e, .int .u64 g, .int .u64 n, .int .i64 0, .slice Bs X.length ds, .slice An ns.length cn]) (blk_put (cs := #[.int .u64 e, .int .u64 g, .int .u64 n, .int .i64 t, .slice As xs.length cs, .slice An ns.length cn]) (cs' := #[.int .u64 e, .int .u64 g, .int .u64 n, .int .i64 0, .slice As xs.length cs, .slice An ns.length cn]) (blk_put (cs := #[.int .u64 e, .int .u64 g, .int .u64 n, .int .i64 t, .slice As xs.length cs, .slice An ns.length cn]) (cs' := #[.int .u64 e, .int .u64 g, .int .u64 n, .int .i64 t, .slice As xs.length cs, .slice An ns.length cn]) (blk_put (cs := #[.int .u64 e, .int .u64 g, .int .u64 n, .int .i64 t, .slice As xs.length cs, .slice An ns.length cn]) (cs' := #[.int .u64 e, .int .u64 g, .int .u64 n, .int .i64 t, .slice As xs.length cs, .slice An ns.length cn]) (blk_put (cs := #[.int .u64 e, .int .u64 g, .int .u64 n, .int .i64 t, .slice As xs.length cs, .slice An ns.length cn]) (cs' := #[.int .u64 e, .int .u64 g, .int .u64 n, .int .i64 t, .slice As xs.length cs, .slice An ns.length cn]) BS.out 0 _ rfl) 1 _ rfl) 2 _ rfl) 3 _ rfl) 4 _ rfl) 5 _ rfl)
  have hB := (show Below w.heap.size w ((((((W2.setCell ⟨w.heap.size, 0, none⟩ (.int .u64 e)).setCell ⟨w.heap.size, 1, none⟩ (.int .u64 g)).setCell ⟨w.heap.size, 2, none⟩ (.int .u64 n)).setCell ⟨w.heap.size, 3, none⟩ (.int .i64 0)).setCell ⟨w.heap.size, 4, none⟩ (.slice Bs X.length ds)).setCell ⟨w.heap.size, 5, none⟩ (.slice Bn N.length dn)) from by with_reducible repeat (first | exact HB.out | refine below_set ?_ (Nat.le_refl _)))
  have hX : Kd.S aSe 70 ((((((W2.setCell ⟨w.heap.size, 0, none⟩ (.int .u64 e)).setCell ⟨w.heap.size, 1, none⟩ (.int .u64 g)).setCell ⟨w.heap.size, 2, none⟩ (.int .u64 n)).setCell ⟨w.heap.size, 3, none⟩ (.int .i64 0)).setCell ⟨w.heap.size, 4, none⟩ (.slice Bs X.length ds)).setCell ⟨w.heap.size, 5, none⟩ (.slice Bn N.length dn)) W1.heap.size (fun k => W1.heap.size ≤ k) (.slice Bs X.length ds) X := by repeat (first | with_reducible exact Kd.S_mono hS1 (fun k hk => hk.1.1) | refine Kd.S_far ?_ (fun k hk => by have : W1.heap.size ≤ k := hk; show k ≠ w.heap.size; omega) _)
  have hN : Kd.S aNo 76 ((((((W2.setCell ⟨w.heap.size, 0, none⟩ (.int .u64 e)).setCell ⟨w.heap.size, 1, none⟩ (.int .u64 g)).setCell ⟨w.heap.size, 2, none⟩ (.int .u64 n)).setCell ⟨w.heap.size, 3, none⟩ (.int .i64 0)).setCell ⟨w.heap.size, 4, none⟩ (.slice Bs X.length ds)).setCell ⟨w.heap.size, 5, none⟩ (.slice Bn N.length dn)) W1.heap.size (fun k => W1.heap.size ≤ k) (.slice Bn N.length dn) N := by repeat (first | with_reducible exact Kd.S_mono hS2 (fun k hk => hk.1.1) | refine Kd.S_far ?_ (fun k hk => by have : W1.heap.size ≤ k := hk; show k ≠ w.heap.size; omega) _)
  have hsz3 : ((((((W2.setCell ⟨w.heap.size, 0, none⟩ (.int .u64 e)).setCell ⟨w.heap.size, 1, none⟩ (.int .u64 g)).setCell ⟨w.heap.size, 2, none⟩ (.int .u64 n)).setCell ⟨w.heap.size, 3, none⟩ (.int .i64 0)).setCell ⟨w.heap.size, 4, none⟩ (.slice Bs X.length ds)).setCell ⟨w.heap.size, 5, none⟩ (.slice Bn N.length dn)).heap.size = W2.heap.size := by simp only [World.size_setCell]
  clear hS1 hS2 hK BS HB
  generalize ((((((W2.setCell ⟨w.heap.size, 0, none⟩ (.int .u64 e)).setCell ⟨w.heap.size, 1, none⟩ (.int .u64 g)).setCell ⟨w.heap.size, 2, none⟩ (.int .u64 n)).setCell ⟨w.heap.size, 3, none⟩ (.int .i64 0)).setCell ⟨w.heap.size, 4, none⟩ (.slice Bs X.length ds)).setCell ⟨w.heap.size, 5, none⟩ (.slice Bn N.length dn)) = W3 at *
  have HXC := Aside0.mk (aSe_C (Kd.S_reads' hX).2.2)
  have HNS := Aside0.mk hN
  have HNC := Aside0.mk (aNo_C (Kd.S_reads' hN).2.2)
  have bp := blk_new W3 (.cells #[.slice none 0 0] 92)
  have hB3 := Aside0.mk hB
  have hlt3 := blk_lt bs
  have BS := Aside0.mk (blk_alloc bs (.cells #[.slice none 0 0] 92))
  have PK0 := Aside0.mk (show PK W3 (W3.alloc (.cells #[.slice none 0 0] 92)) W3.heap.size [] from ⟨⟨none, 0, bp, Kd.R_nil _ _ _ _ _⟩, below_alloc (Below.refl _ _) _, Nat.le_refl _⟩)
  clear bp bs hX hN hB
  have HGP := Aside0.mk (show w.heap.size ≠ W3.heap.size by omega)
  have HGQ := Aside0.mk (show w.heap.size ≤ W3.heap.size from hB3.out.size)
  generalize W3.alloc (.cells #[.slice none 0 0] 92) = W4 at *
  obtain ⟨gp, hgp⟩ : ∃ gp, W3.heap.size = gp := ⟨_, rfl⟩
  have HGE := Aside0.mk hgp
  have PKs : Aside0 (PK W3 W4 gp []) := ⟨by rw [← hgp]; exact PK0.out⟩
  have HGN : Aside0 (w.heap.size ≠ gp) := ⟨by rw [← hgp]; exact HGP.out⟩
  rw [← hsz3, hgp]
  clear hgp PK0 HGP hlt3 hlt1 hs2 hsz3
  obtain ⟨s0, s1, s2, s3, s4, s5⟩ := cells6 BS.out
  have hu := HU.out.1
  go_wp2_with fail
  refine (packer_numbers W3 _ gp ([]) (some ⟨_, 0, none⟩) 4 [e, g, n, (X.length : Int)] _ (fun _ => True) (PKs.out.alloc _) (litN _ [e, g, n, (X.length : Int)] (by simp)) (by intro z hz; simp only [List.mem_cons, List.not_mem_nil, or_false] at hz; rcases hz with rfl | rfl | rfl | rfl; exact HH.out.1; exact HH.out.2.1; exact HH.out.2.2; exact ⟨by omega, by omega⟩) (by simp)).mono ?_
  rintro r W5 ⟨rfl, hp, hk⟩
  clear s0 s1 s2 s3 s4 s5
  replace BS := Aside0.mk (hk.box (blk_alloc BS.out _) HGN.out (by decide))
  replace PKs := Aside0.mk (show PK W3 W5 gp (varN e ++ (varN g ++ (varN n ++ varN (X.length : Int)))) from by simpa only [List.flatMap_cons, List.flatMap_nil, List.append_nil, List.nil_append, List.append_assoc] using hp)
  clear hp hk
  have hhd : varN e ++ (varN g ++ (varN n ++ varN (X.length : Int))) = encHd e g n X := by simp only [encHd, List.append_assoc]
  rw [hhd] at PKs
  clear hhd
  obtain ⟨s0, s1, s2, s3, s4, s5⟩ := cells6 BS.out
  go_wp2_with fail
  clear s0 s1 s2 s3 s4 s5
  go_loopg [31] (X.length + 1) (fun kq v31 w' => ∃ i : Nat, v31 = .int .i64 i ∧ Aside0 (kq + i = X.length + 1 ∧ i ≤ X.length) ∧ Aside0 (PK W3 w' gp (encHd e g n X ++ (X.take i).flatMap (fun x => varN x.f0))) ∧ Aside0 (w'.heap[w.heap.size]? = some (.cells #[.int .u64 e, .int .u64 g, .int .u64 n, .int .i64 0, .slice Bs X.length ds, .slice Bn N.length dn] 36 (0, 0))))
  case atStart => exact ⟨0, rfl, ⟨⟨by omega, by omega⟩⟩, ⟨by rw [List.take_zero, List.flatMap_nil, List.append_nil]; exact PKs.out⟩, BS⟩
  case round =>
   clear PKs BS
   obtain ⟨i, rfl, HJ, PKs, BS⟩ := hrel
   have hj0 := HJ.out
   by_cases hj : i < X.length
   ·
    have c1 : decide ((i : Int) < (X.length : Int)) = true := decide_eq_true (by omega)
    have HT := Aside0.mk (flat_take (fun x : Se => varN x.f0) X i hj)
    have hlen : (encHd e g n X ++ (X.take i).flatMap (fun x => varN x.f0)).length ≤ 40 + 10 * 2097152 := by
     have h1 := encHd_le e g n X
     have h2 := flat_var_le (fun x : Se => x.f0) (X.take i)
     rw [List.length_take] at h2
     rw [List.length_append]
     omega
    have hrg := HX.out X[i] (List.getElem_mem hj)
    have ci : (0 : Int) ≤ (i : Int) := by omega
    have ci2 : (i : Int) < (X.length : Int) := by omega
    obtain ⟨ad, A2, c2', eA, hx0, hx1, hx2, _, _⟩ := at_T70 HXC.out (i : Int) ci ci2
    rw [rd_seE X i hj, Int.toNat_natCast] at hx0
    rw [rd_seE X i hj, Int.toNat_natCast] at hx1
    rw [rd_seE X i hj, Int.toNat_natCast] at hx2
    cases eA
    have hal : ∀ {a : Addr} {z : Value}, W3.cell? a = some z → wr.cell? a = some z := fun hz => (PKs.out.be.cell (World.block_lt_of_cell? W3 _ hz)).trans hz
    replace hx0 := hal hx0
    replace hx1 := hal hx1
    replace hx2 := hal hx2
    clear hal
    try simp only at HT
    generalize X[i].f0 = id at *
    generalize X[i].f1 = dl at *
    generalize X[i].f2.length = ql at *
    obtain ⟨x, hxq⟩ : ∃ x, encHd e g n X ++ (X.take i).flatMap (fun x => varN x.f0) = x := ⟨_, rfl⟩
    rw [hxq] at PKs hlen
    have HXE := Aside0.mk hxq
    clear hxq
    go_upto_region 9 with (fail)
    have n0 := (cells3 (blk_new wr (.cells #[.int .u64 id, .int .i64 dl, .slice A2 ql c2'] 70))).1
    replace BS := Aside0.mk (blk_alloc BS.out (.cells #[.int .u64 id, .int .i64 dl, .slice A2 ql c2'] 70))
    replace PKs := Aside0.mk (PKs.out.alloc (.cells #[.int .u64 id, .int .i64 dl, .slice A2 ql c2'] 70))
    generalize wr.heap.size = g5 at *
    generalize wr.alloc (.cells #[.int .u64 id, .int .i64 dl, .slice A2 ql c2'] 70) = W5 at *
    clear hx0 hx1 hx2
    obtain ⟨s0, s1, s2, s3, s4, s5⟩ := cells6 BS.out
    go_wp2_with fail
    refine (packer_numbers W3 _ gp (x) (some ⟨_, 0, none⟩) 1 [id] _ (fun _ => True) (PKs.out.alloc _) (litN _ [id] (by simp)) (by intro z hz; rw [List.mem_singleton.1 hz]; exact hrg) (by simp only [List.length_singleton]; omega)).mono ?_
    rintro r W6 ⟨rfl, hp, hk⟩
    clear s0 s1 s2 s3 s4 s5
    replace BS := Aside0.mk (hk.box (blk_alloc BS.out _) HGN.out (by decide))
    replace PKs := Aside0.mk (show PK W3 W6 gp (x ++ varN id) from by simpa only [List.flatMap_cons, List.flatMap_nil, List.append_nil, List.nil_append, List.append_assoc] using hp)
    clear hp hk
    have hj2 := HJ.out
    obtain ⟨k1, rfl⟩ : ∃ k1, gk = k1 + 1 := ⟨gk - 1, by omega⟩
    go_wp2_with fail
    go_roundg k1
    case measure => omega
    case rel => exact ⟨i + 1, by go_num, ⟨⟨by omega, by omega⟩⟩, ⟨by rw [HT.out, ← List.append_assoc, HXE.out]; exact PKs.out⟩, BS⟩
   ·
    have c1 : decide ((i : Int) < (X.length : Int)) = false := decide_eq_false (by omega)
    obtain rfl : i = X.length := by omega
    rw [List.take_length] at PKs
    have hlen : (encHd e g n X ++ X.flatMap (fun x => varN x.f0)).length ≤ 40 + 10 * 2097152 := by
     have h1 := encHd_le e g n X
     have h2 := flat_var_le (fun x : Se => x.f0) X
     rw [List.length_append]
     omega
    obtain ⟨x, hxq⟩ : ∃ x, encHd e g n X ++ X.flatMap (fun x => varN x.f0) = x := ⟨_, rfl⟩
    rw [hxq] at PKs hlen
    have HXE := Aside0.mk hxq
    clear hxq HJ hj0 HXC
    obtain ⟨s0, s1, s2, s3, s4, s5⟩ := cells6 BS.out
    have hu := HU.out.2
    go_wp2_with fail
    refine (packer_numbers W3 _ gp (x) (some ⟨_, 0, none⟩) 1 [(N.length : Int)] _ (fun _ => True) (PKs.out.alloc _) (litN _ [(N.length : Int)] (by simp)) (by intro z hz; rw [List.mem_singleton.1 hz]; exact ⟨by omega, by omega⟩) (by simp only [List.length_singleton]; omega)).mono ?_
    rintro r W21 ⟨rfl, hp, hk⟩
    clear s0 s1 s2 s3 s4 s5
    replace BS := Aside0.mk (hk.box (blk_alloc BS.out _) HGN.out (by decide))
    replace PKs := Aside0.mk (show PK W3 W21 gp (x ++ varN (N.length : Int)) from by simpa only [List.flatMap_cons, List.flatMap_nil, List.append_nil, List.nil_append, List.append_assoc] using hp)
    clear hp hk
    have hmid : x ++ varN (N.length : Int) = encMid e g n X N.length := by rw [← HXE.out]; rfl
    rw [hmid] at PKs
    clear hmid HXE hlen
    obtain ⟨s0, s1, s2, s3, s4, s5⟩ := cells6 BS.out
    go_wp2_with fail
    clear s0 s1 s2 s3 s4 s5
    go_loopg [51] (N.length + 1) (fun kq v51 w' => ∃ i : Nat, v51 = .int .i64 i ∧ Aside0 (kq + i = N.length + 1 ∧ i ≤ N.length) ∧ Aside0 (PK W3 w' gp (encMid e g n X N.length ++ (N.take i).flatMap encNo)) ∧ Aside0 (w'.heap[w.heap.size]? = some (.cells #[.int .u64 e, .int .u64 g, .int .u64 n, .int .i64 0, .slice Bs X.length ds, .slice Bn N.length dn] 36 (0, 0))))
    case atStart => exact ⟨0, rfl, ⟨⟨by omega, by omega⟩⟩, ⟨by rw [List.take_zero, List.flatMap_nil, List.append_nil]; exact PKs.out⟩, BS⟩
    case round =>
     clear PKs BS
     obtain ⟨i2, rfl, HJ, PKs, BS⟩ := hrel
     have hj0 := HJ.out
     by_cases hj : i2 < N.length
     ·
      have c1b : decide ((i2 : Int) < (N.length : Int)) = true := decide_eq_true (by omega)
      have HT := Aside0.mk (flat_take encNo N i2 hj)
      have hlen : (encMid e g n X N.length ++ (N.take i2).flatMap encNo).length ≤ 67109000 := by
       have h1 := encMid_le e g n X N.length
       have h2 := flatNo_le (N.take i2)
       have h3 := sumL_take_le lnNo N i2
       have h4 := HSU.out
       rw [List.length_append]
       omega
      have hrg := HN.out N[i2] (List.getElem_mem hj)
      have ci : (0 : Int) ≤ (i2 : Int) := by omega
      have ci2 : (i2 : Int) < (N.length : Int) := by omega
      obtain ⟨gA, capA, eA0, _⟩ := Kd.S_form HNS.out (by omega)
      injection eA0 with eA1 _ eA3
      subst eA1
      subst eA3
      obtain ⟨oki, cc, hcl, hM, hcc, hfr, hoki, hH⟩ := Kd.S_elem HNS.out z76 (i2 : Int) ci ci2
      rw [Int.toNat_natCast, List.getD_eq_getElem?_getD, List.getElem?_eq_getElem hj] at hM
      simp only [Option.getD_some] at hM
      obtain ⟨y, hy⟩ : ∃ y, N[i2] = y := ⟨_, rfl⟩
      rw [hy] at hM hrg HT
      clear hy hH hoki hfr
      obtain ⟨l0, l1, o, m, l4, ep, ge, l7⟩ := y
      obtain ⟨p0, p1, p4, v0, v1, v4, v7, rfl, hR0, hR1, hR4, hR7⟩ := aNo_open hM
      simp only at hR0 hR1 hR4 hR7 hrg hcc
      obtain ⟨C0, k0, rfl⟩ := Kd.R_slice hR0
      obtain ⟨C1, k1', rfl⟩ := Kd.R_slice hR1
      obtain ⟨C4, k4, rfl⟩ := Kd.R_slice hR4
      obtain ⟨C7, k7, rfl⟩ := Kd.R_slice hR7
      have hal : ∀ {a : Addr} {z : Value}, W3.cell? a = some z → wr.cell? a = some z := fun hz => (PKs.out.be.cell (World.block_lt_of_cell? W3 _ hz)).trans hz
      have hx0 := hal (hcc 0 _ rfl)
      rw [show (i2 : Int).toNat * aNo.sz + 0 = i2 * 8 by rw [Int.toNat_natCast]; rfl] at hx0
      have hx1 := hal (hcc 1 _ rfl)
      rw [show (i2 : Int).toNat * aNo.sz + 1 = i2 * 8 + 1 by rw [Int.toNat_natCast]; rfl] at hx1
      have hx2 := hal (hcc 2 _ rfl)
      rw [show (i2 : Int).toNat * aNo.sz + 2 = i2 * 8 + 2 by rw [Int.toNat_natCast]; rfl] at hx2
      have hx3 := hal (hcc 3 _ rfl)
      rw [show (i2 : Int).toNat * aNo.sz + 3 = i2 * 8 + 3 by rw [Int.toNat_natCast]; rfl] at hx3
      have hx4 := hal (hcc 4 _ rfl)
      rw [show (i2 : Int).toNat * aNo.sz + 4 = i2 * 8 + 4 by rw [Int.toNat_natCast]; rfl] at hx4
      have hx5 := hal (hcc 5 _ rfl)
      rw [show (i2 : Int).toNat * aNo.sz + 5 = i2 * 8 + 5 by rw [Int.toNat_natCast]; rfl] at hx5
      have hx6 := hal (hcc 6 _ rfl)
      rw [show (i2 : Int).toNat * aNo.sz + 6 = i2 * 8 + 6 by rw [Int.toNat_natCast]; rfl] at hx6
      have hx7 := hal (hcc 7 _ rfl)
      rw [show (i2 : Int).toNat * aNo.sz + 7 = i2 * 8 + 7 by rw [Int.toNat_natCast]; rfl] at hx7
      clear hal hcc hcl hM
      have HI0 := Aside0.mk (Kd.R_reads' hR0).2
      have HI1 := Aside0.mk (Kd.R_reads' hR1).2
      have HI4 := Aside0.mk hR4
      have HRN := Aside0.mk hrg
      have HU4 := Aside0.mk (u64_nat l4.length (by omega))
      have hm0 := hrg.2.2.1.1
      have hm1 := hrg.2.2.1.2
      have hm4 := hrg.2.2.2
      clear hR0 hR1 hR4 hR7 hrg
      obtain ⟨x, hxq⟩ : ∃ x, encMid e g n X N.length ++ (N.take i2).flatMap encNo = x := ⟨_, rfl⟩
      rw [hxq] at PKs hlen
      have HXE := Aside0.mk hxq
      clear hxq
      go_upto_region 15 with (fail)
      have BN := Aside0.mk (blk_new wr (.cells #[.slice C0 l0.length k0, .slice C1 l1.length k1', .int .u64 o, .int .i64 m, .slice C4 l4.length k4, .int .u64 ep, .int .u64 ge, .slice C7 l7.length k7] 76))
      replace BS := Aside0.mk (blk_alloc BS.out (.cells #[.slice C0 l0.length k0, .slice C1 l1.length k1', .int .u64 o, .int .i64 m, .slice C4 l4.length k4, .int .u64 ep, .int .u64 ge, .slice C7 l7.length k7] 76))
      have HNP := Aside0.mk (show wr.heap.size ≠ gp from by have h1 := PKs.out.be.size; obtain ⟨⟨_, _, hbx, _⟩, _, _⟩ := PKs.out; have h2 := blk_lt hbx; omega)
      replace PKs := Aside0.mk (PKs.out.alloc (.cells #[.slice C0 l0.length k0, .slice C1 l1.length k1', .int .u64 o, .int .i64 m, .slice C4 l4.length k4, .int .u64 ep, .int .u64 ge, .slice C7 l7.length k7] 76))
      clear hx0 hx1 hx2 hx3 hx4 hx5 hx6 hx7
      generalize wr.heap.size = gN at *
      generalize wr.alloc (.cells #[.slice C0 l0.length k0, .slice C1 l1.length k1', .int .u64 o, .int .i64 m, .slice C4 l4.length k4, .int .u64 ep, .int .u64 ge, .slice C7 l7.length k7] 76) = W30 at *
      obtain ⟨n0, n1, n2, n3, n4, n5, n6, n7⟩ := cells8 BN.out
      go_wp2_with fail
      refine (packer_text W3 _ gp (x) C0 k0 l0 PKs.out HI0.out.2 HI0.out.1 (by have h0 := textB_length l0; have h1 := textB_length l1; have h2 := varN_length o; have h3 := varN_length (l4.length : Int); have h4 := flat_varN_le l4; (try simp only [List.length_append, List.length_singleton, List.length_cons, List.length_nil]); omega)).mono ?_
      rintro r W31 ⟨rfl, hp, hk⟩
      clear n0 n1 n2 n3 n4 n5 n6 n7
      replace BS := Aside0.mk (hk.box BS.out HGN.out (by decide))
      replace BN := Aside0.mk (hk.box BN.out HNP.out (by decide))
      replace PKs := Aside0.mk (show PK W3 W31 gp (x ++ textB l0) from hp)
      clear hp hk
      obtain ⟨n0, n1, n2, n3, n4, n5, n6, n7⟩ := cells8 BN.out
      go_wp2_with fail
      refine (packer_text W3 _ gp (x ++ textB l0) C1 k1' l1 PKs.out HI1.out.2 HI1.out.1 (by have h0 := textB_length l0; have h1 := textB_length l1; have h2 := varN_length o; have h3 := varN_length (l4.length : Int); have h4 := flat_varN_le l4; (try simp only [List.length_append, List.length_singleton, List.length_cons, List.length_nil]); omega)).mono ?_
      rintro r W32 ⟨rfl, hp, hk⟩
      clear n0 n1 n2 n3 n4 n5 n6 n7
      replace BS := Aside0.mk (hk.box BS.out HGN.out (by decide))
      replace BN := Aside0.mk (hk.box BN.out HNP.out (by decide))
      replace PKs := Aside0.mk (show PK W3 W32 gp (x ++ textB l0 ++ textB l1) from hp)
      clear hp hk
      obtain ⟨xq, hxq⟩ : ∃ xq, x ++ textB l0 ++ textB l1 = xq := ⟨_, rfl⟩
      have hlq : xq.length ≤ 100000000 - 100 := by rw [← hxq]; have h0 := textB_length l0; have h1 := textB_length l1; have h2 := varN_length o; have h3 := varN_length (l4.length : Int); have h4 := flat_varN_le l4; (try simp only [List.length_append, List.length_singleton, List.length_cons, List.length_nil]); omega
      rw [hxq] at PKs
      obtain ⟨s0, s1, s2, s3, s4, s5⟩ := cells6 BS.out
      obtain ⟨n0, n1, n2, n3, n4, n5, n6, n7⟩ := cells8 BN.out
      go_wp2_with fail
      refine (packer_numbers W3 _ gp (xq) (some ⟨_, 0, none⟩) 1 [o] _ (fun _ => True) (PKs.out.alloc _) (litN _ [o] (by simp)) (by intro z hz; rw [List.mem_singleton.1 hz]; exact HRN.out.1.1) (by simp only [List.length_singleton, List.length_cons, List.length_nil]; omega)).mono ?_
      rintro r W33 ⟨rfl, hp, hk⟩
      clear s0 s1 s2 s3 s4 s5 n0 n1 n2 n3 n4 n5 n6 n7
      replace BS := Aside0.mk (hk.box (blk_alloc BS.out _) HGN.out (by decide))
      replace BN := Aside0.mk (hk.box (blk_alloc BN.out _) HNP.out (by decide))
      replace PKs := Aside0.mk (show PK W3 W33 gp (xq ++ (varN o)) from by simpa only [List.flatMap_cons, List.flatMap_nil, List.append_nil, List.nil_append, List.append_assoc] using hp)
      clear hp hk
      rw [← hxq] at PKs
      clear hxq hlq
      go_upto_region 18 with (fail)
      obtain ⟨q, hq⟩ : ∃ q, x ++ textB l0 ++ textB l1 ++ varN o = q := ⟨_, rfl⟩
      have hlq : q.length ≤ 100000000 := by rw [← hq]; have h0 := textB_length l0; have h1 := textB_length l1; have h2 := varN_length o; have h3 := varN_length (l4.length : Int); have h4 := flat_varN_le l4; (try simp only [List.length_append, List.length_singleton, List.length_cons, List.length_nil]); omega
      rw [hq] at PKs
      have HQ := Aside0.mk hq
      clear hq
      obtain ⟨n0, n1, n2, n3, n4, n5, n6, n7⟩ := cells8 BN.out
      go_cut [] (fun wc => Aside0 (PK W3 wc gp (q ++ [IntKind.u8.wrap m])) ∧ Aside0 (wc.heap[w.heap.size]? = some (.cells #[.int .u64 e, .int .u64 g, .int .u64 n, .int .i64 0, .slice Bs X.length ds, .slice (some ⟨gA, 0, none⟩) N.length dn] 36 (0, 0))) ∧ Aside0 (wc.heap[gN]? = some (.cells #[.slice C0 l0.length k0, .slice C1 l1.length k1', .int .u64 o, .int .i64 m, .slice C4 l4.length k4, .int .u64 ep, .int .u64 ge, .slice C7 l7.length k7] 76 (0, 0))))
      case first =>
       obtain ⟨Ap, cp, hbox, hR, zp, fp, hgz⟩ := PKs.out.open_
       have HR := Aside0.mk hR
       have HZ := Aside0.mk hgz
       have HBX := Aside0.mk hbox
       have HL := Aside0.mk (show (q.length + 1) * 1 ≤ 140737488355328 by omega)
       have a1 := own_lit W33 W33.heap.size 5 .u8 [IntKind.u8.wrap m] (Nat.le_refl _) (by simp)
       have HW := Aside0.mk (show Kd.C (Kd.int .u8) (W33.alloc (.cells #[.int .u8 (IntKind.u8.wrap m)] 5)) (some ⟨W33.heap.size, 0, none⟩) 1 [IntKind.u8.wrap m] from (Kd.R_reads' (Kd.R_of_own (enc := Value.int .u8) (h1 := fun _ => rfl) (xs := [IntKind.u8.wrap m]) (ok := fun _ => True) a1 (fun _ _ => trivial))).2.2)
       have zq : ∀ o, (W33.alloc o).cell? ⟨gp, 0, none⟩ = some (.slice Ap q.length cp) := fun o => (blk_cell (blk_alloc hbox o) 0).trans rfl
       have zqd : ∀ o, (W33.alloc o).drew.cell? ⟨gp, 0, none⟩ = some (.slice Ap q.length cp) := zq
       have zD : W33.drew.cell? ⟨gp, 0, none⟩ = some (.slice Ap q.length cp) := zp
       have y3 : ∀ o, (W33.alloc o).cell? ⟨gN, 3, none⟩ = some (.int .i64 m) := fun o => (blk_cell (blk_alloc BN.out o) 3).trans rfl
       have y3d : ∀ o, (W33.alloc o).drew.cell? ⟨gN, 3, none⟩ = some (.int .i64 m) := y3
       have zD3 : W33.drew.cell? ⟨gN, 3, none⟩ = some (.int .i64 m) := n3
       clear hR hgz hbox a1 n0 n1 n2 n4 n5 n6 n7
       go_region_law (first | (refine Kd.R_append_rows_step (Kd.int .u8) (w0 := W3) W3.heap.size (by rfl) (.tmp 72) (.tmp 76) 22 5 (.int .u8 0) 1 rfl Tryd.underlying22 info5 rfl (by decide) (by omega) (.slice Ap q.length cp) q [IntKind.u8.wrap m] (some ⟨W33.heap.size, 0, none⟩) 1 1 (fun _ => True) (fun _ => False) (by simp [Act.eval, Act.put]) (by simp [Act.eval, Act.put]) ?aO ?aR (fun _ _ h => h) (fun _ h => h.elim) (fun _ _ => trivial) ?aB ?aS HL.out ?_; (case aO => repeat (first | exact HR.out | refine Kd.R_drew ?_ | refine Kd.R_alloc ?_ _)); (case aR => repeat (first | exact HW.out | refine Kd.C_drew ?_)); (case aB => repeat (first | exact PKs.out.be | apply below_drew1 | apply below_alloc)); (case aS => exact below_size (by repeat (first | exact PKs.out.be | apply below_drew1 | apply below_alloc))); intro v1 w6 ho hb hg hat; obtain ⟨A1, c1', rfl⟩ := Kd.R_slice ho; have hgA := HZ.out w6 (grown_pre (by repeat (first | exact Below.refl _ _ | apply below_drew1 | apply below_alloc)) hg); have ho' := Aside0.mk ho; have hb' := Aside0.mk hb; have hg' := Aside0.mk (grown_pre (W := W33) (by repeat (first | exact Below.refl _ _ | apply below_drew1 | apply below_alloc)) hg); have hx' := Aside0.mk hgA.1; have y0 := hgA.2.1; have y1 := hgA.2.2; clear ho hb hg hat hgA))
       all_goals
        go_wp2_with fail
        go_meet
       all_goals
        have hput := PKs.out.put hx'.out ho'.out hb'.out
        have eL : (q ++ [IntKind.u8.wrap m]).length = q.length + 1 := by simp
        rw [eL] at hput
        have hbx := blk_grown BS.out hg'.out (Kd.R_ne HR.out BS.out (by decide))
        have hbn := blk_grown BN.out hg'.out (Kd.R_ne HR.out BN.out (by decide))
        exact ⟨⟨hput⟩, ⟨(Below.heap_setCell w6 ⟨gp, 0, none⟩ _ w.heap.size HGN.out).trans hbx⟩, ⟨(Below.heap_setCell w6 ⟨gp, 0, none⟩ _ gN HNP.out).trans hbn⟩⟩
      case rest =>
       clear PKs BS BN n0 n1 n2 n3 n4 n5 n6 n7
       obtain ⟨PKs, BS, BN⟩ := hcut
       rw [u8_wrap] at PKs
       rw [← HQ.out] at PKs
       clear HQ hlq
       obtain ⟨xq, hxq⟩ : ∃ xq, x ++ textB l0 ++ textB l1 ++ varN o ++ [m % 256] = xq := ⟨_, rfl⟩
       have hlq : xq.length ≤ 100000000 - 100 := by rw [← hxq]; have h0 := textB_length l0; have h1 := textB_length l1; have h2 := varN_length o; have h3 := varN_length (l4.length : Int); have h4 := flat_varN_le l4; (try simp only [List.length_append, List.length_singleton, List.length_cons, List.length_nil]); omega
       rw [hxq] at PKs
       obtain ⟨s0, s1, s2, s3, s4, s5⟩ := cells6 BS.out
       obtain ⟨n0, n1, n2, n3, n4, n5, n6, n7⟩ := cells8 BN.out
       have hu := HU4.out
       go_wp2_with fail
       refine (packer_numbers W3 _ gp (xq) (some ⟨_, 0, none⟩) 1 [(l4.length : Int)] _ (fun _ => True) (PKs.out.alloc _) (litN _ [(l4.length : Int)] (by simp)) (by intro z hz; rw [List.mem_singleton.1 hz]; exact ⟨by omega, by omega⟩) (by simp only [List.length_singleton, List.length_cons, List.length_nil]; omega)).mono ?_
       rintro r W41 ⟨rfl, hp, hk⟩
       clear s0 s1 s2 s3 s4 s5 n0 n1 n2 n3 n4 n5 n6 n7
       replace BS := Aside0.mk (hk.box (blk_alloc BS.out _) HGN.out (by decide))
       replace BN := Aside0.mk (hk.box (blk_alloc BN.out _) HNP.out (by decide))
       replace PKs := Aside0.mk (show PK W3 W41 gp (xq ++ (varN (l4.length : Int))) from by simpa only [List.flatMap_cons, List.flatMap_nil, List.append_nil, List.nil_append, List.append_assoc] using hp)
       clear hp hk
       rw [← hxq] at PKs
       clear hxq hlq
       obtain ⟨xq, hxq⟩ : ∃ xq, x ++ textB l0 ++ textB l1 ++ varN o ++ [m % 256] ++ varN (l4.length : Int) = xq := ⟨_, rfl⟩
       have hlq : xq.length + 10 * l4.length ≤ 100000000 - 100 := by rw [← hxq]; have h0 := textB_length l0; have h1 := textB_length l1; have h2 := varN_length o; have h3 := varN_length (l4.length : Int); have h4 := flat_varN_le l4; (try simp only [List.length_append, List.length_singleton, List.length_cons, List.length_nil]); omega
       rw [hxq] at PKs
       obtain ⟨n0, n1, n2, n3, n4, n5, n6, n7⟩ := cells8 BN.out
       go_wp2_with fail
       refine (packer_numbers W3 _ gp xq C4 k4 l4 _ _ PKs.out (Kd.R_below HI4.out PKs.out.be) HRN.out.1.2 (by omega)).mono ?_
       rintro r W45 ⟨rfl, hp, hk⟩
       clear n0 n1 n2 n3 n4 n5 n6 n7
       replace BS := Aside0.mk (hk.box BS.out HGN.out (by decide))
       replace BN := Aside0.mk (hk.box BN.out HNP.out (by decide))
       replace PKs := Aside0.mk (show PK W3 W45 gp (xq ++ l4.flatMap varN) from hp)
       rw [← hxq] at PKs
       clear hp hk hxq hlq
       obtain ⟨xq, hxq⟩ : ∃ xq, x ++ textB l0 ++ textB l1 ++ varN o ++ [m % 256] ++ varN (l4.length : Int) ++ l4.flatMap varN = xq := ⟨_, rfl⟩
       have hlq : xq.length ≤ 100000000 - 100 := by rw [← hxq]; have h0 := textB_length l0; have h1 := textB_length l1; have h2 := varN_length o; have h3 := varN_length (l4.length : Int); have h4 := flat_varN_le l4; (try simp only [List.length_append, List.length_singleton, List.length_cons, List.length_nil]); omega
       rw [hxq] at PKs
       obtain ⟨s0, s1, s2, s3, s4, s5⟩ := cells6 BS.out
       obtain ⟨n0, n1, n2, n3, n4, n5, n6, n7⟩ := cells8 BN.out
       go_wp2_with fail
       refine (packer_numbers W3 _ gp (xq) (some ⟨_, 0, none⟩) 2 [ep, ge] _ (fun _ => True) (PKs.out.alloc _) (litN _ [ep, ge] (by simp)) (by intro z hz; simp only [List.mem_cons, List.not_mem_nil, or_false] at hz; rcases hz with rfl | rfl; exact HRN.out.2.1.1; exact HRN.out.2.1.2) (by simp only [List.length_singleton, List.length_cons, List.length_nil]; omega)).mono ?_
       rintro r W46 ⟨rfl, hp, hk⟩
       clear s0 s1 s2 s3 s4 s5 n0 n1 n2 n3 n4 n5 n6 n7
       replace BS := Aside0.mk (hk.box (blk_alloc BS.out _) HGN.out (by decide))
       replace BN := Aside0.mk (hk.box (blk_alloc BN.out _) HNP.out (by decide))
       replace PKs := Aside0.mk (show PK W3 W46 gp (xq ++ (varN ep ++ varN ge)) from by simpa only [List.flatMap_cons, List.flatMap_nil, List.append_nil, List.nil_append, List.append_assoc] using hp)
       clear hp hk
       rw [← hxq] at PKs
       clear hxq hlq
       have hfin : x ++ textB l0 ++ textB l1 ++ varN o ++ [m % 256] ++ varN (l4.length : Int) ++ l4.flatMap varN ++ (varN ep ++ varN ge) = encMid e g n X N.length ++ (N.take (i2 + 1)).flatMap encNo := by
        rw [HT.out, ← HXE.out]
        simp only [encNo, List.append_assoc]
       rw [hfin] at PKs
       clear hfin
       have hj2 := HJ.out
       obtain ⟨k1, rfl⟩ : ∃ k1, gk = k1 + 1 := ⟨gk - 1, by omega⟩
       go_wp2_with fail
       go_roundg k1
       case measure => omega
       case rel => exact ⟨i2 + 1, by go_num, ⟨⟨by omega, by omega⟩⟩, PKs, BS⟩
     ·
      have c1b : decide ((i2 : Int) < (N.length : Int)) = false := decide_eq_false (by omega)
      obtain rfl : i2 = N.length := by omega
      rw [List.take_length] at PKs
      obtain ⟨Ap, cp, hbox, hR, zp, fp, hgz⟩ := PKs.out.open_
      have HR := Aside0.mk hR
      have HBE := Aside0.mk PKs.out.be
      clear hR hgz hbox fp
      have hen : encMid e g n X N.length ++ N.flatMap encNo = encF e g n t xs ns := HF.out.symm
      rw [hen] at HR zp
      clear hen PKs
      go_wp2_with fail
      go_ret
      have hbw : Below w.heap.size w wr := below_step hB3.out HBE.out
      exact ⟨Ap, cp, rfl, ⟨Kd.R_tight rfl (Kd.R_lower HR.out (Nat.le_trans HB0.out.size HGQ.out)), fun k hk => ⟨Nat.le_trans HGQ.out (Kd.R_base HR.out k hk.symm), Kd.R_lt HR.out k hk.symm⟩⟩, hbw⟩
def bytes_Equal.f (l0 : List Int) (l1 : List Int) : Option (Bool) := some ((strOfNums l0).toList == (strOfNums l1).toList)
set_option maxHeartbeats 8000000 in
set_option maxRecDepth 100000 in
theorem bytes_Equal.calls (A0 : Option Addr) (c0 : Nat) (l0 : List Int) (A1 : Option Addr) (c1 : Nat) (l1 : List Int) (r : Bool) (w : World) (hr0 : Kd.C (Kd.int .u8) w A0 l0.length l0) (hc0 : l0.length ≤ c0) (hr1 : Kd.C (Kd.int .u8) w A1 l1.length l1) (hc1 : l1.length ≤ c1) (h : bytes_Equal.f l0 l1 = some r) :
  Calls Tryd.prog 72 #[.slice A0 l0.length c0, .slice A1 l1.length c1] w fun e w' => e = .returned (.bool r) ∧ Drawn0 w w' := by
 have HR0 := Aside0.mk hr0
 have HC0 := Aside0.mk hc0
 clear hr0 hc0
 have HR1 := Aside0.mk hr1
 have HC1 := Aside0.mk hc1
 clear hr1 hc1
 have H : (some ((strOfNums l0).toList == (strOfNums l1).toList)) = some r := h
 clear h
 obtain rfl := Option.some.inj H
 have hcv3 := Kd.C_string (P := Tryd.prog) (A := A0) (c := c0) Tryd.underlying22 Tryd.underlying5 Tryd.underlying9 HR0.out
 have hcv4 := Kd.C_string (P := Tryd.prog) (A := A1) (c := c1) Tryd.underlying22 Tryd.underlying5 Tryd.underlying9 HR1.out
 go_enter Tryd.func72, Tryd.ntmps72
 go_wp2
 go_ret
 exact ⟨by first | rfl | (simp; done) | (simp [*]; done), by repeat (first | exact Drawn0.refl _ | apply Drawn0.step)⟩
end Go.Proofs.YtbgbocdohadhoaaDoor.Print
