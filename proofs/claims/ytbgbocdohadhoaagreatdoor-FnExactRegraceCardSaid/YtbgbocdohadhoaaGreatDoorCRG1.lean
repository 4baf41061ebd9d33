/- Texts of this session, joined by its own program. -/
import Derived.WalkSpells
import Derived.Test.YtbgbocdohadhoaaGreatDoorCRG0
namespace Go.Proofs.YtbgbocdohadhoaaGreatDoor.Print
open Go Go.RowKit Go.Proofs.YtbgbocdohadhoaaGreatDoorW.PrintWords Go.Proofs.YtbgbocdohadhoaaGreatDoorW.PrintLast Go.Proofs.YtbgbocdohadhoaaGreatDoorW.PrintMore
set_option linter.unusedVariables false
set_option linter.unusedSimpArgs false
section
attribute [local go_sem] max2_int max_two
set_option linter.unusedVariables false
set_option linter.unusedSimpArgs false
def laws_toUint64S.l0 : Nat → List Int → List Int → Int → Option (List Int)
 | 0, _, _, _ => none
 | k + 1, x0, x3, x4 => if x4 < (x0.length : Int) then (if 0 ≤ x4 then (if x4 < (x3.length : Int) then (laws_toUint64S.l0 k x0 (x3.set (x4 : Int).toNat (rd x0 x4)) (wrap64 (x4 + 1))) else (none)) else (none)) else (some x3)
def laws_toUint64S.f (k : Nat) (l0 : List Int) : Option (List Int) := if 0 ≤ (l0.length : Int) then (if ((l0.length : Int) : Int).toNat ≤ 35184372088832 then (laws_toUint64S.l0 k l0 (List.replicate ((l0.length : Int) : Int).toNat 0) 0) else (none)) else (none)
set_option maxHeartbeats 8000000 in
set_option maxRecDepth 100000 in
theorem laws_toUint64S.calls (k : Nat) (A0 : Option Addr) (c0 : Nat) (l0 : List Int) (r : List Int) (w : World) (hr0 : Kd.C (Kd.int .u64) w A0 l0.length l0) (hc0 : l0.length ≤ c0) (h : laws_toUint64S.f k l0 = some r) :
  Calls Tryz.prog 131 #[.slice A0 l0.length c0] w fun e w' => ∃ v0_ : Value, e = .returned (v0_) ∧ Kd.R (Kd.int .u64) 22 w' w.heap.size (fun _ => True) v0_ r ∧ Below w.heap.size w w' := by
 have HR0 := Aside0.mk hr0
 have HC0 := Aside0.mk hc0
 clear hr0 hc0
 have HB := Aside0.mk (Below.refl w.heap.size w)
 have H : (if 0 ≤ (l0.length : Int) then (if ((l0.length : Int) : Int).toNat ≤ 35184372088832 then (laws_toUint64S.l0 k l0 (List.replicate ((l0.length : Int) : Int).toNat 0) 0) else (none)) else (none)) = some r := h
 clear h
 by_cases c2 : 0 ≤ (l0.length : Int)
 ·
  rw [if_pos c2] at H
  have c2b0 := eq_true c2
  have c2b1 : decide (0 ≤ (l0.length : Int)) = true := decide_eq_true c2
  clear c2
  by_cases c3 : ((l0.length : Int) : Int).toNat ≤ 35184372088832
  ·
   rw [if_pos c3] at H
   have c3b0 := eq_true c3
   have c3b1 : decide (((l0.length : Int) : Int).toNat ≤ 35184372088832) = true := decide_eq_true c3
   clear c3
   obtain ⟨y265, hy265⟩ : ∃ y_ : List Int, y_ = (List.replicate ((l0.length : Int) : Int).toNat 0) := ⟨_, rfl⟩
   replace H : (laws_toUint64S.l0 k l0 y265 0) = some r := by first | (rw [hy265]; with_reducible exact H) | (have H2_ := (Option.bind_some _ _).symm.trans H; rw [hy265]; with_reducible exact H2_) | (have H2_ := (Option.bind_some _ _).symm.trans H; with_reducible exact H2_) | with_reducible exact H | (rw [hy265]; exact H) | exact H
   have Ny265 := Aside0.mk hy265
   clear hy265
   have H' := Aside0.mk H
   clear H
   go_enter Tryz.func131, Tryz.ntmps131
   go_wp2_with (first | ((with_reducible refine gate_dst (N := 7) rfl ?_); refine Kd.R_make (Kd.int .u64) _ 22 rfl (N := 7) rfl 91 _ _ rfl (l0.length : Int) rfl rfl Tryz.underlying91 (.int .u64 0) 8 info22 rfl (by decide) (by omega) 0 (ok := fun _ => True) (okp := fun _ => True) rfl (fun _ hk => hk) trivial (of_decide_eq_true (by first | (with_reducible assumption) | assumption)) (Nat.le_trans (Nat.mul_le_mul_right _ (of_decide_eq_true (by first | (with_reducible assumption) | assumption) : (l0.length : Int).toNat ≤ 35184372088832)) (by omega)) (Below.refl _ _) (Nat.le_refl _) ?_; intro v266 w4 ho5 hb hg_ hnew_; clear hg_ hnew_; (first | rw [← Ny265.out] at ho5 | (simp only [Int.reduceToNat] at ho5; rw [← Ny265.out] at ho5)); have n0_ := Aside0.mk (Kd.R_lower ho5 (below_size (by repeat (first | (with_reducible first | exact HB.out | apply below_alloc | apply pw_below_drewN | apply below_drew1) | exact HB.out)))); have n1_ := Aside0.mk (below_step (by repeat (first | (with_reducible first | exact HB.out | apply below_alloc | apply pw_below_drewN | apply below_drew1) | exact HB.out)) hb); clear HB; have HO267 := n0_; have HB := n1_; clear n0_ n1_; clear hb ho5))
   go_loopg [4] k (fun kq v4 w' => ∃ (x3_1 : List Int) (x4_1 : Int), v4 = .int .i64 x4_1 ∧ Aside0 (laws_toUint64S.l0 kq l0 x3_1 x4_1 = some r) ∧ Aside0 (kq ≤ k) ∧ Aside0 (Kd.R (Kd.int .u64) 22 w' w.heap.size (fun _ => True) v266 x3_1) ∧ Aside0 (Below w.heap.size w w'))
   case atStart => exact ⟨(y265), (0), (by first | rfl | (simp; done) | (simp [*]; done)), H', ⟨Nat.le_refl _⟩, ⟨by (with_reducible repeat (first | apply Kd.R_alloc | apply Kd.R_drewN | apply Kd.R_drew)); exact HO267.out⟩, ⟨by repeat (first | (with_reducible first | exact HB.out | apply below_alloc | apply pw_below_drewN | apply below_drew1) | exact HB.out)⟩⟩
   case round =>
    clear H'
    try clear c1
    try clear c2
    try clear c2b0
    try clear c2b1
    try clear p2
    try clear c3
    try clear c3b0
    try clear c3b1
    obtain ⟨x3_1, x4_1, rfl, HA, HK1, HO_3, HB⟩ := hrel
    cases gk with
    | zero => exact absurd HA.out (by simp [laws_toUint64S.l0])
    | succ k1 =>
     have H := HA.out
     clear HA
     simp only [laws_toUint64S.l0] at H
     by_cases c6 : x4_1 < (l0.length : Int)
     ·
      rw [if_pos c6] at H
      have c6b0 : decide (x4_1 < (l0.length : Int)) = true := decide_eq_true c6
      clear c6
      by_cases c7 : 0 ≤ x4_1
      ·
       rw [if_pos c7] at H
       have c7b0 : decide (0 ≤ x4_1) = true := decide_eq_true c7
       clear c7
       by_cases c8 : x4_1 < (x3_1.length : Int)
       ·
        rw [if_pos c8] at H
        have c8b0 : decide (x4_1 < (x3_1.length : Int)) = true := decide_eq_true c8
        clear c8
        obtain ⟨y269, hy269⟩ : ∃ y_ : List Int, y_ = (x3_1.set (x4_1 : Int).toNat (rd l0 x4_1)) := ⟨_, rfl⟩
        replace H : (laws_toUint64S.l0 k1 l0 y269 (wrap64 (x4_1 + 1))) = some r := by first | (rw [hy269]; with_reducible exact H) | (have H2_ := (Option.bind_some _ _).symm.trans H; rw [hy269]; with_reducible exact H2_) | (have H2_ := (Option.bind_some _ _).symm.trans H; with_reducible exact H2_) | with_reducible exact H | (rw [hy269]; exact H) | exact H
        have Ny269 := Aside0.mk hy269
        clear hy269
        have H' := Aside0.mk H
        clear H
        have p268 : 0 ≤ (x4_1 : Int) := of_decide_eq_true (by first | (with_reducible assumption) | assumption)
        have q268 : x4_1 < (l0.length : Int) := of_decide_eq_true (by first | (with_reducible assumption) | assumption)
        obtain ⟨ad268, e268, hx268_0⟩ := Kd.at_int HR0.out x4_1 p268 q268
        cases e268
        replace hx268_0 := (HB.out.cell (World.block_lt_of_cell? w _ hx268_0)).trans hx268_0
        replace p268 := eq_true p268
        replace q268 := eq_true q268
        have p9 : 0 ≤ (x4_1 : Int) := of_decide_eq_true (by first | (with_reducible assumption) | assumption)
        have q9 : (x4_1 : Int) < ((x3_1.length : Int) : Int) := of_decide_eq_true (by first | (with_reducible assumption) | assumption)
        obtain ⟨go9, co9, eo9, gb9, gl9, cl9, HG9⟩ := Kd.R_form HO_3.out (by omega)
        (first | cases eo9 | (injection eo9 with ea_ en_ ec_; (first | subst ea_ | (injection ea_ with ea_; subst ea_)); subst ec_; clear en_))
        have GB9 := Aside0.mk gb9
        have GG9 := Aside0.mk HG9
        clear gb9 gl9 HG9
        obtain ⟨hx9_0, hf9_0⟩ := Kd.R_celln 0 HO_3.out (x4_1 : Int) p9 q9
        replace p9 := eq_true p9
        replace q9 := eq_true q9
        have HP10 := Kd.R_putg HO_3.out (x4_1 : Int) (rd l0 x4_1)
        go_wp2_with (first | ((with_reducible refine gate_store (t := 22) (p := 20) rfl ?_); refine store_event (t := 22) (p := 20) (v := ?vo_w11) (w1 := (wr.setCell ⟨go9, (x4_1 : Int).toNat, none⟩ (.int .u64 (rd l0 x4_1)))) ?hg ?ho ?hn ?hr ?_; (case ho => rfl); (case hg => rfl); (case hn => rfl); (case hr => first | (go_simp; done) | (go_simp; rfl)); intro w11 hw; have hg : wr.grownBy w11 (some go9) := (by rw [hw]; exact HP10.2); have hp_ : Kd.R (Kd.int .u64) 22 w11 w.heap.size (fun _ => True) (.slice (some ⟨go9, 0, none⟩) x3_1.length co9) y269 := (by rw [hw, Ny269.out]; exact HP10.1); clear HP10; have n0_ := Aside0.mk (hp_); have n1_ := Aside0.mk ((by rw [hw]; exact below_set (HB.out) GB9.out : Below w.heap.size w w11)); clear HO_3; clear HB; have HO_3 := n0_; have HB := n1_; clear n0_ n1_; clear hg hw hp_))
        go_roundg k1
        case measure => have := HK1.out; omega
        case rel => exact ⟨(y269), (wrap64 (x4_1 + 1)), (by first | rfl | (simp; done) | (simp [*]; done)), H', ⟨by have := HK1.out; omega⟩, ⟨by (with_reducible repeat (first | apply Kd.R_alloc | apply Kd.R_drewN | apply Kd.R_drew)); exact HO_3.out⟩, ⟨by repeat (first | (with_reducible first | exact HB.out | apply below_alloc | apply pw_below_drewN | apply below_drew1) | exact HB.out)⟩⟩
       ·
        rw [if_neg c8] at H
        exact absurd H (by simp)
      ·
       rw [if_neg c7] at H
       exact absurd H (by simp)
     ·
      rw [if_neg c6] at H
      have c6b0 : decide (x4_1 < (l0.length : Int)) = false := decide_eq_false c6
      clear c6
      obtain rfl := Option.some.inj H
      go_wp2
      go_ret
      exact ⟨_, by first | rfl | (simp [errW_none, errW_some] <;> rfl) | (simp [*, errW_none, errW_some] <;> rfl), by (with_reducible repeat (first | apply Kd.R_alloc | apply Kd.R_drewN | apply Kd.R_drew)); exact HO_3.out, by repeat (first | (with_reducible first | exact HB.out | apply below_alloc | apply pw_below_drewN | apply below_drew1) | exact HB.out)⟩
  ·
   rw [if_neg c3] at H
   exact absurd H (by simp)
 ·
  rw [if_neg c2] at H
  exact absurd H (by simp)
end
theorem toUint64S_loop (l : List Int) (hl : l.length ≤ 140737488351232) (d : Nat) : ∀ (k i : Nat) (x : List Int), x.length = l.length → i + d = l.length → d < k → (∀ j, j < i → x[j]? = l[j]?) → laws_toUint64S.l0 k l x (i : Int) = some l := by
 induction d with
 | zero =>
  intro k i x hx hi hk hj
  obtain ⟨k, rfl⟩ : ∃ m, k = m + 1 := ⟨k - 1, by omega⟩
  rw [laws_toUint64S.l0, if_neg (by omega)]
  congr 1
  apply List.ext_getElem?
  intro j
  rcases Nat.lt_or_ge j i with h | h
  ·
   exact hj j h
  ·
   rw [List.getElem?_eq_none (by omega), List.getElem?_eq_none (by omega)]
 | succ d ih =>
  intro k i x hx hi hk hj
  obtain ⟨k, rfl⟩ : ∃ m, k = m + 1 := ⟨k - 1, by omega⟩
  rw [laws_toUint64S.l0, if_pos (by omega), if_pos (by omega), if_pos (by omega), rd_nat, getD_at l i (by omega), wrap_up i (by omega), Int.toNat_natCast]
  refine ih k (i + 1) _ (by simp [hx]) (by omega) (by omega) (fun j hjj => ?_)
  by_cases e : j = i
  ·
   subst e
   rw [List.getElem?_set_self (by omega), List.getElem?_eq_getElem (by omega)]
  ·
   rw [List.getElem?_set_ne (fun q => e q.symm)]
   exact hj j (by omega)
theorem toUint64S_f (l : List Int) (hl : l.length ≤ 2097152) (k : Nat) (hk : l.length < k) : laws_toUint64S.f k l = some l := by
 unfold laws_toUint64S.f
 rw [if_pos (by omega), if_pos (by omega)]
 exact toUint64S_loop l (by omega) l.length k 0 _ (by simp) (by omega) hk (fun j hj => absurd hj (Nat.not_lt_zero _))
theorem toB_ok (A : Option Addr) (c : Nat) (l : List Int) (w : World) (h : Kd.C (Kd.int .u8) w A l.length l) (hc : l.length ≤ c) (hl : l.length ≤ 2097152) :
  Calls Tryz.prog 130 #[.slice A l.length c] w fun e w' => ∃ B d, e = .returned (.slice B l.length d) ∧ Kd.R (Kd.int .u8) 5 w' w.heap.size (fun _ => True) (.slice B l.length d) l ∧ Below w.heap.size w w' := by
 refine (laws_toByteS.calls 3000000 A c l l w h hc (toByteS_f l (by omega) 3000000 (by omega))).mono ?_
 rintro e w' ⟨v, rfl, hr, hb⟩
 obtain ⟨B, d, rfl⟩ := Kd.R_slice hr
 exact ⟨B, d, rfl, hr, hb⟩
theorem toU_ok (A : Option Addr) (c : Nat) (l : List Int) (w : World) (h : Kd.C (Kd.int .u64) w A l.length l) (hc : l.length ≤ c) (hl : l.length ≤ 2097152) :
  Calls Tryz.prog 131 #[.slice A l.length c] w fun e w' => ∃ B d, e = .returned (.slice B l.length d) ∧ Kd.R (Kd.int .u64) 22 w' w.heap.size (fun _ => True) (.slice B l.length d) l ∧ Below w.heap.size w w' := by
 refine (laws_toUint64S.calls 3000000 A c l l w h hc (toUint64S_f l hl 3000000 (by omega))).mono ?_
 rintro e w' ⟨v, rfl, hr, hb⟩
 obtain ⟨B, d, rfl⟩ := Kd.R_slice hr
 exact ⟨B, d, rfl, hr, hb⟩
theorem cell_far_ {w : World} {g j g' i : Nat} {x : Value} (h : w.cell? ⟨g, i, none⟩ = some x) (hne : g ≠ g') (v : Value) : (w.setCell ⟨g', j, none⟩ v).cell? ⟨g, i, none⟩ = some x := by
 exact (World.cell?_setCell_far w _ _ v (fun e => hne e.symm)).trans h
set_option maxHeartbeats 4000000 in
set_option maxRecDepth 100000 in
theorem toEvent_h (l0 : Int) (l1 : List Int) (A1 : Option Addr) (a1 : Nat) (w : World) (h1 : Kd.C (Kd.int .u8) w A1 l1.length l1) (k1 : l1.length ≤ a1) (z1 : l1.length ≤ 2097152) :
  Calls Tryz.prog 158 #[.agg #[.int .i64 l0, .slice A1 l1.length a1]] w fun r w' => ∃ (B1 : Option Addr) (b1 : Nat), r = .returned (.agg #[.int .i64 l0, .slice B1 l1.length b1]) ∧ Kd.R (Kd.int .u8) 5 w' w.heap.size (fun _ => True) (.slice B1 l1.length b1) l1 ∧ Below w.heap.size w w' := by
 have K1 := Aside0.mk (fun (W : World) (hW : Below w.heap.size w W) => toB_ok A1 a1 l1 W (Kd.C_below h1 hW) k1 z1)
 clear h1 k1 z1
 go_enter Tryz.func158, Tryz.ntmps158
 go_upto_region 2 with (fail)
 have bx := blk_alloc (blk_alloc (blk_new w (.cells #[.int .i64 l0, .slice A1 l1.length a1] 182)) (.cells #[.int .i64 0, .slice none 0 0] 153)) (.cells #[.int .i64 0, .slice none 0 0] 153)
 have bz := blk_alloc (blk_new (w.alloc (.cells #[.int .i64 l0, .slice A1 l1.length a1] 182)) (.cells #[.int .i64 0, .slice none 0 0] 153)) (.cells #[.int .i64 0, .slice none 0 0] 153)
 have bo := blk_new ((w.alloc (.cells #[.int .i64 l0, .slice A1 l1.length a1] 182)).alloc (.cells #[.int .i64 0, .slice none 0 0] 153)) (.cells #[.int .i64 0, .slice none 0 0] 153)
 have hB := below_alloc (below_alloc (below_alloc (Below.refl w.heap.size w) (.cells #[.int .i64 l0, .slice A1 l1.length a1] 182)) (.cells #[.int .i64 0, .slice none 0 0] 153)) (.cells #[.int .i64 0, .slice none 0 0] 153)
 simp only [World.size_alloc] at bz bo
 have hlt := blk_lt bo
 generalize ((w.alloc (.cells #[.int .i64 l0, .slice A1 l1.length a1] 182)).alloc (.cells #[.int .i64 0, .slice none 0 0] 153)).alloc (.cells #[.int .i64 0, .slice none 0 0] 153) = W0 at *
 have BX := Aside0.mk bx
 have BZ := Aside0.mk bz
 have BO := Aside0.mk bo
 have HB := Aside0.mk hB
 have S0 := Aside0.mk hlt
 clear bx bz bo hB hlt
 obtain ⟨x0, x1⟩ := cells2 BX.out
 obtain ⟨y0, y1⟩ := cells2 BO.out
 have fo := blk_frozen BO.out 0
 go_upto_region 3 with (fail)
 clear x0 y0 x1 y1 fo
 replace BO := Aside0.mk (blk_put (cs' := #[.int .i64 l0, .slice none 0 0]) BO.out 0 (.int .i64 l0) rfl)
 replace BX := Aside0.mk (blk_far BX.out (p := ⟨w.heap.size + 1 + 1, 0, none⟩) (show w.heap.size ≠ w.heap.size + 1 + 1 by omega) (.int .i64 l0))
 replace BZ := Aside0.mk (blk_far BZ.out (p := ⟨w.heap.size + 1 + 1, 0, none⟩) (show w.heap.size + 1 ≠ w.heap.size + 1 + 1 by omega) (.int .i64 l0))
 replace HB := Aside0.mk (below_set (g := w.heap.size + 1 + 1) (j := 0) (v := .int .i64 l0) HB.out (show w.heap.size ≤ w.heap.size + 1 + 1 by omega))
 have Q0 := Aside0.mk (show (W0.setCell ⟨w.heap.size + 1 + 1, 0, none⟩ (.int .i64 l0)).heap.size = W0.heap.size by simp [World.setCell])
 generalize W0.setCell ⟨w.heap.size + 1 + 1, 0, none⟩ (.int .i64 l0) = U0 at *
 obtain ⟨x0, x1⟩ := cells2 BX.out
 obtain ⟨y0, y1⟩ := cells2 BO.out
 have fo := blk_frozen BO.out 1
 go_wp2_with fail
 refine (K1.out _ HB.out).mono ?_
 rintro r V1 ⟨B1, b1, rfl, hr, hb⟩
 clear x0 y0 x1 y1 fo
 replace BX := Aside0.mk (blk_below BX.out hb)
 replace BZ := Aside0.mk (blk_below BZ.out hb)
 replace BO := Aside0.mk (blk_below BO.out hb)
 replace HB := Aside0.mk (below_step HB.out hb)
 have T1 := Aside0.mk hb.size
 have HR1 := Aside0.mk (Kd.R_mono (Kd.R_bound hr) (ok' := fun k => w.heap.size + 2 < k ∧ U0.heap.size ≤ k ∧ k < V1.heap.size) (fun k hk => ⟨by have := hk.2.1; have := S0.out; skip; have := Q0.out; omega, hk.2.1, hk.2.2.1⟩))
 clear hr hb
 have fo := blk_frozen BO.out 1
 obtain ⟨y0, y1⟩ := cells2 BO.out
 obtain ⟨z0, z1⟩ := cells2 BZ.out
 have f0 := blk_frozen BZ.out 0
 have q0 := cell_far_ z0 (show w.heap.size + 1 ≠ w.heap.size + 1 + 1 by omega) (.slice B1 l1.length b1) (j := 1)
 have f1 := blk_frozen BZ.out 1
 have q1 := cell_far_ z1 (show w.heap.size + 1 ≠ w.heap.size + 1 + 1 by omega) (.slice B1 l1.length b1) (j := 1)
 go_wp2_with fail
 refine bodyPost_ret (results_cell_row rfl _ _ (w.heap.size + 1) 153 #[.int .i64 l0, .slice B1 l1.length b1] (0, 0) _ rfl (by refine blk_put (cs := #[.int .i64 l0, .slice none 0 0]) ?_ 1 _ rfl; refine blk_put (cs := #[.int .i64 0, .slice none 0 0]) ?_ 0 _ rfl; refine blk_far ?_ (show w.heap.size + 1 ≠ w.heap.size + 1 + 1 by omega) _; exact BZ.out) Tryz.underlying153 rfl (by kernel_rfl)) rfl ?_
 refine ⟨B1, b1, rfl, ?_, by with_reducible repeat (first | exact HB.out | refine below_set ?_ (by omega))⟩
 refine Kd.R_mono (ok := fun k => w.heap.size + 2 < k ∧ U0.heap.size ≤ k ∧ k < V1.heap.size) (Kd.R_lower (base := U0.heap.size) ?_ (by have := S0.out; have := T1.out; have := Q0.out; omega)) (fun _ _ => trivial)
 repeat (first | with_reducible exact HR1.out | refine Kd.R_far ?_ (fun k hk => by have := hk.1; simp only [ne_eq]; omega) _)
set_option maxHeartbeats 4000000 in
set_option maxRecDepth 100000 in
theorem toNode_h (l0 : List Int) (l1 : List Int) (l2 : Int) (l3 : Int) (l4 : List Int) (l5 : Int) (l6 : Int) (l7 : List Int) (A0 : Option Addr) (a0 : Nat) (A1 : Option Addr) (a1 : Nat) (A4 : Option Addr) (a4 : Nat) (A7 : Option Addr) (a7 : Nat) (w : World) (h0 : Kd.C (Kd.int .u8) w A0 l0.length l0) (k0 : l0.length ≤ a0) (z0 : l0.length ≤ 2097152) (h1 : Kd.C (Kd.int .u8) w A1 l1.length l1) (k1 : l1.length ≤ a1) (z1 : l1.length ≤ 2097152) (h4 : Kd.C (Kd.int .u64) w A4 l4.length l4) (k4 : l4.length ≤ a4) (z4 : l4.length ≤ 2097152) (h7 : Kd.C (Kd.int .u64) w A7 l7.length l7) (k7 : l7.length ≤ a7) (z7 : l7.length ≤ 2097152) :
  Calls Tryz.prog 81 #[.agg #[.slice A0 l0.length a0, .slice A1 l1.length a1, .int .u64 l2, .int .i64 l3, .slice A4 l4.length a4, .int .u64 l5, .int .u64 l6, .slice A7 l7.length a7]] w fun r w' => ∃ (B0 : Option Addr) (b0 : Nat) (B1 : Option Addr) (b1 : Nat) (B4 : Option Addr) (b4 : Nat) (B7 : Option Addr) (b7 : Nat), r = .returned (.agg #[.slice B0 l0.length b0, .slice B1 l1.length b1, .int .u64 l2, .int .i64 l3, .slice B4 l4.length b4, .int .u64 l5, .int .u64 l6, .slice B7 l7.length b7]) ∧ aNo.M w' w.heap.size (fun _ => True) ⟨l0, l1, l2, l3, l4, l5, l6, l7⟩ [.slice B0 l0.length b0, .slice B1 l1.length b1, .int .u64 l2, .int .i64 l3, .slice B4 l4.length b4, .int .u64 l5, .int .u64 l6, .slice B7 l7.length b7] ∧ Below w.heap.size w w' := by
 have K0 := Aside0.mk (fun (W : World) (hW : Below w.heap.size w W) => toB_ok A0 a0 l0 W (Kd.C_below h0 hW) k0 z0)
 have K1 := Aside0.mk (fun (W : World) (hW : Below w.heap.size w W) => toB_ok A1 a1 l1 W (Kd.C_below h1 hW) k1 z1)
 have K4 := Aside0.mk (fun (W : World) (hW : Below w.heap.size w W) => toU_ok A4 a4 l4 W (Kd.C_below h4 hW) k4 z4)
 have K7 := Aside0.mk (fun (W : World) (hW : Below w.heap.size w W) => toU_ok A7 a7 l7 W (Kd.C_below h7 hW) k7 z7)
 clear h0 k0 z0 h1 k1 z1 h4 k4 z4 h7 k7 z7
 go_enter Tryz.func81, Tryz.ntmps81
 go_upto_region 2 with (fail)
 have bx := blk_alloc (blk_alloc (blk_new w (.cells #[.slice A0 l0.length a0, .slice A1 l1.length a1, .int .u64 l2, .int .i64 l3, .slice A4 l4.length a4, .int .u64 l5, .int .u64 l6, .slice A7 l7.length a7] 106)) (.cells #[.slice none 0 0, .slice none 0 0, .int .u64 0, .int .i64 0, .slice none 0 0, .int .u64 0, .int .u64 0, .slice none 0 0] 93)) (.cells #[.slice none 0 0, .slice none 0 0, .int .u64 0, .int .i64 0, .slice none 0 0, .int .u64 0, .int .u64 0, .slice none 0 0] 93)
 have bz := blk_alloc (blk_new (w.alloc (.cells #[.slice A0 l0.length a0, .slice A1 l1.length a1, .int .u64 l2, .int .i64 l3, .slice A4 l4.length a4, .int .u64 l5, .int .u64 l6, .slice A7 l7.length a7] 106)) (.cells #[.slice none 0 0, .slice none 0 0, .int .u64 0, .int .i64 0, .slice none 0 0, .int .u64 0, .int .u64 0, .slice none 0 0] 93)) (.cells #[.slice none 0 0, .slice none 0 0, .int .u64 0, .int .i64 0, .slice none 0 0, .int .u64 0, .int .u64 0, .slice none 0 0] 93)
 have bo := blk_new ((w.alloc (.cells #[.slice A0 l0.length a0, .slice A1 l1.length a1, .int .u64 l2, .int .i64 l3, .slice A4 l4.length a4, .int .u64 l5, .int .u64 l6, .slice A7 l7.length a7] 106)).alloc (.cells #[.slice none 0 0, .slice none 0 0, .int .u64 0, .int .i64 0, .slice none 0 0, .int .u64 0, .int .u64 0, .slice none 0 0] 93)) (.cells #[.slice none 0 0, .slice none 0 0, .int .u64 0, .int .i64 0, .slice none 0 0, .int .u64 0, .int .u64 0, .slice none 0 0] 93)
 have hB := below_alloc (below_alloc (below_alloc (Below.refl w.heap.size w) (.cells #[.slice A0 l0.length a0, .slice A1 l1.length a1, .int .u64 l2, .int .i64 l3, .slice A4 l4.length a4, .int .u64 l5, .int .u64 l6, .slice A7 l7.length a7] 106)) (.cells #[.slice none 0 0, .slice none 0 0, .int .u64 0, .int .i64 0, .slice none 0 0, .int .u64 0, .int .u64 0, .slice none 0 0] 93)) (.cells #[.slice none 0 0, .slice none 0 0, .int .u64 0, .int .i64 0, .slice none 0 0, .int .u64 0, .int .u64 0, .slice none 0 0] 93)
 simp only [World.size_alloc] at bz bo
 have hlt := blk_lt bo
 generalize ((w.alloc (.cells #[.slice A0 l0.length a0, .slice A1 l1.length a1, .int .u64 l2, .int .i64 l3, .slice A4 l4.length a4, .int .u64 l5, .int .u64 l6, .slice A7 l7.length a7] 106)).alloc (.cells #[.slice none 0 0, .slice none 0 0, .int .u64 0, .int .i64 0, .slice none 0 0, .int .u64 0, .int .u64 0, .slice none 0 0] 93)).alloc (.cells #[.slice none 0 0, .slice none 0 0, .int .u64 0, .int .i64 0, .slice none 0 0, .int .u64 0, .int .u64 0, .slice none 0 0] 93) = W0 at *
 have BX := Aside0.mk bx
 have BZ := Aside0.mk bz
 have BO := Aside0.mk bo
 have HB := Aside0.mk hB
 have S0 := Aside0.mk hlt
 clear bx bz bo hB hlt
 obtain ⟨x0, x1, x2, x3, x4, x5, x6, x7⟩ := cells8 BX.out
 obtain ⟨y0, y1, y2, y3, y4, y5, y6, y7⟩ := cells8 BO.out
 have fo := blk_frozen BO.out 0
 go_wp2_with fail
 refine (K0.out _ HB.out).mono ?_
 rintro r V0 ⟨B0, b0, rfl, hr, hb⟩
 clear x0 y0 x1 y1 x2 y2 x3 y3 x4 y4 x5 y5 x6 y6 x7 y7 fo
 replace BX := Aside0.mk (blk_below BX.out hb)
 replace BZ := Aside0.mk (blk_below BZ.out hb)
 replace BO := Aside0.mk (blk_below BO.out hb)
 replace HB := Aside0.mk (below_step HB.out hb)
 have T0 := Aside0.mk hb.size
 have HR0 := Aside0.mk (Kd.R_mono (Kd.R_bound hr) (ok' := fun k => w.heap.size + 2 < k ∧ W0.heap.size ≤ k ∧ k < V0.heap.size) (fun k hk => ⟨by have := hk.2.1; have := S0.out; skip; omega, hk.2.1, hk.2.2.1⟩))
 clear hr hb
 have fo := blk_frozen BO.out 0
 obtain ⟨y0, y1, y2, y3, y4, y5, y6, y7⟩ := cells8 BO.out
 go_upto_region 3 with (fail)
 clear fo y0 y1 y2 y3 y4 y5 y6 y7
 replace BO := Aside0.mk (blk_put (cs' := #[.slice B0 l0.length b0, .slice none 0 0, .int .u64 0, .int .i64 0, .slice none 0 0, .int .u64 0, .int .u64 0, .slice none 0 0]) BO.out 0 (.slice B0 l0.length b0) rfl)
 replace BX := Aside0.mk (blk_far BX.out (p := ⟨w.heap.size + 1 + 1, 0, none⟩) (show w.heap.size ≠ w.heap.size + 1 + 1 by omega) (.slice B0 l0.length b0))
 replace BZ := Aside0.mk (blk_far BZ.out (p := ⟨w.heap.size + 1 + 1, 0, none⟩) (show w.heap.size + 1 ≠ w.heap.size + 1 + 1 by omega) (.slice B0 l0.length b0))
 replace HB := Aside0.mk (below_set (g := w.heap.size + 1 + 1) (j := 0) (v := .slice B0 l0.length b0) HB.out (show w.heap.size ≤ w.heap.size + 1 + 1 by omega))
 replace HR0 := Aside0.mk (Kd.R_far (p := ⟨w.heap.size + 1 + 1, 0, none⟩) HR0.out (fun k hk => by have := hk.1; show k ≠ w.heap.size + 1 + 1; omega) (.slice B0 l0.length b0))
 have Q0 := Aside0.mk (show (V0.setCell ⟨w.heap.size + 1 + 1, 0, none⟩ (.slice B0 l0.length b0)).heap.size = V0.heap.size by simp [World.setCell])
 generalize V0.setCell ⟨w.heap.size + 1 + 1, 0, none⟩ (.slice B0 l0.length b0) = U0 at *
 obtain ⟨x0, x1, x2, x3, x4, x5, x6, x7⟩ := cells8 BX.out
 obtain ⟨y0, y1, y2, y3, y4, y5, y6, y7⟩ := cells8 BO.out
 have fo := blk_frozen BO.out 1
 go_wp2_with fail
 refine (K1.out _ HB.out).mono ?_
 rintro r V1 ⟨B1, b1, rfl, hr, hb⟩
 clear x0 y0 x1 y1 x2 y2 x3 y3 x4 y4 x5 y5 x6 y6 x7 y7 fo
 replace BX := Aside0.mk (blk_below BX.out hb)
 replace BZ := Aside0.mk (blk_below BZ.out hb)
 replace BO := Aside0.mk (blk_below BO.out hb)
 replace HB := Aside0.mk (below_step HB.out hb)
 have T1 := Aside0.mk hb.size
 have HR1 := Aside0.mk (Kd.R_mono (Kd.R_bound hr) (ok' := fun k => w.heap.size + 2 < k ∧ U0.heap.size ≤ k ∧ k < V1.heap.size) (fun k hk => ⟨by have := hk.2.1; have := S0.out; skip; have := T0.out; have := Q0.out; omega, hk.2.1, hk.2.2.1⟩))
 replace HR0 := Aside0.mk (Kd.R_below HR0.out hb)
 clear hr hb
 have fo := blk_frozen BO.out 1
 obtain ⟨y0, y1, y2, y3, y4, y5, y6, y7⟩ := cells8 BO.out
 go_upto_region 4 with (fail)
 clear fo y0 y1 y2 y3 y4 y5 y6 y7
 replace BO := Aside0.mk (blk_put (cs' := #[.slice B0 l0.length b0, .slice B1 l1.length b1, .int .u64 0, .int .i64 0, .slice none 0 0, .int .u64 0, .int .u64 0, .slice none 0 0]) BO.out 1 (.slice B1 l1.length b1) rfl)
 replace BX := Aside0.mk (blk_far BX.out (p := ⟨w.heap.size + 1 + 1, 1, none⟩) (show w.heap.size ≠ w.heap.size + 1 + 1 by omega) (.slice B1 l1.length b1))
 replace BZ := Aside0.mk (blk_far BZ.out (p := ⟨w.heap.size + 1 + 1, 1, none⟩) (show w.heap.size + 1 ≠ w.heap.size + 1 + 1 by omega) (.slice B1 l1.length b1))
 replace HB := Aside0.mk (below_set (g := w.heap.size + 1 + 1) (j := 1) (v := .slice B1 l1.length b1) HB.out (show w.heap.size ≤ w.heap.size + 1 + 1 by omega))
 replace HR0 := Aside0.mk (Kd.R_far (p := ⟨w.heap.size + 1 + 1, 1, none⟩) HR0.out (fun k hk => by have := hk.1; show k ≠ w.heap.size + 1 + 1; omega) (.slice B1 l1.length b1))
 replace HR1 := Aside0.mk (Kd.R_far (p := ⟨w.heap.size + 1 + 1, 1, none⟩) HR1.out (fun k hk => by have := hk.1; show k ≠ w.heap.size + 1 + 1; omega) (.slice B1 l1.length b1))
 have Q1 := Aside0.mk (show (V1.setCell ⟨w.heap.size + 1 + 1, 1, none⟩ (.slice B1 l1.length b1)).heap.size = V1.heap.size by simp [World.setCell])
 generalize V1.setCell ⟨w.heap.size + 1 + 1, 1, none⟩ (.slice B1 l1.length b1) = U1 at *
 obtain ⟨x0, x1, x2, x3, x4, x5, x6, x7⟩ := cells8 BX.out
 obtain ⟨y0, y1, y2, y3, y4, y5, y6, y7⟩ := cells8 BO.out
 have fo := blk_frozen BO.out 2
 go_upto_region 5 with (fail)
 clear x0 y0 x1 y1 x2 y2 x3 y3 x4 y4 x5 y5 x6 y6 x7 y7 fo
 replace BO := Aside0.mk (blk_put (cs' := #[.slice B0 l0.length b0, .slice B1 l1.length b1, .int .u64 l2, .int .i64 0, .slice none 0 0, .int .u64 0, .int .u64 0, .slice none 0 0]) BO.out 2 (.int .u64 l2) rfl)
 replace BX := Aside0.mk (blk_far BX.out (p := ⟨w.heap.size + 1 + 1, 2, none⟩) (show w.heap.size ≠ w.heap.size + 1 + 1 by omega) (.int .u64 l2))
 replace BZ := Aside0.mk (blk_far BZ.out (p := ⟨w.heap.size + 1 + 1, 2, none⟩) (show w.heap.size + 1 ≠ w.heap.size + 1 + 1 by omega) (.int .u64 l2))
 replace HB := Aside0.mk (below_set (g := w.heap.size + 1 + 1) (j := 2) (v := .int .u64 l2) HB.out (show w.heap.size ≤ w.heap.size + 1 + 1 by omega))
 replace HR0 := Aside0.mk (Kd.R_far (p := ⟨w.heap.size + 1 + 1, 2, none⟩) HR0.out (fun k hk => by have := hk.1; show k ≠ w.heap.size + 1 + 1; omega) (.int .u64 l2))
 replace HR1 := Aside0.mk (Kd.R_far (p := ⟨w.heap.size + 1 + 1, 2, none⟩) HR1.out (fun k hk => by have := hk.1; show k ≠ w.heap.size + 1 + 1; omega) (.int .u64 l2))
 have Q2 := Aside0.mk (show (U1.setCell ⟨w.heap.size + 1 + 1, 2, none⟩ (.int .u64 l2)).heap.size = U1.heap.size by simp [World.setCell])
 generalize U1.setCell ⟨w.heap.size + 1 + 1, 2, none⟩ (.int .u64 l2) = U2 at *
 obtain ⟨x0, x1, x2, x3, x4, x5, x6, x7⟩ := cells8 BX.out
 obtain ⟨y0, y1, y2, y3, y4, y5, y6, y7⟩ := cells8 BO.out
 have fo := blk_frozen BO.out 3
 go_upto_region 6 with (fail)
 clear x0 y0 x1 y1 x2 y2 x3 y3 x4 y4 x5 y5 x6 y6 x7 y7 fo
 replace BO := Aside0.mk (blk_put (cs' := #[.slice B0 l0.length b0, .slice B1 l1.length b1, .int .u64 l2, .int .i64 l3, .slice none 0 0, .int .u64 0, .int .u64 0, .slice none 0 0]) BO.out 3 (.int .i64 l3) rfl)
 replace BX := Aside0.mk (blk_far BX.out (p := ⟨w.heap.size + 1 + 1, 3, none⟩) (show w.heap.size ≠ w.heap.size + 1 + 1 by omega) (.int .i64 l3))
 replace BZ := Aside0.mk (blk_far BZ.out (p := ⟨w.heap.size + 1 + 1, 3, none⟩) (show w.heap.size + 1 ≠ w.heap.size + 1 + 1 by omega) (.int .i64 l3))
 replace HB := Aside0.mk (below_set (g := w.heap.size + 1 + 1) (j := 3) (v := .int .i64 l3) HB.out (show w.heap.size ≤ w.heap.size + 1 + 1 by omega))
 replace HR0 := Aside0.mk (Kd.R_far (p := ⟨w.heap.size + 1 + 1, 3, none⟩) HR0.out (fun k hk => by have := hk.1; show k ≠ w.heap.size + 1 + 1; omega) (.int .i64 l3))
 replace HR1 := Aside0.mk (Kd.R_far (p := ⟨w.heap.size + 1 + 1, 3, none⟩) HR1.out (fun k hk => by have := hk.1; show k ≠ w.heap.size + 1 + 1; omega) (.int .i64 l3))
 have Q3 := Aside0.mk (show (U2.setCell ⟨w.heap.size + 1 + 1, 3, none⟩ (.int .i64 l3)).heap.size = U2.heap.size by simp [World.setCell])
 generalize U2.setCell ⟨w.heap.size + 1 + 1, 3, none⟩ (.int .i64 l3) = U3 at *
 obtain ⟨x0, x1, x2, x3, x4, x5, x6, x7⟩ := cells8 BX.out
 obtain ⟨y0, y1, y2, y3, y4, y5, y6, y7⟩ := cells8 BO.out
 have fo := blk_frozen BO.out 4
 go_wp2_with fail
 refine (K4.out _ HB.out).mono ?_
 rintro r V4 ⟨B4, b4, rfl, hr, hb⟩
 clear x0 y0 x1 y1 x2 y2 x3 y3 x4 y4 x5 y5 x6 y6 x7 y7 fo
 replace BX := Aside0.mk (blk_below BX.out hb)
 replace BZ := Aside0.mk (blk_below BZ.out hb)
 replace BO := Aside0.mk (blk_below BO.out hb)
 replace HB := Aside0.mk (below_step HB.out hb)
 have T4 := Aside0.mk hb.size
 have HR4 := Aside0.mk (Kd.R_mono (Kd.R_bound hr) (ok' := fun k => w.heap.size + 2 < k ∧ U3.heap.size ≤ k ∧ k < V4.heap.size) (fun k hk => ⟨by have := hk.2.1; have := S0.out; skip; have := T0.out; have := T1.out; have := Q0.out; have := Q1.out; have := Q2.out; have := Q3.out; omega, hk.2.1, hk.2.2.1⟩))
 replace HR0 := Aside0.mk (Kd.R_below HR0.out hb)
 replace HR1 := Aside0.mk (Kd.R_below HR1.out hb)
 clear hr hb
 have fo := blk_frozen BO.out 4
 obtain ⟨y0, y1, y2, y3, y4, y5, y6, y7⟩ := cells8 BO.out
 go_upto_region 7 with (fail)
 clear fo y0 y1 y2 y3 y4 y5 y6 y7
 replace BO := Aside0.mk (blk_put (cs' := #[.slice B0 l0.length b0, .slice B1 l1.length b1, .int .u64 l2, .int .i64 l3, .slice B4 l4.length b4, .int .u64 0, .int .u64 0, .slice none 0 0]) BO.out 4 (.slice B4 l4.length b4) rfl)
 replace BX := Aside0.mk (blk_far BX.out (p := ⟨w.heap.size + 1 + 1, 4, none⟩) (show w.heap.size ≠ w.heap.size + 1 + 1 by omega) (.slice B4 l4.length b4))
 replace BZ := Aside0.mk (blk_far BZ.out (p := ⟨w.heap.size + 1 + 1, 4, none⟩) (show w.heap.size + 1 ≠ w.heap.size + 1 + 1 by omega) (.slice B4 l4.length b4))
 replace HB := Aside0.mk (below_set (g := w.heap.size + 1 + 1) (j := 4) (v := .slice B4 l4.length b4) HB.out (show w.heap.size ≤ w.heap.size + 1 + 1 by omega))
 replace HR0 := Aside0.mk (Kd.R_far (p := ⟨w.heap.size + 1 + 1, 4, none⟩) HR0.out (fun k hk => by have := hk.1; show k ≠ w.heap.size + 1 + 1; omega) (.slice B4 l4.length b4))
 replace HR1 := Aside0.mk (Kd.R_far (p := ⟨w.heap.size + 1 + 1, 4, none⟩) HR1.out (fun k hk => by have := hk.1; show k ≠ w.heap.size + 1 + 1; omega) (.slice B4 l4.length b4))
 replace HR4 := Aside0.mk (Kd.R_far (p := ⟨w.heap.size + 1 + 1, 4, none⟩) HR4.out (fun k hk => by have := hk.1; show k ≠ w.heap.size + 1 + 1; omega) (.slice B4 l4.length b4))
 have Q4 := Aside0.mk (show (V4.setCell ⟨w.heap.size + 1 + 1, 4, none⟩ (.slice B4 l4.length b4)).heap.size = V4.heap.size by simp [World.setCell])
 generalize V4.setCell ⟨w.heap.size + 1 + 1, 4, none⟩ (.slice B4 l4.length b4) = U4 at *
 obtain ⟨x0, x1, x2, x3, x4, x5, x6, x7⟩ := cells8 BX.out
 obtain ⟨y0, y1, y2, y3, y4, y5, y6, y7⟩ := cells8 BO.out
 have fo := blk_frozen BO.out 5
 go_upto_region 8 with (fail)
 clear x0 y0 x1 y1 x2 y2 x3 y3 x4 y4 x5 y5 x6 y6 x7 y7 fo
 replace BO := Aside0.mk (blk_put (cs' := #[.slice B0 l0.length b0, .slice B1 l1.length b1, .int .u64 l2, .int .i64 l3, .slice B4 l4.length b4, .int .u64 l5, .int .u64 0, .slice none 0 0]) BO.out 5 (.int .u64 l5) rfl)
 replace BX := Aside0.mk (blk_far BX.out (p := ⟨w.heap.size + 1 + 1, 5, none⟩) (show w.heap.size ≠ w.heap.size + 1 + 1 by omega) (.int .u64 l5))
 replace BZ := Aside0.mk (blk_far BZ.out (p := ⟨w.heap.size + 1 + 1, 5, none⟩) (show w.heap.size + 1 ≠ w.heap.size + 1 + 1 by omega) (.int .u64 l5))
 replace HB := Aside0.mk (below_set (g := w.heap.size + 1 + 1) (j := 5) (v := .int .u64 l5) HB.out (show w.heap.size ≤ w.heap.size + 1 + 1 by omega))
 replace HR0 := Aside0.mk (Kd.R_far (p := ⟨w.heap.size + 1 + 1, 5, none⟩) HR0.out (fun k hk => by have := hk.1; show k ≠ w.heap.size + 1 + 1; omega) (.int .u64 l5))
 replace HR1 := Aside0.mk (Kd.R_far (p := ⟨w.heap.size + 1 + 1, 5, none⟩) HR1.out (fun k hk => by have := hk.1; show k ≠ w.heap.size + 1 + 1; omega) (.int .u64 l5))
 replace HR4 := Aside0.mk (Kd.R_far (p := ⟨w.heap.size + 1 + 1, 5, none⟩) HR4.out (fun k hk => by have := hk.1; show k ≠ w.heap.size + 1 + 1; omega) (.int .u64 l5))
 have Q5 := Aside0.mk (show (U4.setCell ⟨w.heap.size + 1 + 1, 5, none⟩ (.int .u64 l5)).heap.size = U4.heap.size by simp [World.setCell])
 generalize U4.setCell ⟨w.heap.size + 1 + 1, 5, none⟩ (.int .u64 l5) = U5 at *
 obtain ⟨x0, x1, x2, x3, x4, x5, x6, x7⟩ := cells8 BX.out
 obtain ⟨y0, y1, y2, y3, y4, y5, y6, y7⟩ := cells8 BO.out
 have fo := blk_frozen BO.out 6
 go_upto_region 9 with (fail)
 clear x0 y0 x1 y1 x2 y2 x3 y3 x4 y4 x5 y5 x6 y6 x7 y7 fo
 replace BO := Aside0.mk (blk_put (cs' := #[.slice B0 l0.length b0, .slice B1 l1.length b1, .int .u64 l2, .int .i64 l3, .slice B4 l4.length b4, .int .u64 l5, .int .u64 l6, .slice none 0 0]) BO.out 6 (.int .u64 l6) rfl)
 replace BX := Aside0.mk (blk_far BX.out (p := ⟨w.heap.size + 1 + 1, 6, none⟩) (show w.heap.size ≠ w.heap.size + 1 + 1 by omega) (.int .u64 l6))
 replace BZ := Aside0.mk (blk_far BZ.out (p := ⟨w.heap.size + 1 + 1, 6, none⟩) (show w.heap.size + 1 ≠ w.heap.size + 1 + 1 by omega) (.int .u64 l6))
 replace HB := Aside0.mk (below_set (g := w.heap.size + 1 + 1) (j := 6) (v := .int .u64 l6) HB.out (show w.heap.size ≤ w.heap.size + 1 + 1 by omega))
 replace HR0 := Aside0.mk (Kd.R_far (p := ⟨w.heap.size + 1 + 1, 6, none⟩) HR0.out (fun k hk => by have := hk.1; show k ≠ w.heap.size + 1 + 1; omega) (.int .u64 l6))
 replace HR1 := Aside0.mk (Kd.R_far (p := ⟨w.heap.size + 1 + 1, 6, none⟩) HR1.out (fun k hk => by have := hk.1; show k ≠ w.heap.size + 1 + 1; omega) (.int .u64 l6))
 replace HR4 := Aside0.mk (Kd.R_far (p := ⟨w.heap.size + 1 + 1, 6, none⟩) HR4.out (fun k hk => by have := hk.1; show k ≠ w.heap.size + 1 + 1; omega) (.int .u64 l6))
 have Q6 := Aside0.mk (show (U5.setCell ⟨w.heap.size + 1 + 1, 6, none⟩ (.int .u64 l6)).heap.size = U5.heap.size by simp [World.setCell])
 generalize U5.setCell ⟨w.heap.size + 1 + 1, 6, none⟩ (.int .u64 l6) = U6 at *
 obtain ⟨x0, x1, x2, x3, x4, x5, x6, x7⟩ := cells8 BX.out
 obtain ⟨y0, y1, y2, y3, y4, y5, y6, y7⟩ := cells8 BO.out
 have fo := blk_frozen BO.out 7
 go_wp2_with fail
 refine (K7.out _ HB.out).mono ?_
 rintro r V7 ⟨B7, b7, rfl, hr, hb⟩
 clear x0 y0 x1 y1 x2 y2 x3 y3 x4 y4 x5 y5 x6 y6 x7 y7 fo
 replace BX := Aside0.mk (blk_below BX.out hb)
 replace BZ := Aside0.mk (blk_below BZ.out hb)
 replace BO := Aside0.mk (blk_below BO.out hb)
 replace HB := Aside0.mk (below_step HB.out hb)
 have T7 := Aside0.mk hb.size
 have HR7 := Aside0.mk (Kd.R_mono (Kd.R_bound hr) (ok' := fun k => w.heap.size + 2 < k ∧ U6.heap.size ≤ k ∧ k < V7.heap.size) (fun k hk => ⟨by have := hk.2.1; have := S0.out; skip; have := T0.out; have := T1.out; have := T4.out; have := Q0.out; have := Q1.out; have := Q2.out; have := Q3.out; have := Q4.out; have := Q5.out; have := Q6.out; omega, hk.2.1, hk.2.2.1⟩))
 replace HR0 := Aside0.mk (Kd.R_below HR0.out hb)
 replace HR1 := Aside0.mk (Kd.R_below HR1.out hb)
 replace HR4 := Aside0.mk (Kd.R_below HR4.out hb)
 clear hr hb
 have fo := blk_frozen BO.out 7
 obtain ⟨y0, y1, y2, y3, y4, y5, y6, y7⟩ := cells8 BO.out
 obtain ⟨z0, z1, z2, z3, z4, z5, z6, z7⟩ := cells8 BZ.out
 have f0 := blk_frozen BZ.out 0
 have q0 := cell_far_ z0 (show w.heap.size + 1 ≠ w.heap.size + 1 + 1 by omega) (.slice B7 l7.length b7) (j := 7)
 have f1 := blk_frozen BZ.out 1
 have q1 := cell_far_ z1 (show w.heap.size + 1 ≠ w.heap.size + 1 + 1 by omega) (.slice B7 l7.length b7) (j := 7)
 have f2 := blk_frozen BZ.out 2
 have q2 := cell_far_ z2 (show w.heap.size + 1 ≠ w.heap.size + 1 + 1 by omega) (.slice B7 l7.length b7) (j := 7)
 have f3 := blk_frozen BZ.out 3
 have q3 := cell_far_ z3 (show w.heap.size + 1 ≠ w.heap.size + 1 + 1 by omega) (.slice B7 l7.length b7) (j := 7)
 have f4 := blk_frozen BZ.out 4
 have q4 := cell_far_ z4 (show w.heap.size + 1 ≠ w.heap.size + 1 + 1 by omega) (.slice B7 l7.length b7) (j := 7)
 have f5 := blk_frozen BZ.out 5
 have q5 := cell_far_ z5 (show w.heap.size + 1 ≠ w.heap.size + 1 + 1 by omega) (.slice B7 l7.length b7) (j := 7)
 have f6 := blk_frozen BZ.out 6
 have q6 := cell_far_ z6 (show w.heap.size + 1 ≠ w.heap.size + 1 + 1 by omega) (.slice B7 l7.length b7) (j := 7)
 have f7 := blk_frozen BZ.out 7
 have q7 := cell_far_ z7 (show w.heap.size + 1 ≠ w.heap.size + 1 + 1 by omega) (.slice B7 l7.length b7) (j := 7)
 go_wp2_with fail
 refine bodyPost_ret (results_cell_row rfl _ _ (w.heap.size + 1) 93 #[.slice B0 l0.length b0, .slice B1 l1.length b1, .int .u64 l2, .int .i64 l3, .slice B4 l4.length b4, .int .u64 l5, .int .u64 l6, .slice B7 l7.length b7] (0, 0) _ rfl (by refine blk_put (cs := #[.slice B0 l0.length b0, .slice B1 l1.length b1, .int .u64 l2, .int .i64 l3, .slice B4 l4.length b4, .int .u64 l5, .int .u64 l6, .slice none 0 0]) ?_ 7 _ rfl; refine blk_put (cs := #[.slice B0 l0.length b0, .slice B1 l1.length b1, .int .u64 l2, .int .i64 l3, .slice B4 l4.length b4, .int .u64 l5, .int .u64 0, .slice none 0 0]) ?_ 6 _ rfl; refine blk_put (cs := #[.slice B0 l0.length b0, .slice B1 l1.length b1, .int .u64 l2, .int .i64 l3, .slice B4 l4.length b4, .int .u64 0, .int .u64 0, .slice none 0 0]) ?_ 5 _ rfl; refine blk_put (cs := #[.slice B0 l0.length b0, .slice B1 l1.length b1, .int .u64 l2, .int .i64 l3, .slice none 0 0, .int .u64 0, .int .u64 0, .slice none 0 0]) ?_ 4 _ rfl; refine blk_put (cs := #[.slice B0 l0.length b0, .slice B1 l1.length b1, .int .u64 l2, .int .i64 0, .slice none 0 0, .int .u64 0, .int .u64 0, .slice none 0 0]) ?_ 3 _ rfl; refine blk_put (cs := #[.slice B0 l0.length b0, .slice B1 l1.length b1, .int .u64 0, .int .i64 0, .slice none 0 0, .int .u64 0, .int .u64 0, .slice none 0 0]) ?_ 2 _ rfl; refine blk_put (cs := #[.slice B0 l0.length b0, .slice none 0 0, .int .u64 0, .int .i64 0, .slice none 0 0, .int .u64 0, .int .u64 0, .slice none 0 0]) ?_ 1 _ rfl; refine blk_put (cs := #[.slice none 0 0, .slice none 0 0, .int .u64 0, .int .i64 0, .slice none 0 0, .int .u64 0, .int .u64 0, .slice none 0 0]) ?_ 0 _ rfl; refine blk_far ?_ (show w.heap.size + 1 ≠ w.heap.size + 1 + 1 by omega) _; exact BZ.out) Tryz.underlying93 rfl (by kernel_rfl)) rfl ?_
 refine ⟨B0, b0, B1, b1, B4, b4, B7, b7, rfl, ?_, by with_reducible repeat (first | exact HB.out | refine below_set ?_ (by omega))⟩
 refine aNo_mkp _ _ _ ⟨l0, l1, l2, l3, l4, l5, l6, l7⟩ (fun k => k < V0.heap.size) (fun k => k < V1.heap.size) (fun k => k < V4.heap.size) ?_ ?_ ?_ ?_
 ·
  refine Kd.R_mono (ok := fun k => w.heap.size + 2 < k ∧ W0.heap.size ≤ k ∧ k < V0.heap.size) (Kd.R_lower (base := W0.heap.size) ?_ (by have := S0.out; have := T0.out; have := T1.out; have := T4.out; have := T7.out; have := Q0.out; have := Q1.out; have := Q2.out; have := Q3.out; have := Q4.out; have := Q5.out; have := Q6.out; omega)) (fun k hk => by have := S0.out; have := T0.out; have := T1.out; have := T4.out; have := T7.out; have := Q0.out; have := Q1.out; have := Q2.out; have := Q3.out; have := Q4.out; have := Q5.out; have := Q6.out; simp only [true_and]; omega)
  repeat (first | with_reducible exact HR0.out | refine Kd.R_far ?_ (fun k hk => by have := hk.1; simp only [ne_eq]; omega) _)
 ·
  refine Kd.R_mono (ok := fun k => w.heap.size + 2 < k ∧ U0.heap.size ≤ k ∧ k < V1.heap.size) (Kd.R_lower (base := U0.heap.size) ?_ (by have := S0.out; have := T0.out; have := T1.out; have := T4.out; have := T7.out; have := Q0.out; have := Q1.out; have := Q2.out; have := Q3.out; have := Q4.out; have := Q5.out; have := Q6.out; omega)) (fun k hk => by have := S0.out; have := T0.out; have := T1.out; have := T4.out; have := T7.out; have := Q0.out; have := Q1.out; have := Q2.out; have := Q3.out; have := Q4.out; have := Q5.out; have := Q6.out; simp only [true_and]; omega)
  repeat (first | with_reducible exact HR1.out | refine Kd.R_far ?_ (fun k hk => by have := hk.1; simp only [ne_eq]; omega) _)
 ·
  refine Kd.R_mono (ok := fun k => w.heap.size + 2 < k ∧ U3.heap.size ≤ k ∧ k < V4.heap.size) (Kd.R_lower (base := U3.heap.size) ?_ (by have := S0.out; have := T0.out; have := T1.out; have := T4.out; have := T7.out; have := Q0.out; have := Q1.out; have := Q2.out; have := Q3.out; have := Q4.out; have := Q5.out; have := Q6.out; omega)) (fun k hk => by have := S0.out; have := T0.out; have := T1.out; have := T4.out; have := T7.out; have := Q0.out; have := Q1.out; have := Q2.out; have := Q3.out; have := Q4.out; have := Q5.out; have := Q6.out; simp only [true_and]; omega)
  repeat (first | with_reducible exact HR4.out | refine Kd.R_far ?_ (fun k hk => by have := hk.1; simp only [ne_eq]; omega) _)
 ·
  refine Kd.R_mono (ok := fun k => w.heap.size + 2 < k ∧ U6.heap.size ≤ k ∧ k < V7.heap.size) (Kd.R_lower (base := U6.heap.size) ?_ (by have := S0.out; have := T0.out; have := T1.out; have := T4.out; have := T7.out; have := Q0.out; have := Q1.out; have := Q2.out; have := Q3.out; have := Q4.out; have := Q5.out; have := Q6.out; omega)) (fun k hk => by have := S0.out; have := T0.out; have := T1.out; have := T4.out; have := T7.out; have := Q0.out; have := Q1.out; have := Q2.out; have := Q3.out; have := Q4.out; have := Q5.out; have := Q6.out; simp only [true_and]; omega)
  repeat (first | with_reducible exact HR7.out | refine Kd.R_far ?_ (fun k hk => by have := hk.1; simp only [ne_eq]; omega) _)
def toEv (x : EvL) : Ev := ⟨x.f0, x.f1⟩
def toSe (x : SeL) : Se := ⟨x.f0, x.f1, x.f2.map toEv⟩
def toNo (x : NoL) : No := ⟨x.f0, x.f1, x.f2, x.f3, x.f4, x.f5, x.f6, x.f7⟩
theorem row_next {α β : Type} (f : α → β) (z : β) (xs : List α) (i : Nat) (h : i < xs.length) : ((xs.take i).map f ++ List.replicate (xs.length - i) z).set i (f xs[i]) = (xs.take (i + 1)).map f ++ List.replicate (xs.length - (i + 1)) z := by
 have hl : ((xs.take i).map f).length = i := by simp; omega
 obtain ⟨m, hm⟩ : ∃ m, xs.length - i = m + 1 := ⟨xs.length - i - 1, by omega⟩
 rw [List.set_append_right _ _ (by omega), hl, Nat.sub_self, hm, List.replicate_succ, List.set_cons_zero, List.take_succ_eq_append_getElem h, List.map_append, List.append_assoc, show xs.length - (i + 1) = m by omega]
 rfl
theorem row_len {α β : Type} (f : α → β) (z : β) (xs : List α) (i : Nat) (h : i ≤ xs.length) : ((xs.take i).map f ++ List.replicate (xs.length - i) z).length = xs.length := by simp; omega
set_option maxHeartbeats 4000000 in
set_option maxRecDepth 100000 in
theorem toEventS_ok (A : Option Addr) (c : Nat) (xs : List EvL) (w : World) (h : Kd.C kEvL w A xs.length xs) (hc : xs.length ≤ c) (hl : xs.length ≤ 2097152) (hs : ∀ x ∈ xs, x.f1.length ≤ 2097152) :
  Calls Tryz.prog 129 #[.slice A xs.length c] w fun e w' => ∃ B d, e = .returned (.slice B xs.length d) ∧ Kd.S kEv 153 w' w.heap.size (fun _ => True) (.slice B xs.length d) (xs.map toEv) ∧ Below w.heap.size w w' := by
 have HR := Aside0.mk h
 have HSZ := Aside0.mk hs
 have HL := Aside0.mk (And.intro hc hl)
 have hn0 : (0 : Int) ≤ (xs.length : Int) := by omega
 have hn1 : (xs.length : Int).toNat * 32 ≤ 281474976710656 := by omega
 clear h hs hc hl
 go_enter Tryz.func129, Tryz.ntmps129
 go_wp2_with (first | ((with_reducible refine gate_dst (N := 7) rfl ?_); refine Kd.S_make kEv _ 153 rfl (N := 7) rfl 88 _ _ rfl (xs.length : Int) rfl rfl Tryz.underlying88 (.agg #[(.int .i64 0), (.slice none 0 0)]) 32 info153 rfl (by decide) (by omega) z153 (ok := fun _ => True) (okp := fun _ => True) (k153_mkM _ _ _ z153 (Kd.R_nil _ _ _ _ _)) (fun _ hk => hk) trivial hn0 hn1 (Below.refl _ _) (Nat.le_refl _) ?_; intro v w4 hS hb hg_ hnew_; obtain ⟨B, d, rfl⟩ := Kd.S_slice hS; have HS := Aside0.mk hS; have HB := Aside0.mk hb; clear hS hb hg_ hnew_))
 rw [List.length_replicate, Int.toNat_natCast] at *
 clear hn0 hn1
 go_loopg [4] (xs.length + 1) (fun kq v4 w' => ∃ i : Nat, v4 = .int .i64 i ∧ Aside0 (kq + i = xs.length + 1 ∧ i ≤ xs.length) ∧ Aside0 (Kd.S kEv 153 w' w.heap.size (fun _ => True) (.slice B xs.length d) ((xs.take i).map toEv ++ List.replicate (xs.length - i) z153)) ∧ Aside0 (Below w.heap.size w w'))
 case atStart => exact ⟨0, rfl, ⟨⟨by omega, by omega⟩⟩, by simpa using HS, HB⟩
 case round =>
  clear HS HB
  obtain ⟨i, rfl, HJ, HS, HB⟩ := hrel
  have hj0 := HJ.out
  have hl2 := HL.out.2
  by_cases hj : i < xs.length
  ·
   have c1 : decide ((i : Int) < (xs.length : Int)) = true := decide_eq_true (by omega)
   have ci : (0 : Int) ≤ (i : Int) := by omega
   have ci2 : (i : Int) < (xs.length : Int) := by omega
   have hlen := row_len toEv z153 xs i (by omega)
   have HNX := Aside0.mk (row_next toEv z153 xs i hj)
   generalize hY : (xs.take i).map toEv ++ List.replicate (xs.length - i) z153 = ys at HS hlen HNX
   clear hY
   obtain ⟨g, cap, eB, gb, gl, _⟩ := Kd.S_form (show Kd.S kEv 153 wr w.heap.size (fun _ => True) (.slice B ys.length d) ys by rw [hlen]; exact HS.out) (by omega)
   injection eB with eB _ eC
   subst eB
   subst eC
   obtain ⟨oki, cc, hcl, hM, hcc, hfr, hoki, hH⟩ := Kd.S_elem HS.out z153 (i : Int) (by omega) (by omega)
   obtain ⟨ad, A1, c1_, eA, hx0, hx1, hl1, hi1⟩ := at_T182 HR.out (i : Int) (by omega) (by omega)
   have ex : rd_T182 xs (i : Int) = xs[i] := by unfold rd_T182; rw [Int.toNat_natCast, List.getD_eq_getElem?_getD, List.getElem?_eq_getElem hj]; rfl
   rw [ex] at hx0 hx1 hl1 hi1
   cases eA
   have hlt := HB.out
   replace hx0 := (HB.out.cell (World.block_lt_of_cell? w _ hx0)).trans hx0
   replace hx1 := (HB.out.cell (World.block_lt_of_cell? w _ hx1)).trans hx1
   rw [Int.toNat_natCast] at hx0 hx1
   have HI1 := Aside0.mk (And.intro hi1 hl1)
   have hsx := HSZ.out xs[i] (List.getElem_mem hj)
   have hcall := toEvent_h xs[i].f0 xs[i].f1 A1 c1_ wr (Kd.C_below HI1.out.1 HB.out) HI1.out.2 hsx
   have HCALL := Aside0.mk hcall
   clear hcall hsx
   go_wp2_with fail
   refine HCALL.out.mono ?_
   rintro e w2 ⟨B1, d1, rfl, hv1, hb2⟩
   have HV1 := Aside0.mk hv1
   clear HCALL hv1
   have hH2 := Kd.H_below (Kd.H_widen hH) hb2
   obtain ⟨oki2, cc2, hcl2, hM2_, hcc2, hfr2, hoki2, _⟩ := Kd.S_elem (Kd.S_below HS.out hb2) z153 (i : Int) (by omega) (by omega)
   obtain ⟨y0, y1, rfl⟩ : ∃ y0 y1, cc2 = [y0, y1] := by
    match cc2, hcl2 with
    | [y0, y1], _ => exact ⟨y0, y1, rfl⟩
   have z0 := hcc2 0 _ rfl
   have f0 := hfr2 0
   rw [show (i : Int).toNat * kEv.sz + 0 = i * 2 + 0 by rw [Int.toNat_natCast]; rfl] at z0 f0
   have z1 := hcc2 1 _ rfl
   have f1 := hfr2 1
   rw [show (i : Int).toNat * kEv.sz + 1 = i * 2 + 1 by rw [Int.toNat_natCast]; rfl] at z1 f1
   rw [Nat.add_zero] at z0 f0
   have hseg := (Kd.H_seg hH2 (by omega) (by omega) (seg := [Value.int .i64 xs[i].f0, Value.slice B1 xs[i].f1.length d1]) (j := 0) (show 0 + 2 ≤ 2 by omega) (by intro q hq; simp only [List.mem_cons, List.not_mem_nil, or_false] at hq; rcases hq with rfl | rfl <;> rfl)).1
   have hcc0 : cc.take 0 ++ [Value.int .i64 xs[i].f0, Value.slice B1 xs[i].f1.length d1] ++ cc.drop (0 + [Value.int .i64 xs[i].f0, Value.slice B1 xs[i].f1.length d1].length) = [Value.int .i64 xs[i].f0, Value.slice B1 xs[i].f1.length d1] := by rw [List.drop_eq_nil_of_le (by rw [hcl]; exact Nat.le_of_eq rfl)]; rfl
   rw [hcc0] at hseg
   rw [show (i : Int).toNat * kEv.sz + 0 = i * 2 by rw [Int.toNat_natCast]; rfl] at hseg
   have HSEG := Aside0.mk hseg
   have HB2 := Aside0.mk (below_step HB.out hb2)
   have HG := Aside0.mk (And.intro gb (And.intro gl HB.out.size))
   clear hseg hH hH2 hM hM2_ hcc hcc2 hfr hfr2 hoki hoki2 hcl hcl2 hcc0 HB HS hb2 hlen
   obtain ⟨k1, rfl⟩ : ∃ k1, gk = k1 + 1 := ⟨gk - 1, by omega⟩
   go_wp2_with fail
   go_roundg k1
   case measure => omega
   case rel =>
    refine ⟨i + 1, by go_num, ⟨⟨by omega, by omega⟩⟩, ⟨?_⟩, ⟨by with_reducible repeat (first | exact HB2.out | refine below_set ?_ (by have := HG.out.1; omega))⟩⟩
    have hb := Kd.H_back HSEG.out (x' := toEv xs[i]) (k153_mkM _ _ _ (toEv xs[i]) (Kd.R_far (p := ⟨g, i * 2 + 1, none⟩) (Kd.R_far (p := ⟨g, i * 2, none⟩) (Kd.R_lower (Kd.R_mono (Kd.R_bound HV1.out) (fun k hk => hk.2.1)) HG.out.2.2) (fun k hk => Nat.ne_of_gt (Nat.lt_of_lt_of_le HG.out.2.1 hk)) _) (fun k hk => Nat.ne_of_gt (Nat.lt_of_lt_of_le HG.out.2.1 hk)) _)) (fun k hk => .inr ⟨trivial, hk⟩)
    rw [Int.toNat_natCast, HNX.out] at hb
    exact hb
  ·
   have c1 : decide ((i : Int) < (xs.length : Int)) = false := decide_eq_false (by omega)
   obtain rfl : i = xs.length := by omega
   go_wp2_with fail
   go_ret
   refine ⟨B, d, rfl, ?_, HB.out⟩
   have := HS.out
   rwa [List.take_length, Nat.sub_self, List.replicate_zero, List.append_nil] at this
set_option maxHeartbeats 4000000 in
set_option maxRecDepth 100000 in
theorem toSession_ok (a0 a1 : Int) (A : Option Addr) (c : Nat) (xs : List EvL) (w : World) (h : Kd.C kEvL w A xs.length xs) (hc : xs.length ≤ c) (hl : xs.length ≤ 2097152) (hs : ∀ x ∈ xs, x.f1.length ≤ 2097152) :
  Calls Tryz.prog 80 #[.agg #[.int .u64 a0, .int .i64 a1, .slice A xs.length c]] w fun e w' => ∃ B d, e = .returned (.agg #[.int .u64 a0, .int .i64 a1, .slice B xs.length d]) ∧ Kd.S kEv tEv w' w.heap.size (fun _ => True) (.slice B xs.length d) (xs.map toEv) ∧ Below w.heap.size w w' := by
 have HR := Aside0.mk h
 have HSZ := Aside0.mk hs
 have HL := Aside0.mk (And.intro hc hl)
 clear h hs hc hl
 go_enter Tryz.func80, Tryz.ntmps80
 go_wp2_with fail
 have b1 := blk_new (w.alloc (.cells #[.int .u64 a0, .int .i64 a1, .slice A xs.length c] 104)) (.cells #[.int .u64 0, .int .i64 0, .slice none 0 0] 90)
 have b2 := blk_new ((w.alloc (.cells #[.int .u64 a0, .int .i64 a1, .slice A xs.length c] 104)).alloc (.cells #[.int .u64 0, .int .i64 0, .slice none 0 0] 90)) (.cells #[.int .u64 a0, .int .i64 a1, .slice none 0 0] 90)
 replace b1 := blk_alloc b1 (.cells #[.int .u64 a0, .int .i64 a1, .slice none 0 0] 90)
 have hB := below_alloc (below_alloc (below_alloc (Below.refl w.heap.size w) (.cells #[.int .u64 a0, .int .i64 a1, .slice A xs.length c] 104)) (.cells #[.int .u64 0, .int .i64 0, .slice none 0 0] 90)) (.cells #[.int .u64 a0, .int .i64 a1, .slice none 0 0] 90)
 simp only [World.size_alloc] at b1 b2
 generalize (((w.alloc (.cells #[.int .u64 a0, .int .i64 a1, .slice A xs.length c] 104)).alloc (.cells #[.int .u64 0, .int .i64 0, .slice none 0 0] 90)).alloc (.cells #[.int .u64 a0, .int .i64 a1, .slice none 0 0] 90)) = W at *
 have hz2 := blk_lt b2
 refine (toEventS_ok A c xs W (Kd.C_below HR.out hB) HL.out.1 HL.out.2 HSZ.out).mono ?_
 rintro e w2 ⟨B, d, rfl, hS, hb⟩
 have BR := Aside0.mk (blk_below b1 hb)
 have BO := Aside0.mk (blk_below b2 hb)
 have HB := Aside0.mk (below_step hB hb)
 have HS := Aside0.mk hS
 have HZ := Aside0.mk hz2
 clear b1 b2 hb hB hS hz2
 have z0 := blk_cell BO.out 0
 have z1 := blk_cell BO.out 1
 have z2 := blk_cell BO.out 2
 have x0 := blk_cell BR.out 0
 have x1 := blk_cell BR.out 1
 have x2 := blk_cell BR.out 2
 simp only [List.getElem?_toArray, List.getElem?_cons_zero, List.getElem?_cons_succ] at z0 z1 z2 x0 x1 x2
 have f0 := blk_frozen BR.out 0
 have f1 := blk_frozen BR.out 1
 have f2 := blk_frozen BR.out 2
 have g2 := blk_frozen BO.out 2
 have q0 := cell_far_ x0 (show w.heap.size + 1 ≠ w.heap.size + 1 + 1 by omega) (.slice B xs.length d) (j := 2)
 have q1 := cell_far_ x1 (show w.heap.size + 1 ≠ w.heap.size + 1 + 1 by omega) (.slice B xs.length d) (j := 2)
 have q2 := cell_far_ x2 (show w.heap.size + 1 ≠ w.heap.size + 1 + 1 by omega) (.slice B xs.length d) (j := 2)
 go_wp2_with fail
 refine bodyPost_ret (results_cell_row rfl _ _ (w.heap.size + 1) 90 #[.int .u64 a0, .int .i64 a1, .slice B xs.length d] (0, 0) _ rfl (by refine blk_put (cs := #[.int .u64 a0, .int .i64 a1, .slice none 0 0]) ?_ 2 _ rfl; refine blk_put (cs := #[.int .u64 a0, .int .i64 0, .slice none 0 0]) ?_ 1 _ rfl; refine blk_put (cs := #[.int .u64 0, .int .i64 0, .slice none 0 0]) ?_ 0 _ rfl; refine blk_far ?_ (show w.heap.size + 1 ≠ w.heap.size + 1 + 1 by omega) _; exact BR.out) Tryz.underlying90 rfl (by kernel_rfl)) rfl ?_
 have hz := HZ.out
 refine ⟨B, d, rfl, ?_, by with_reducible repeat (first | exact HB.out | refine below_set ?_ (by omega))⟩
 refine Kd.S_lower (base := W.heap.size) (Kd.S_mono (ok := fun k => W.heap.size ≤ k) ?_ (fun _ _ => trivial)) (by omega)
 refine Kd.S_far (p := ⟨w.heap.size + 1, 2, none⟩) ?_ (fun k hk => by show k ≠ w.heap.size + 1; omega) _
 refine Kd.S_far (p := ⟨w.heap.size + 1, 1, none⟩) ?_ (fun k hk => by show k ≠ w.heap.size + 1; omega) _
 refine Kd.S_far (p := ⟨w.heap.size + 1, 0, none⟩) ?_ (fun k hk => by show k ≠ w.heap.size + 1; omega) _
 refine Kd.S_far (p := ⟨w.heap.size + 1 + 1, 2, none⟩) ?_ (fun k hk => by show k ≠ w.heap.size + 1 + 1; omega) _
 exact Kd.S_mono (Kd.S_bound HS.out) (fun k hk => hk.2.1)
set_option maxHeartbeats 4000000 in
set_option maxRecDepth 100000 in
theorem toSessionS_ok (A : Option Addr) (c : Nat) (xs : List SeL) (w : World) (h : Kd.C kSeL w A xs.length xs) (hc : xs.length ≤ c) (hl : xs.length ≤ 2097152) (hs : ∀ x ∈ xs, x.f2.length ≤ 2097152 ∧ ∀ y ∈ x.f2, y.f1.length ≤ 2097152) :
  Calls Tryz.prog 33 #[.slice A xs.length c] w fun e w' => ∃ B d, e = .returned (.slice B xs.length d) ∧ Kd.S aSe 90 w' w.heap.size (fun _ => True) (.slice B xs.length d) (xs.map toSe) ∧ Below w.heap.size w w' := by
 have HR := Aside0.mk h
 have HSZ := Aside0.mk hs
 have HL := Aside0.mk (And.intro hc hl)
 have hn0 : (0 : Int) ≤ (xs.length : Int) := by omega
 have hn1 : (xs.length : Int).toNat * 40 ≤ 281474976710656 := by omega
 clear h hs hc hl
 go_enter Tryz.func33, Tryz.ntmps33
 go_wp2_with (first | ((with_reducible refine gate_dst (N := 7) rfl ?_); refine Kd.S_make aSe _ 90 rfl (N := 7) rfl 28 _ _ rfl (xs.length : Int) rfl rfl Tryz.underlying28 (.agg #[(.int .u64 0), (.int .i64 0), (.slice none 0 0)]) 40 info90 rfl (by decide) (by omega) z90 (ok := fun _ => True) (okp := fun _ => True) (aSe_mk _ _ _ z90 (Kd.S_nil _ _ _ _ _)) (fun _ hk => hk) trivial hn0 hn1 (Below.refl _ _) (Nat.le_refl _) ?_; intro v w4 hS hb hg_ hnew_; obtain ⟨B, d, rfl⟩ := Kd.S_slice hS; have HS := Aside0.mk hS; have HB := Aside0.mk hb; clear hS hb hg_ hnew_))
 rw [List.length_replicate, Int.toNat_natCast] at *
 clear hn0 hn1
 go_loopg [4] (xs.length + 1) (fun kq v4 w' => ∃ i : Nat, v4 = .int .i64 i ∧ Aside0 (kq + i = xs.length + 1 ∧ i ≤ xs.length) ∧ Aside0 (Kd.S aSe 90 w' w.heap.size (fun _ => True) (.slice B xs.length d) ((xs.take i).map toSe ++ List.replicate (xs.length - i) z90)) ∧ Aside0 (Below w.heap.size w w'))
 case atStart => exact ⟨0, rfl, ⟨⟨by omega, by omega⟩⟩, by simpa using HS, HB⟩
 case round =>
  clear HS HB
  obtain ⟨i, rfl, HJ, HS, HB⟩ := hrel
  have hj0 := HJ.out
  have hl2 := HL.out.2
  by_cases hj : i < xs.length
  ·
   have c1 : decide ((i : Int) < (xs.length : Int)) = true := decide_eq_true (by omega)
   have ci : (0 : Int) ≤ (i : Int) := by omega
   have ci2 : (i : Int) < (xs.length : Int) := by omega
   have hlen := row_len toSe z90 xs i (by omega)
   have HNX := Aside0.mk (row_next toSe z90 xs i hj)
   generalize hY : (xs.take i).map toSe ++ List.replicate (xs.length - i) z90 = ys at HS hlen HNX
   clear hY
   obtain ⟨g, cap, eB, gb, gl, _⟩ := Kd.S_form (show Kd.S aSe 90 wr w.heap.size (fun _ => True) (.slice B ys.length d) ys by rw [hlen]; exact HS.out) (by omega)
   injection eB with eB _ eC
   subst eB
   subst eC
   obtain ⟨oki, cc, hcl, hM, hcc, hfr, hoki, hH⟩ := Kd.S_elem HS.out z90 (i : Int) (by omega) (by omega)
   obtain ⟨ad, A2, c2_, eA, hx0, hx1, hx2, hl2, hi2⟩ := at_T104 HR.out (i : Int) (by omega) (by omega)
   have ex : rd_T104 xs (i : Int) = xs[i] := by unfold rd_T104; rw [Int.toNat_natCast, List.getD_eq_getElem?_getD, List.getElem?_eq_getElem hj]; rfl
   rw [ex] at hx0 hx1 hx2 hl2 hi2
   cases eA
   have hlt := HB.out
   replace hx0 := (HB.out.cell (World.block_lt_of_cell? w _ hx0)).trans hx0
   replace hx1 := (HB.out.cell (World.block_lt_of_cell? w _ hx1)).trans hx1
   replace hx2 := (HB.out.cell (World.block_lt_of_cell? w _ hx2)).trans hx2
   rw [Int.toNat_natCast] at hx0 hx1 hx2
   have HI2 := Aside0.mk (And.intro hi2 hl2)
   have hsx := HSZ.out xs[i] (List.getElem_mem hj)
   have hcall := toSession_ok xs[i].f0 xs[i].f1 A2 c2_ xs[i].f2 wr (Kd.C_below HI2.out.1 HB.out) HI2.out.2 hsx.1 hsx.2
   have HCALL := Aside0.mk hcall
   clear hcall hsx
   go_wp2_with fail
   refine HCALL.out.mono ?_
   rintro e w2 ⟨B2, d2, rfl, hv2, hb2⟩
   have HV2 := Aside0.mk hv2
   clear HCALL hv2
   have hH2 := Kd.H_below (Kd.H_widen hH) hb2
   obtain ⟨oki2, cc2, hcl2, hM2_, hcc2, hfr2, hoki2, _⟩ := Kd.S_elem (Kd.S_below HS.out hb2) z90 (i : Int) (by omega) (by omega)
   obtain ⟨y0, y1, y2, rfl⟩ : ∃ y0 y1 y2, cc2 = [y0, y1, y2] := by
    match cc2, hcl2 with
    | [y0, y1, y2], _ => exact ⟨y0, y1, y2, rfl⟩
   have z0 := hcc2 0 _ rfl
   have f0 := hfr2 0
   rw [show (i : Int).toNat * aSe.sz + 0 = i * 3 + 0 by rw [Int.toNat_natCast]; rfl] at z0 f0
   have z1 := hcc2 1 _ rfl
   have f1 := hfr2 1
   rw [show (i : Int).toNat * aSe.sz + 1 = i * 3 + 1 by rw [Int.toNat_natCast]; rfl] at z1 f1
   have z2 := hcc2 2 _ rfl
   have f2 := hfr2 2
   rw [show (i : Int).toNat * aSe.sz + 2 = i * 3 + 2 by rw [Int.toNat_natCast]; rfl] at z2 f2
   rw [Nat.add_zero] at z0 f0
   have hseg := (Kd.H_seg hH2 (by omega) (by omega) (seg := [Value.int .u64 xs[i].f0, Value.int .i64 xs[i].f1, Value.slice B2 xs[i].f2.length d2]) (j := 0) (show 0 + 3 ≤ 3 by omega) (by intro q hq; simp only [List.mem_cons, List.not_mem_nil, or_false] at hq; rcases hq with rfl | rfl | rfl <;> rfl)).1
   have hcc0 : cc.take 0 ++ [Value.int .u64 xs[i].f0, Value.int .i64 xs[i].f1, Value.slice B2 xs[i].f2.length d2] ++ cc.drop (0 + [Value.int .u64 xs[i].f0, Value.int .i64 xs[i].f1, Value.slice B2 xs[i].f2.length d2].length) = [Value.int .u64 xs[i].f0, Value.int .i64 xs[i].f1, Value.slice B2 xs[i].f2.length d2] := by rw [List.drop_eq_nil_of_le (by rw [hcl]; exact Nat.le_of_eq rfl)]; rfl
   rw [hcc0] at hseg
   rw [show (i : Int).toNat * aSe.sz + 0 = i * 3 by rw [Int.toNat_natCast]; rfl] at hseg
   have HSEG := Aside0.mk hseg
   have HB2 := Aside0.mk (below_step HB.out hb2)
   have HG := Aside0.mk (And.intro gb (And.intro gl HB.out.size))
   clear hseg hH hH2 hM hM2_ hcc hcc2 hfr hfr2 hoki hoki2 hcl hcl2 hcc0 HB HS hb2 hlen
   obtain ⟨k1, rfl⟩ : ∃ k1, gk = k1 + 1 := ⟨gk - 1, by omega⟩
   go_wp2_with fail
   go_roundg k1
   case measure => omega
   case rel =>
    refine ⟨i + 1, by go_num, ⟨⟨by omega, by omega⟩⟩, ⟨?_⟩, ⟨by with_reducible repeat (first | exact HB2.out | refine below_set ?_ (by have := HG.out.1; omega))⟩⟩
    have hb := Kd.H_back HSEG.out (x' := toSe xs[i]) (aSe_mk _ _ (fun k => wr.heap.size ≤ k) (toSe xs[i]) (by show Kd.S kEv tEv _ _ _ (.slice B2 xs[i].f2.length d2) (xs[i].f2.map toEv); exact (Kd.S_far (p := ⟨g, i * 3 + 2, none⟩) (Kd.S_far (p := ⟨g, i * 3 + 1, none⟩) (Kd.S_far (p := ⟨g, i * 3, none⟩) (Kd.S_lower (Kd.S_mono (Kd.S_bound HV2.out) (fun k hk => hk.2.1)) HG.out.2.2) (fun k hk => Nat.ne_of_gt (Nat.lt_of_lt_of_le HG.out.2.1 hk)) _) (fun k hk => Nat.ne_of_gt (Nat.lt_of_lt_of_le HG.out.2.1 hk)) _) (fun k hk => Nat.ne_of_gt (Nat.lt_of_lt_of_le HG.out.2.1 hk)) _))) (fun k hk => .inr ⟨trivial, hk⟩)
    rw [Int.toNat_natCast, HNX.out] at hb
    exact hb
  ·
   have c1 : decide ((i : Int) < (xs.length : Int)) = false := decide_eq_false (by omega)
   obtain rfl : i = xs.length := by omega
   go_wp2_with fail
   go_ret
   refine ⟨B, d, rfl, ?_, HB.out⟩
   have := HS.out
   rwa [List.take_length, Nat.sub_self, List.replicate_zero, List.append_nil] at this
set_option maxHeartbeats 4000000 in
set_option maxRecDepth 100000 in
theorem toNodeS_ok (A : Option Addr) (c : Nat) (xs : List NoL) (w : World) (h : Kd.C kNoL w A xs.length xs) (hc : xs.length ≤ c) (hl : xs.length ≤ 2097152) (hs : ∀ x ∈ xs, (x.f0.length ≤ 2097152 ∧ x.f1.length ≤ 2097152) ∧ x.f4.length ≤ 2097152 ∧ x.f7.length ≤ 2097152) :
  Calls Tryz.prog 34 #[.slice A xs.length c] w fun e w' => ∃ B d, e = .returned (.slice B xs.length d) ∧ Kd.S aNo 93 w' w.heap.size (fun _ => True) (.slice B xs.length d) (xs.map toNo) ∧ Below w.heap.size w w' := by
 have HR := Aside0.mk h
 have HSZ := Aside0.mk hs
 have HL := Aside0.mk (And.intro hc hl)
 have hn0 : (0 : Int) ≤ (xs.length : Int) := by omega
 have hn1 : (xs.length : Int).toNat * 128 ≤ 281474976710656 := by omega
 clear h hs hc hl
 go_enter Tryz.func34, Tryz.ntmps34
 go_wp2_with (first | ((with_reducible refine gate_dst (N := 7) rfl ?_); refine Kd.S_make aNo _ 93 rfl (N := 7) rfl 29 _ _ rfl (xs.length : Int) rfl rfl Tryz.underlying29 (.agg #[(.slice none 0 0), (.slice none 0 0), (.int .u64 0), (.int .i64 0), (.slice none 0 0), (.int .u64 0), (.int .u64 0), (.slice none 0 0)]) 128 info93 rfl (by decide) (by omega) z93 (ok := fun _ => True) (okp := fun _ => True) (aNo_mk _ _ _ z93 (Kd.R_nil _ _ _ _ _) (Kd.R_nil _ _ _ _ _) (Kd.R_nil _ _ _ _ _) (Kd.R_nil _ _ _ _ _) (by intro k hk; simp [Value.ownBlock] at hk) (by intro k hk; simp [Value.ownBlock] at hk) (by intro k hk; simp [Value.ownBlock] at hk) (by intro k hk; simp [Value.ownBlock] at hk) (by intro k hk; simp [Value.ownBlock] at hk) (by intro k hk; simp [Value.ownBlock] at hk)) (fun _ hk => hk) trivial hn0 hn1 (Below.refl _ _) (Nat.le_refl _) ?_; intro v w4 hS hb hg_ hnew_; obtain ⟨B, d, rfl⟩ := Kd.S_slice hS; have HS := Aside0.mk hS; have HB := Aside0.mk hb; clear hS hb hg_ hnew_))
 rw [List.length_replicate, Int.toNat_natCast] at *
 clear hn0 hn1
 go_loopg [4] (xs.length + 1) (fun kq v4 w' => ∃ i : Nat, v4 = .int .i64 i ∧ Aside0 (kq + i = xs.length + 1 ∧ i ≤ xs.length) ∧ Aside0 (Kd.S aNo 93 w' w.heap.size (fun _ => True) (.slice B xs.length d) ((xs.take i).map toNo ++ List.replicate (xs.length - i) z93)) ∧ Aside0 (Below w.heap.size w w'))
 case atStart => exact ⟨0, rfl, ⟨⟨by omega, by omega⟩⟩, by simpa using HS, HB⟩
 case round =>
  clear HS HB
  obtain ⟨i, rfl, HJ, HS, HB⟩ := hrel
  have hj0 := HJ.out
  have hl2 := HL.out.2
  by_cases hj : i < xs.length
  ·
   have c1 : decide ((i : Int) < (xs.length : Int)) = true := decide_eq_true (by omega)
   have ci : (0 : Int) ≤ (i : Int) := by omega
   have ci2 : (i : Int) < (xs.length : Int) := by omega
   have hlen := row_len toNo z93 xs i (by omega)
   have HNX := Aside0.mk (row_next toNo z93 xs i hj)
   generalize hY : (xs.take i).map toNo ++ List.replicate (xs.length - i) z93 = ys at HS hlen HNX
   clear hY
   obtain ⟨g, cap, eB, gb, gl, _⟩ := Kd.S_form (show Kd.S aNo 93 wr w.heap.size (fun _ => True) (.slice B ys.length d) ys by rw [hlen]; exact HS.out) (by omega)
   injection eB with eB _ eC
   subst eB
   subst eC
   obtain ⟨oki, cc, hcl, hM, hcc, hfr, hoki, hH⟩ := Kd.S_elem HS.out z93 (i : Int) (by omega) (by omega)
   obtain ⟨ad, A0, c0_, A1, c1_, A4, c4_, A7, c7_, eA, hx0, hx1, hx2, hx3, hx4, hx5, hx6, hx7, hl0, hi0, hl1, hi1, hl4, hi4, hl7, hi7⟩ := at_T106 HR.out (i : Int) (by omega) (by omega)
   have ex : rd_T106 xs (i : Int) = xs[i] := by unfold rd_T106; rw [Int.toNat_natCast, List.getD_eq_getElem?_getD, List.getElem?_eq_getElem hj]; rfl
   rw [ex] at hx0 hx1 hx2 hx3 hx4 hx5 hx6 hx7 hl0 hi0 hl1 hi1 hl4 hi4 hl7 hi7
   cases eA
   have hlt := HB.out
   replace hx0 := (HB.out.cell (World.block_lt_of_cell? w _ hx0)).trans hx0
   replace hx1 := (HB.out.cell (World.block_lt_of_cell? w _ hx1)).trans hx1
   replace hx2 := (HB.out.cell (World.block_lt_of_cell? w _ hx2)).trans hx2
   replace hx3 := (HB.out.cell (World.block_lt_of_cell? w _ hx3)).trans hx3
   replace hx4 := (HB.out.cell (World.block_lt_of_cell? w _ hx4)).trans hx4
   replace hx5 := (HB.out.cell (World.block_lt_of_cell? w _ hx5)).trans hx5
   replace hx6 := (HB.out.cell (World.block_lt_of_cell? w _ hx6)).trans hx6
   replace hx7 := (HB.out.cell (World.block_lt_of_cell? w _ hx7)).trans hx7
   rw [Int.toNat_natCast] at hx0 hx1 hx2 hx3 hx4 hx5 hx6 hx7
   have HI0 := Aside0.mk (And.intro hi0 hl0)
   have HI1 := Aside0.mk (And.intro hi1 hl1)
   have HI4 := Aside0.mk (And.intro hi4 hl4)
   have HI7 := Aside0.mk (And.intro hi7 hl7)
   have hsx := HSZ.out xs[i] (List.getElem_mem hj)
   have hcall := toNode_h xs[i].f0 xs[i].f1 xs[i].f2 xs[i].f3 xs[i].f4 xs[i].f5 xs[i].f6 xs[i].f7 A0 c0_ A1 c1_ A4 c4_ A7 c7_ wr (Kd.C_below HI0.out.1 HB.out) HI0.out.2 hsx.1.1 (Kd.C_below HI1.out.1 HB.out) HI1.out.2 hsx.1.2 (Kd.C_below HI4.out.1 HB.out) HI4.out.2 hsx.2.1 (Kd.C_below HI7.out.1 HB.out) HI7.out.2 hsx.2.2
   have HCALL := Aside0.mk hcall
   clear hcall hsx
   go_wp2_with fail
   refine HCALL.out.mono ?_
   rintro e w2 ⟨B0, d0, B1, d1, B4, d4, B7, d7, rfl, hm2, hb2⟩
   have HM2 := Aside0.mk (show aNo.M w2 wr.heap.size (fun k => wr.heap.size ≤ k) (toNo xs[i]) _ from aNo.M_mono (fun k hk => hk.2.1) (aNo.M_bound hm2))
   clear HCALL hm2
   have hH2 := Kd.H_below (Kd.H_widen hH) hb2
   obtain ⟨oki2, cc2, hcl2, hM2_, hcc2, hfr2, hoki2, _⟩ := Kd.S_elem (Kd.S_below HS.out hb2) z93 (i : Int) (by omega) (by omega)
   obtain ⟨y0, y1, y2, y3, y4, y5, y6, y7, rfl⟩ : ∃ y0 y1 y2 y3 y4 y5 y6 y7, cc2 = [y0, y1, y2, y3, y4, y5, y6, y7] := by
    match cc2, hcl2 with
    | [y0, y1, y2, y3, y4, y5, y6, y7], _ => exact ⟨y0, y1, y2, y3, y4, y5, y6, y7, rfl⟩
   have z0 := hcc2 0 _ rfl
   have f0 := hfr2 0
   rw [show (i : Int).toNat * aNo.sz + 0 = i * 8 + 0 by rw [Int.toNat_natCast]; rfl] at z0 f0
   have z1 := hcc2 1 _ rfl
   have f1 := hfr2 1
   rw [show (i : Int).toNat * aNo.sz + 1 = i * 8 + 1 by rw [Int.toNat_natCast]; rfl] at z1 f1
   have z2 := hcc2 2 _ rfl
   have f2 := hfr2 2
   rw [show (i : Int).toNat * aNo.sz + 2 = i * 8 + 2 by rw [Int.toNat_natCast]; rfl] at z2 f2
   have z3 := hcc2 3 _ rfl
   have f3 := hfr2 3
   rw [show (i : Int).toNat * aNo.sz + 3 = i * 8 + 3 by rw [Int.toNat_natCast]; rfl] at z3 f3
   have z4 := hcc2 4 _ rfl
   have f4 := hfr2 4
   rw [show (i : Int).toNat * aNo.sz + 4 = i * 8 + 4 by rw [Int.toNat_natCast]; rfl] at z4 f4
   have z5 := hcc2 5 _ rfl
   have f5 := hfr2 5
   rw [show (i : Int).toNat * aNo.sz + 5 = i * 8 + 5 by rw [Int.toNat_natCast]; rfl] at z5 f5
   have z6 := hcc2 6 _ rfl
   have f6 := hfr2 6
   rw [show (i : Int).toNat * aNo.sz + 6 = i * 8 + 6 by rw [Int.toNat_natCast]; rfl] at z6 f6
   have z7 := hcc2 7 _ rfl
   have f7 := hfr2 7
   rw [show (i : Int).toNat * aNo.sz + 7 = i * 8 + 7 by rw [Int.toNat_natCast]; rfl] at z7 f7
   rw [Nat.add_zero] at z0 f0
   have hseg := (Kd.H_seg hH2 (by omega) (by omega) (seg := [Value.slice B0 xs[i].f0.length d0, Value.slice B1 xs[i].f1.length d1, Value.int .u64 xs[i].f2, Value.int .i64 xs[i].f3, Value.slice B4 xs[i].f4.length d4, Value.int .u64 xs[i].f5, Value.int .u64 xs[i].f6, Value.slice B7 xs[i].f7.length d7]) (j := 0) (show 0 + 8 ≤ 8 by omega) (by intro q hq; simp only [List.mem_cons, List.not_mem_nil, or_false] at hq; rcases hq with rfl | rfl | rfl | rfl | rfl | rfl | rfl | rfl <;> rfl)).1
   have hcc0 : cc.take 0 ++ [Value.slice B0 xs[i].f0.length d0, Value.slice B1 xs[i].f1.length d1, Value.int .u64 xs[i].f2, Value.int .i64 xs[i].f3, Value.slice B4 xs[i].f4.length d4, Value.int .u64 xs[i].f5, Value.int .u64 xs[i].f6, Value.slice B7 xs[i].f7.length d7] ++ cc.drop (0 + [Value.slice B0 xs[i].f0.length d0, Value.slice B1 xs[i].f1.length d1, Value.int .u64 xs[i].f2, Value.int .i64 xs[i].f3, Value.slice B4 xs[i].f4.length d4, Value.int .u64 xs[i].f5, Value.int .u64 xs[i].f6, Value.slice B7 xs[i].f7.length d7].length) = [Value.slice B0 xs[i].f0.length d0, Value.slice B1 xs[i].f1.length d1, Value.int .u64 xs[i].f2, Value.int .i64 xs[i].f3, Value.slice B4 xs[i].f4.length d4, Value.int .u64 xs[i].f5, Value.int .u64 xs[i].f6, Value.slice B7 xs[i].f7.length d7] := by rw [List.drop_eq_nil_of_le (by rw [hcl]; exact Nat.le_of_eq rfl)]; rfl
   rw [hcc0] at hseg
   rw [show (i : Int).toNat * aNo.sz + 0 = i * 8 by rw [Int.toNat_natCast]; rfl] at hseg
   have HSEG := Aside0.mk hseg
   have HB2 := Aside0.mk (below_step HB.out hb2)
   have HG := Aside0.mk (And.intro gb (And.intro gl HB.out.size))
   clear hseg hH hH2 hM hM2_ hcc hcc2 hfr hfr2 hoki hoki2 hcl hcl2 hcc0 HB HS hb2 hlen
   obtain ⟨k1, rfl⟩ : ∃ k1, gk = k1 + 1 := ⟨gk - 1, by omega⟩
   go_wp2_with fail
   go_roundg k1
   case measure => omega
   case rel =>
    refine ⟨i + 1, by go_num, ⟨⟨by omega, by omega⟩⟩, ⟨?_⟩, ⟨by with_reducible repeat (first | exact HB2.out | refine below_set ?_ (by have := HG.out.1; omega))⟩⟩
    have hb := Kd.H_back HSEG.out (x' := toNo xs[i]) (aNo.M_lower HG.out.2.2 (Kd.M_far (d := aNo) (p := ⟨g, i * 8 + 7, none⟩) (Kd.M_far (d := aNo) (p := ⟨g, i * 8 + 6, none⟩) (Kd.M_far (d := aNo) (p := ⟨g, i * 8 + 5, none⟩) (Kd.M_far (d := aNo) (p := ⟨g, i * 8 + 4, none⟩) (Kd.M_far (d := aNo) (p := ⟨g, i * 8 + 3, none⟩) (Kd.M_far (d := aNo) (p := ⟨g, i * 8 + 2, none⟩) (Kd.M_far (d := aNo) (p := ⟨g, i * 8 + 1, none⟩) (Kd.M_far (d := aNo) (p := ⟨g, i * 8, none⟩) HM2.out (fun k hk => Nat.ne_of_gt (Nat.lt_of_lt_of_le HG.out.2.1 hk)) _) (fun k hk => Nat.ne_of_gt (Nat.lt_of_lt_of_le HG.out.2.1 hk)) _) (fun k hk => Nat.ne_of_gt (Nat.lt_of_lt_of_le HG.out.2.1 hk)) _) (fun k hk => Nat.ne_of_gt (Nat.lt_of_lt_of_le HG.out.2.1 hk)) _) (fun k hk => Nat.ne_of_gt (Nat.lt_of_lt_of_le HG.out.2.1 hk)) _) (fun k hk => Nat.ne_of_gt (Nat.lt_of_lt_of_le HG.out.2.1 hk)) _) (fun k hk => Nat.ne_of_gt (Nat.lt_of_lt_of_le HG.out.2.1 hk)) _) (fun k hk => Nat.ne_of_gt (Nat.lt_of_lt_of_le HG.out.2.1 hk)) _)) (fun k hk => .inr ⟨trivial, hk⟩)
    rw [Int.toNat_natCast, HNX.out] at hb
    exact hb
  ·
   have c1 : decide ((i : Int) < (xs.length : Int)) = false := decide_eq_false (by omega)
   obtain rfl : i = xs.length := by omega
   go_wp2_with fail
   go_ret
   refine ⟨B, d, rfl, ?_, HB.out⟩
   have := HS.out
   rwa [List.take_length, Nat.sub_self, List.replicate_zero, List.append_nil] at this
def SmSe (xs : List SeL) : Prop := ∀ x ∈ xs, x.f2.length ≤ 2097152 ∧ ∀ y ∈ x.f2, y.f1.length ≤ 2097152
def SmNo (ns : List NoL) : Prop := ∀ x ∈ ns, (x.f0.length ≤ 2097152 ∧ x.f1.length ≤ 2097152) ∧ x.f4.length ≤ 2097152 ∧ x.f7.length ≤ 2097152
set_option maxHeartbeats 4000000 in
set_option maxRecDepth 100000 in
theorem toState_ok (w0 : World) (e g n t : Int) (As : Option Addr) (cs : Nat) (xs : List SeL) (An : Option Addr) (cn : Nat) (ns : List NoL) (w : World) (hB0 : Below w0.heap.size w0 w) (h1 : Kd.C kSeL w As xs.length xs) (hc1 : xs.length ≤ cs) (hl1 : xs.length ≤ 2097152) (hs1 : SmSe xs) (h2 : Kd.C kNoL w An ns.length ns) (hc2 : ns.length ≤ cn) (hl2 : ns.length ≤ 2097152) (hs2 : SmNo ns) :
  Calls Tryz.prog 8 #[.agg #[.int .u64 e, .int .u64 g, .int .u64 n, .int .i64 t, .slice As xs.length cs, .slice An ns.length cn]] w fun r w' => ∃ Bs ds Bn dn, r = .returned (.agg #[.int .u64 e, .int .u64 g, .int .u64 n, .int .i64 t, .slice Bs (xs.map toSe).length ds, .slice Bn (ns.map toNo).length dn]) ∧ SK w0 w' w.heap.size w'.heap.size Bs ds (xs.map toSe) Bn dn (ns.map toNo) ∧ Below w.heap.size w w' := by
 have HR := Aside0.mk (And.intro h1 h2)
 have HS1 := Aside0.mk hs1
 have HS2 := Aside0.mk hs2
 have HL := Aside0.mk (And.intro (And.intro hc1 hl1) (And.intro hc2 hl2))
 have HB0 := Aside0.mk hB0
 clear h1 h2 hs1 hs2 hc1 hl1 hc2 hl2 hB0
 go_enter Tryz.func8, Tryz.ntmps8
 go_wp2_with fail
 have b0 := blk_new w (.cells #[.int .u64 e, .int .u64 g, .int .u64 n, .int .i64 t, .slice As xs.length cs, .slice An ns.length cn] 26)
 have b1 := blk_new (w.alloc (.cells #[.int .u64 e, .int .u64 g, .int .u64 n, .int .i64 t, .slice As xs.length cs, .slice An ns.length cn] 26)) (.cells #[.int .u64 0, .int .u64 0, .int .u64 0, .int .i64 0, .slice none 0 0, .slice none 0 0] 31)
 have b2 := blk_new ((w.alloc (.cells #[.int .u64 e, .int .u64 g, .int .u64 n, .int .i64 t, .slice As xs.length cs, .slice An ns.length cn] 26)).alloc (.cells #[.int .u64 0, .int .u64 0, .int .u64 0, .int .i64 0, .slice none 0 0, .slice none 0 0] 31)) (.cells #[.int .u64 e, .int .u64 g, .int .u64 n, .int .i64 t, .slice none 0 0, .slice none 0 0] 31)
 replace b1 := blk_alloc b1 (.cells #[.int .u64 e, .int .u64 g, .int .u64 n, .int .i64 t, .slice none 0 0, .slice none 0 0] 31)
 replace b0 := blk_alloc (blk_alloc b0 (.cells #[.int .u64 0, .int .u64 0, .int .u64 0, .int .i64 0, .slice none 0 0, .slice none 0 0] 31)) (.cells #[.int .u64 e, .int .u64 g, .int .u64 n, .int .i64 t, .slice none 0 0, .slice none 0 0] 31)
 have hB := below_alloc (below_alloc (below_alloc (Below.refl w.heap.size w) (.cells #[.int .u64 e, .int .u64 g, .int .u64 n, .int .i64 t, .slice As xs.length cs, .slice An ns.length cn] 26)) (.cells #[.int .u64 0, .int .u64 0, .int .u64 0, .int .i64 0, .slice none 0 0, .slice none 0 0] 31)) (.cells #[.int .u64 e, .int .u64 g, .int .u64 n, .int .i64 t, .slice none 0 0, .slice none 0 0] 31)
 simp only [World.size_alloc] at b1 b2
 generalize (((w.alloc (.cells #[.int .u64 e, .int .u64 g, .int .u64 n, .int .i64 t, .slice As xs.length cs, .slice An ns.length cn] 26)).alloc (.cells #[.int .u64 0, .int .u64 0, .int .u64 0, .int .i64 0, .slice none 0 0, .slice none 0 0] 31)).alloc (.cells #[.int .u64 e, .int .u64 g, .int .u64 n, .int .i64 t, .slice none 0 0, .slice none 0 0] 31)) = W at *
 have hz2 := blk_lt b2
 refine (toSessionS_ok As cs xs W (Kd.C_below HR.out.1 hB) HL.out.1.1 HL.out.1.2 HS1.out).mono ?_
 rintro r w2 ⟨Bs, ds, rfl, hS, hb⟩
 have BX := Aside0.mk (blk_below b0 hb)
 have BR := Aside0.mk (blk_below b1 hb)
 have BO := Aside0.mk (blk_below b2 hb)
 have HB := Aside0.mk (below_step hB hb)
 have HS := Aside0.mk hS
 have HZ := Aside0.mk hz2
 have S2 := Aside0.mk hb.size
 clear b0 b1 b2 hb hB hS hz2
 have z4 := blk_cell BO.out 4
 have f4 := blk_frozen BO.out 4
 have y5 := blk_cell BX.out 5
 simp only [List.getElem?_toArray, List.getElem?_cons_zero, List.getElem?_cons_succ] at z4 y5
 have y5' := cell_far_ y5 (show w.heap.size ≠ w.heap.size + 1 + 1 by omega) (.slice Bs xs.length ds) (j := 4)
 go_wp2_with fail
 have BO2 := blk_put (cs' := #[.int .u64 e, .int .u64 g, .int .u64 n, .int .i64 t, .slice Bs xs.length ds, .slice none 0 0]) BO.out 4 (.slice Bs xs.length ds) rfl
 have BX2 := blk_far BX.out (p := ⟨w.heap.size + 1 + 1, 4, none⟩) (show w.heap.size ≠ w.heap.size + 1 + 1 by omega) (.slice Bs xs.length ds)
 have BR2 := blk_far BR.out (p := ⟨w.heap.size + 1 + 1, 4, none⟩) (show w.heap.size + 1 ≠ w.heap.size + 1 + 1 by omega) (.slice Bs xs.length ds)
 have HB2 := below_set (g := w.heap.size + 1 + 1) (j := 4) (v := .slice Bs xs.length ds) HB.out (show w.heap.size ≤ w.heap.size + 1 + 1 by omega)
 have HSb := Kd.S_far (p := ⟨w.heap.size + 1 + 1, 4, none⟩) (Kd.S_mono (ok' := fun k => W.heap.size ≤ k ∧ k < w2.heap.size) (Kd.S_bound HS.out) (fun k hk => ⟨hk.2.1, hk.2.2.1⟩)) (fun k hk => by have := HZ.out; show k ≠ w.heap.size + 1 + 1; omega) (.slice Bs xs.length ds)
 have HZ2 : (w2.setCell ⟨w.heap.size + 1 + 1, 4, none⟩ (.slice Bs xs.length ds)).heap.size = w2.heap.size := by simp [World.setCell]
 generalize w2.setCell ⟨w.heap.size + 1 + 1, 4, none⟩ (.slice Bs xs.length ds) = W2 at *
 clear z4 f4 y5 y5'
 refine (toNodeS_ok An cn ns W2 (Kd.C_below HR.out.2 HB2) HL.out.2.1 HL.out.2.2 HS2.out).mono ?_
 rintro r w3 ⟨Bn, dn, rfl, hN, hb⟩
 replace BR := Aside0.mk (blk_below BR2 hb)
 replace BO := Aside0.mk (blk_below BO2 hb)
 replace HB := Aside0.mk (below_step HB2 hb)
 replace HS := Aside0.mk (Kd.S_below HSb hb)
 have HN := Aside0.mk hN
 have S3 := Aside0.mk hb.size
 have HZ3 := Aside0.mk HZ2
 clear BO2 BX2 BR2 HB2 HSb hb hN HZ2 BX
 have z0 := blk_cell BO.out 0
 have x0 := blk_cell BR.out 0
 have f0 := blk_frozen BR.out 0
 have z1 := blk_cell BO.out 1
 have x1 := blk_cell BR.out 1
 have f1 := blk_frozen BR.out 1
 have z2 := blk_cell BO.out 2
 have x2 := blk_cell BR.out 2
 have f2 := blk_frozen BR.out 2
 have z3 := blk_cell BO.out 3
 have x3 := blk_cell BR.out 3
 have f3 := blk_frozen BR.out 3
 have z4 := blk_cell BO.out 4
 have x4 := blk_cell BR.out 4
 have f4 := blk_frozen BR.out 4
 have z5 := blk_cell BO.out 5
 have x5 := blk_cell BR.out 5
 have f5 := blk_frozen BR.out 5
 have g5 := blk_frozen BO.out 5
 simp only [List.getElem?_toArray, List.getElem?_cons_zero, List.getElem?_cons_succ] at z0 x0 z1 x1 z2 x2 z3 x3 z4 x4 z5 x5
 have q0 := cell_far_ x0 (show w.heap.size + 1 ≠ w.heap.size + 1 + 1 by omega) (.slice Bn ns.length dn) (j := 5)
 have q1 := cell_far_ x1 (show w.heap.size + 1 ≠ w.heap.size + 1 + 1 by omega) (.slice Bn ns.length dn) (j := 5)
 have q2 := cell_far_ x2 (show w.heap.size + 1 ≠ w.heap.size + 1 + 1 by omega) (.slice Bn ns.length dn) (j := 5)
 have q3 := cell_far_ x3 (show w.heap.size + 1 ≠ w.heap.size + 1 + 1 by omega) (.slice Bn ns.length dn) (j := 5)
 have q4 := cell_far_ x4 (show w.heap.size + 1 ≠ w.heap.size + 1 + 1 by omega) (.slice Bn ns.length dn) (j := 5)
 have q5 := cell_far_ x5 (show w.heap.size + 1 ≠ w.heap.size + 1 + 1 by omega) (.slice Bn ns.length dn) (j := 5)
 go_wp2_with fail
 refine bodyPost_ret (results_cell_row rfl _ _ (w.heap.size + 1) 31 #[.int .u64 e, .int .u64 g, .int .u64 n, .int .i64 t, .slice Bs xs.length ds, .slice Bn ns.length dn] (0, 0) _ rfl (by refine blk_put (cs := #[.int .u64 e, .int .u64 g, .int .u64 n, .int .i64 t, .slice Bs xs.length ds, .slice none 0 0]) ?_ 5 _ rfl; refine blk_put (cs := #[.int .u64 e, .int .u64 g, .int .u64 n, .int .i64 t, .slice none 0 0, .slice none 0 0]) ?_ 4 _ rfl; refine blk_put (cs := #[.int .u64 e, .int .u64 g, .int .u64 n, .int .i64 0, .slice none 0 0, .slice none 0 0]) ?_ 3 _ rfl; refine blk_put (cs := #[.int .u64 e, .int .u64 g, .int .u64 0, .int .i64 0, .slice none 0 0, .slice none 0 0]) ?_ 2 _ rfl; refine blk_put (cs := #[.int .u64 e, .int .u64 0, .int .u64 0, .int .i64 0, .slice none 0 0, .slice none 0 0]) ?_ 1 _ rfl; refine blk_put (cs := #[.int .u64 0, .int .u64 0, .int .u64 0, .int .i64 0, .slice none 0 0, .slice none 0 0]) ?_ 0 _ rfl; refine blk_far ?_ (show w.heap.size + 1 ≠ w.heap.size + 1 + 1 by omega) _; exact BR.out) Tryz.underlying31 rfl (by kernel_rfl)) rfl ?_
 have hz := HZ.out
 have h3 := HZ3.out
 have s3 := S3.out
 have s2 := S2.out
 have h0 := HB0.out.size
 have hsz : ∀ (a b : Nat) (u : World) (v : Value), (u.setCell ⟨a, b, none⟩ v).heap.size = u.heap.size := fun a b u v => by simp [World.setCell]
 refine ⟨Bs, ds, Bn, dn, ?_, ⟨fun k => k < w2.heap.size, ?_, ?_⟩, by with_reducible repeat (first | exact HB.out | refine below_set ?_ (by omega))⟩
 ·
  rw [List.length_map, List.length_map]
 ·
  rw [List.length_map]
  refine Kd.S_lower (base := W.heap.size) (Kd.S_mono (ok := fun k => W.heap.size ≤ k ∧ k < w2.heap.size) ?_ (fun k hk => ⟨⟨by omega, by rw [hsz, hsz, hsz, hsz, hsz, hsz, hsz]; omega⟩, hk.2⟩)) (by omega)
  refine Kd.S_far (p := ⟨w.heap.size + 1, 5, none⟩) ?_ (fun k hk => by show k ≠ w.heap.size + 1; omega) _
  refine Kd.S_far (p := ⟨w.heap.size + 1, 4, none⟩) ?_ (fun k hk => by show k ≠ w.heap.size + 1; omega) _
  refine Kd.S_far (p := ⟨w.heap.size + 1, 3, none⟩) ?_ (fun k hk => by show k ≠ w.heap.size + 1; omega) _
  refine Kd.S_far (p := ⟨w.heap.size + 1, 2, none⟩) ?_ (fun k hk => by show k ≠ w.heap.size + 1; omega) _
  refine Kd.S_far (p := ⟨w.heap.size + 1, 1, none⟩) ?_ (fun k hk => by show k ≠ w.heap.size + 1; omega) _
  refine Kd.S_far (p := ⟨w.heap.size + 1, 0, none⟩) ?_ (fun k hk => by show k ≠ w.heap.size + 1; omega) _
  refine Kd.S_far (p := ⟨w.heap.size + 1 + 1, 5, none⟩) ?_ (fun k hk => by show k ≠ w.heap.size + 1 + 1; omega) _
  exact HS.out
 ·
  rw [List.length_map]
  refine Kd.S_lower (base := W2.heap.size) (Kd.S_mono (ok := fun k => W2.heap.size ≤ k ∧ k < w3.heap.size) ?_ (fun k hk => ⟨⟨by omega, by rw [hsz, hsz, hsz, hsz, hsz, hsz, hsz]; omega⟩, by omega⟩)) (by omega)
  refine Kd.S_far (p := ⟨w.heap.size + 1, 5, none⟩) ?_ (fun k hk => by show k ≠ w.heap.size + 1; omega) _
  refine Kd.S_far (p := ⟨w.heap.size + 1, 4, none⟩) ?_ (fun k hk => by show k ≠ w.heap.size + 1; omega) _
  refine Kd.S_far (p := ⟨w.heap.size + 1, 3, none⟩) ?_ (fun k hk => by show k ≠ w.heap.size + 1; omega) _
  refine Kd.S_far (p := ⟨w.heap.size + 1, 2, none⟩) ?_ (fun k hk => by show k ≠ w.heap.size + 1; omega) _
  refine Kd.S_far (p := ⟨w.heap.size + 1, 1, none⟩) ?_ (fun k hk => by show k ≠ w.heap.size + 1; omega) _
  refine Kd.S_far (p := ⟨w.heap.size + 1, 0, none⟩) ?_ (fun k hk => by show k ≠ w.heap.size + 1; omega) _
  refine Kd.S_far (p := ⟨w.heap.size + 1 + 1, 5, none⟩) ?_ (fun k hk => by show k ≠ w.heap.size + 1 + 1; omega) _
  exact Kd.S_mono (Kd.S_bound HN.out) (fun k hk => ⟨hk.2.1, hk.2.2.1⟩)
section
open Go.ChangeShapes Go.WideShapes
section
variable {H : Type} {enc : TypeId × Value → H} {P : Program} {w : World} {base : Nat} {spare : Nat → Bool} {held : Bool}
theorem three_open_ {t : TypeId} {f0 f1 f2 : Field} {fuel : Nat} {cs : List Value} {x : DataW H × List MemPlace} (ht : P.underlying t = some (.struct #[f0, f1, f2])) (o0 : f0.offset = 0) (c0 : P.cellsOf f0.type = 1) (o1 : f1.offset = 1) (c1 : P.cellsOf f1.type = 1) (o2 : f2.offset = 2) (c2 : P.cellsOf f2.type = 1) (ct : P.cellsOf t = 3)
  (hf : DataW.trod enc P w base spare held fuel t cs = some x) (hz : ∀ n ∈ x.1.weights P t, n ≤ reachBytes) :
  ∃ v0 v1 v2 y0 y1 y2 n, cs = [v0, v1, v2] ∧ DataW.trod enc P w base spare held n f0.type [v0] = some y0 ∧ DataW.trod enc P w base spare held n f1.type [v1] = some y1 ∧ DataW.trod enc P w base spare held n f2.type [v2] = some y2 ∧ (∀ n ∈ y0.1.weights P f0.type, n ≤ reachBytes) ∧ (∀ n ∈ y1.1.weights P f1.type, n ≤ reachBytes) ∧ (∀ n ∈ y2.1.weights P f2.type, n ≤ reachBytes) := by
 obtain ⟨xs, n, _, rfl, hl, hlen, hg⟩ := DataW.trod_struct ht hf
 rw [ct] at hl
 match cs, hl with
 | [v0, v1, v2], _ =>
  match xs, hlen with
  | [y0, y1, y2], _ =>
   have g0 := hg 0 f0 rfl
   have g1 := hg 1 f1 rfl
   have g2 := hg 2 f2 rfl
   rw [o0, c0] at g0
   rw [o1, c1] at g1
   rw [o2, c2] at g2
   simp only [DataW.weights, ht, DataW.weightsEach, List.map_cons, List.map_nil, List.mem_append] at hz
   exact ⟨v0, v1, v2, y0, y1, y2, n, rfl, by simpa using g0, by simpa using g1, by simpa using g2, fun n hn => hz n (.inl hn), fun n hn => hz n (.inr (.inl hn)), fun n hn => hz n (.inr (.inr (.inl hn)))⟩
theorem six_open_ {t : TypeId} {f0 f1 f2 f3 f4 f5 : Field} {fuel : Nat} {cs : List Value} {x : DataW H × List MemPlace} (ht : P.underlying t = some (.struct #[f0, f1, f2, f3, f4, f5])) (o0 : f0.offset = 0) (c0 : P.cellsOf f0.type = 1) (o1 : f1.offset = 1) (c1 : P.cellsOf f1.type = 1) (o2 : f2.offset = 2) (c2 : P.cellsOf f2.type = 1) (o3 : f3.offset = 3) (c3 : P.cellsOf f3.type = 1) (o4 : f4.offset = 4) (c4 : P.cellsOf f4.type = 1) (o5 : f5.offset = 5) (c5 : P.cellsOf f5.type = 1) (ct : P.cellsOf t = 6)
  (hf : DataW.trod enc P w base spare held fuel t cs = some x) (hz : ∀ n ∈ x.1.weights P t, n ≤ reachBytes) :
  ∃ v0 v1 v2 v3 v4 v5 y0 y1 y2 y3 y4 y5 n, cs = [v0, v1, v2, v3, v4, v5] ∧ DataW.trod enc P w base spare held n f0.type [v0] = some y0 ∧ DataW.trod enc P w base spare held n f1.type [v1] = some y1 ∧ DataW.trod enc P w base spare held n f2.type [v2] = some y2 ∧ DataW.trod enc P w base spare held n f3.type [v3] = some y3 ∧ DataW.trod enc P w base spare held n f4.type [v4] = some y4 ∧ DataW.trod enc P w base spare held n f5.type [v5] = some y5 ∧ (∀ n ∈ y0.1.weights P f0.type, n ≤ reachBytes) ∧ (∀ n ∈ y1.1.weights P f1.type, n ≤ reachBytes) ∧ (∀ n ∈ y2.1.weights P f2.type, n ≤ reachBytes) ∧ (∀ n ∈ y3.1.weights P f3.type, n ≤ reachBytes) ∧ (∀ n ∈ y4.1.weights P f4.type, n ≤ reachBytes) ∧ (∀ n ∈ y5.1.weights P f5.type, n ≤ reachBytes) := by
 obtain ⟨xs, n, _, rfl, hl, hlen, hg⟩ := DataW.trod_struct ht hf
 rw [ct] at hl
 match cs, hl with
 | [v0, v1, v2, v3, v4, v5], _ =>
  match xs, hlen with
  | [y0, y1, y2, y3, y4, y5], _ =>
   have g0 := hg 0 f0 rfl
   have g1 := hg 1 f1 rfl
   have g2 := hg 2 f2 rfl
   have g3 := hg 3 f3 rfl
   have g4 := hg 4 f4 rfl
   have g5 := hg 5 f5 rfl
   rw [o0, c0] at g0
   rw [o1, c1] at g1
   rw [o2, c2] at g2
   rw [o3, c3] at g3
   rw [o4, c4] at g4
   rw [o5, c5] at g5
   simp only [DataW.weights, ht, DataW.weightsEach, List.map_cons, List.map_nil, List.mem_append] at hz
   exact ⟨v0, v1, v2, v3, v4, v5, y0, y1, y2, y3, y4, y5, n, rfl, by simpa using g0, by simpa using g1, by simpa using g2, by simpa using g3, by simpa using g4, by simpa using g5, fun n hn => hz n (.inl hn), fun n hn => hz n (.inr (.inl hn)), fun n hn => hz n (.inr (.inr (.inl hn))), fun n hn => hz n (.inr (.inr (.inr (.inl hn)))), fun n hn => hz n (.inr (.inr (.inr (.inr (.inl hn))))), fun n hn => hz n (.inr (.inr (.inr (.inr (.inr (.inl hn))))))⟩
theorem eight_open_ {t : TypeId} {f0 f1 f2 f3 f4 f5 f6 f7 : Field} {fuel : Nat} {cs : List Value} {x : DataW H × List MemPlace} (ht : P.underlying t = some (.struct #[f0, f1, f2, f3, f4, f5, f6, f7])) (o0 : f0.offset = 0) (c0 : P.cellsOf f0.type = 1) (o1 : f1.offset = 1) (c1 : P.cellsOf f1.type = 1) (o2 : f2.offset = 2) (c2 : P.cellsOf f2.type = 1) (o3 : f3.offset = 3) (c3 : P.cellsOf f3.type = 1) (o4 : f4.offset = 4) (c4 : P.cellsOf f4.type = 1) (o5 : f5.offset = 5) (c5 : P.cellsOf f5.type = 1) (o6 : f6.offset = 6) (c6 : P.cellsOf f6.type = 1) (o7 : f7.offset = 7) (c7 : P.cellsOf f7.type = 1) (ct : P.cellsOf t = 8)
  (hf : DataW.trod enc P w base spare held fuel t cs = some x) (hz : ∀ n ∈ x.1.weights P t, n ≤ reachBytes) :
  ∃ v0 v1 v2 v3 v4 v5 v6 v7 y0 y1 y2 y3 y4 y5 y6 y7 n, cs = [v0, v1, v2, v3, v4, v5, v6, v7] ∧ DataW.trod enc P w base spare held n f0.type [v0] = some y0 ∧ DataW.trod enc P w base spare held n f1.type [v1] = some y1 ∧ DataW.trod enc P w base spare held n f2.type [v2] = some y2 ∧ DataW.trod enc P w base spare held n f3.type [v3] = some y3 ∧ DataW.trod enc P w base spare held n f4.type [v4] = some y4 ∧ DataW.trod enc P w base spare held n f5.type [v5] = some y5 ∧ DataW.trod enc P w base spare held n f6.type [v6] = some y6 ∧ DataW.trod enc P w base spare held n f7.type [v7] = some y7 ∧ (∀ n ∈ y0.1.weights P f0.type, n ≤ reachBytes) ∧ (∀ n ∈ y1.1.weights P f1.type, n ≤ reachBytes) ∧ (∀ n ∈ y2.1.weights P f2.type, n ≤ reachBytes) ∧ (∀ n ∈ y3.1.weights P f3.type, n ≤ reachBytes) ∧ (∀ n ∈ y4.1.weights P f4.type, n ≤ reachBytes) ∧ (∀ n ∈ y5.1.weights P f5.type, n ≤ reachBytes) ∧ (∀ n ∈ y6.1.weights P f6.type, n ≤ reachBytes) ∧ (∀ n ∈ y7.1.weights P f7.type, n ≤ reachBytes) := by
 obtain ⟨xs, n, _, rfl, hl, hlen, hg⟩ := DataW.trod_struct ht hf
 rw [ct] at hl
 match cs, hl with
 | [v0, v1, v2, v3, v4, v5, v6, v7], _ =>
  match xs, hlen with
  | [y0, y1, y2, y3, y4, y5, y6, y7], _ =>
   have g0 := hg 0 f0 rfl
   have g1 := hg 1 f1 rfl
   have g2 := hg 2 f2 rfl
   have g3 := hg 3 f3 rfl
   have g4 := hg 4 f4 rfl
   have g5 := hg 5 f5 rfl
   have g6 := hg 6 f6 rfl
   have g7 := hg 7 f7 rfl
   rw [o0, c0] at g0
   rw [o1, c1] at g1
   rw [o2, c2] at g2
   rw [o3, c3] at g3
   rw [o4, c4] at g4
   rw [o5, c5] at g5
   rw [o6, c6] at g6
   rw [o7, c7] at g7
   simp only [DataW.weights, ht, DataW.weightsEach, List.map_cons, List.map_nil, List.mem_append] at hz
   exact ⟨v0, v1, v2, v3, v4, v5, v6, v7, y0, y1, y2, y3, y4, y5, y6, y7, n, rfl, by simpa using g0, by simpa using g1, by simpa using g2, by simpa using g3, by simpa using g4, by simpa using g5, by simpa using g6, by simpa using g7, fun n hn => hz n (.inl hn), fun n hn => hz n (.inr (.inl hn)), fun n hn => hz n (.inr (.inr (.inl hn))), fun n hn => hz n (.inr (.inr (.inr (.inl hn)))), fun n hn => hz n (.inr (.inr (.inr (.inr (.inl hn))))), fun n hn => hz n (.inr (.inr (.inr (.inr (.inr (.inl hn)))))), fun n hn => hz n (.inr (.inr (.inr (.inr (.inr (.inr (.inl hn))))))), fun n hn => hz n (.inr (.inr (.inr (.inr (.inr (.inr (.inr (.inl hn))))))))⟩
end
def gEv (y : EvL) : Prop := y.f1.length ≤ 140737488351232 ∧ ∀ z ∈ y.f1, (Lit.int .u8 z).wf = true
def gSe (x : SeL) : Prop := (Lit.int .u64 x.f0).wf = true ∧ x.f2.length ≤ 9223372036854775807 ∧ ∀ y ∈ x.f2, gEv y
def gNo (x : NoL) : Prop := (x.f0.length ≤ 140737488351232 ∧ ∀ z ∈ x.f0, (Lit.int .u8 z).wf = true) ∧ x.f1.length ≤ 140737488351232 ∧ (Lit.int .u64 x.f2).wf = true ∧ (x.f4.length ≤ 9223372036854775807 ∧ ∀ z ∈ x.f4, (Lit.int .u64 z).wf = true) ∧ (x.f7.length ≤ 9223372036854775807 ∧ (∀ z ∈ x.f7, (Lit.int .u64 z).wf = true) ∧ (Lit.int .u64 x.f5).wf = true ∧ (Lit.int .u64 x.f6).wf = true)
theorem ev_el {H : Type} {enc : TypeId × Value → H} {w : World} {base : Nat} {spare : Nat → Bool} {held : Bool} (n : Nat) (cs : List Value) (y : DataW H × List MemPlace) (hf : DataW.trod enc Tryz.prog w base spare held n 182 cs = some y) (hz : ∀ m ∈ y.1.weights Tryz.prog 182, m ≤ reachBytes) : ∃ z : EvL, kEvL.K w z cs ∧ gEv z := by
 have cb : Tryz.prog.cellsOf 38 = 1 := by kernel_rfl
 have ci : Tryz.prog.cellsOf 3 = 1 := by kernel_rfl
 have cu : Tryz.prog.cellsOf 22 = 1 := by kernel_rfl
 have c8 : Tryz.prog.cellsOf 5 = 1 := by kernel_rfl
 have b8 : Tryz.prog.bytesOf 5 = 1 := by kernel_rfl
 have cv : Tryz.prog.cellsOf 91 = 1 := by kernel_rfl
 have b64 : Tryz.prog.bytesOf 22 = 8 := by kernel_rfl
 obtain ⟨v0, v1, y0, y1, m, e0, g0, g1, z0, z1⟩ := two_open Tryz.underlying182 rfl rfl ci cb (by kernel_rfl) hf hz
 obtain ⟨k, q0, _, w0⟩ := DataW.trod_int Tryz.underlying3 g0
 obtain ⟨A, c, l, q1, h1, p1, r1, w1⟩ := row_open Tryz.underlying38 Tryz.underlying5 c8 b8 g1 z1
 simp only [List.cons.injEq, and_true] at q0 q1
 subst q0 q1 e0
 exact ⟨⟨k, l⟩, k182_mk w ⟨k, l⟩ p1 h1, r1, w1⟩
theorem u64_el {H : Type} {enc : TypeId × Value → H} {w : World} {base : Nat} {spare : Nat → Bool} {held : Bool} (n : Nat) (cs : List Value) (y : DataW H × List MemPlace) (hf : DataW.trod enc Tryz.prog w base spare held n 22 cs = some y) : ∃ z : Int, (Kd.int .u64).K w z cs ∧ (Lit.int .u64 z).wf = true := by
 obtain ⟨k, q, _, w0⟩ := DataW.trod_int Tryz.underlying22 hf
 exact ⟨k, q, w0⟩
theorem se_el {H : Type} {enc : TypeId × Value → H} {w : World} {base : Nat} {spare : Nat → Bool} {held : Bool} (n : Nat) (cs : List Value) (y : DataW H × List MemPlace) (hf : DataW.trod enc Tryz.prog w base spare held n 104 cs = some y) (hz : ∀ m ∈ y.1.weights Tryz.prog 104, m ≤ reachBytes) : ∃ z : SeL, kSeL.K w z cs ∧ gSe z := by
 have cb : Tryz.prog.cellsOf 38 = 1 := by kernel_rfl
 have ci : Tryz.prog.cellsOf 3 = 1 := by kernel_rfl
 have cu : Tryz.prog.cellsOf 22 = 1 := by kernel_rfl
 have c8 : Tryz.prog.cellsOf 5 = 1 := by kernel_rfl
 have b8 : Tryz.prog.bytesOf 5 = 1 := by kernel_rfl
 have cv : Tryz.prog.cellsOf 91 = 1 := by kernel_rfl
 have b64 : Tryz.prog.bytesOf 22 = 8 := by kernel_rfl
 have ce : Tryz.prog.cellsOf 102 = 1 := by kernel_rfl
 obtain ⟨v0, v1, v2, y0, y1, y2, m, e0, g0, g1, g2, z0, z1, z2⟩ := three_open_ Tryz.underlying104 rfl cu rfl ci rfl ce (by kernel_rfl) hf hz
 obtain ⟨k, q0, _, w0⟩ := DataW.trod_int Tryz.underlying22 g0
 obtain ⟨dl, q1, _, w1⟩ := DataW.trod_int Tryz.underlying3 g1
 obtain ⟨A, c, l, q2, h2, p2, w2⟩ := rows_open kEvL gEv Tryz.underlying102 (by kernel_rfl) (fun n cs y a b => ev_el n cs y a b) g2 z2
 simp only [List.cons.injEq, and_true] at q0 q1 q2
 subst q0 q1 q2 e0
 exact ⟨⟨k, dl, l⟩, k104_mk w ⟨k, dl, l⟩ p2 h2, w0, h2.2.1, w2⟩
theorem no_el {H : Type} {enc : TypeId × Value → H} {w : World} {base : Nat} {spare : Nat → Bool} {held : Bool} (n : Nat) (cs : List Value) (y : DataW H × List MemPlace) (hf : DataW.trod enc Tryz.prog w base spare held n 106 cs = some y) (hz : ∀ m ∈ y.1.weights Tryz.prog 106, m ≤ reachBytes) : ∃ z : NoL, kNoL.K w z cs ∧ gNo z := by
 have cb : Tryz.prog.cellsOf 38 = 1 := by kernel_rfl
 have ci : Tryz.prog.cellsOf 3 = 1 := by kernel_rfl
 have cu : Tryz.prog.cellsOf 22 = 1 := by kernel_rfl
 have c8 : Tryz.prog.cellsOf 5 = 1 := by kernel_rfl
 have b8 : Tryz.prog.bytesOf 5 = 1 := by kernel_rfl
 have cv : Tryz.prog.cellsOf 91 = 1 := by kernel_rfl
 have b64 : Tryz.prog.bytesOf 22 = 8 := by kernel_rfl
 obtain ⟨v0, v1, v2, v3, v4, v5, v6, v7, y0, y1, y2, y3, y4, y5, y6, y7, m, e0, g0, g1, g2, g3, g4, g5, g6, g7, z0, z1, z2, z3, z4, z5, z6, z7⟩ := eight_open_ Tryz.underlying106 rfl cb rfl cb rfl cu rfl ci rfl cv rfl cu rfl cu rfl cv (by kernel_rfl) hf hz
 obtain ⟨A0, c0, l0, q0, h0, p0, r0, w0⟩ := row_open Tryz.underlying38 Tryz.underlying5 c8 b8 g0 z0
 obtain ⟨A1, c1, l1, q1, h1, p1, r1, w1⟩ := row_open Tryz.underlying38 Tryz.underlying5 c8 b8 g1 z1
 obtain ⟨o, q2, _, w2⟩ := DataW.trod_int Tryz.underlying22 g2
 obtain ⟨md, q3, _, w3⟩ := DataW.trod_int Tryz.underlying3 g3
 obtain ⟨A4, c4, l4, q4, h4, p4, w4⟩ := rows_open (Kd.int .u64) (fun z => (Lit.int .u64 z).wf = true) Tryz.underlying91 (by kernel_rfl) (fun n cs y a b => u64_el n cs y a) g4 z4
 obtain ⟨ep, q5, _, w5⟩ := DataW.trod_int Tryz.underlying22 g5
 obtain ⟨ge, q6, _, w6⟩ := DataW.trod_int Tryz.underlying22 g6
 obtain ⟨A7, c7, l7, q7, h7, p7, w7⟩ := rows_open (Kd.int .u64) (fun z => (Lit.int .u64 z).wf = true) Tryz.underlying91 (by kernel_rfl) (fun n cs y a b => u64_el n cs y a) g7 z7
 simp only [List.cons.injEq, and_true] at q0 q1 q2 q3 q4 q5 q6 q7
 subst q0 q1 q2 q3 q4 q5 q6 q7 e0
 exact ⟨⟨l0, l1, o, md, l4, ep, ge, l7⟩, k106_mk w ⟨l0, l1, o, md, l4, ep, ge, l7⟩ p0 h0 p1 h1 p4 h4 p7 h7, ⟨r0, w0⟩, r1, w2, ⟨h4.2.1, w4⟩, h7.2.1, w7, w5, w6⟩
set_option maxRecDepth 100000 in
set_option linter.constructorNameAsVariable false in
theorem state_open {H : Type} {enc : TypeId × Value → H} {w : World} {base : Nat} {spare : Nat → Bool} {held : Bool} {v : Value} {d : DataW H} {p : List MemPlace} {ts : List TypeId} {ds : List (DataW H)} {j : Nat}
  (hsz : (DataW.weightsEach Tryz.prog ts ds).all (· ≤ reachBytes) = true) (htj : ts[j]? = some 26) (hdj : ds[j]? = some d) (hv : Value.okWide Tryz.prog w .any 0 26 v) (h : DataW.Trod enc Tryz.prog w base spare held 26 v d p) :
  ∃ e g n t As cs, ∃ xs : List SeL, ∃ An cn, ∃ ns : List NoL, v = .agg #[.int .u64 e, .int .u64 g, .int .u64 n, .int .i64 t, .slice As xs.length cs, .slice An ns.length cn] ∧
   Kd.C kSeL w As xs.length xs ∧ xs.length ≤ cs ∧ Kd.C kNoL w An ns.length ns ∧ ns.length ≤ cn ∧ (∀ x ∈ xs, gSe x) ∧ (∀ x ∈ ns, gNo x) ∧ (Lit.int .u64 e).wf = true ∧ (Lit.int .u64 g).wf = true ∧ (Lit.int .u64 n).wf = true ∧ (Lit.int .i64 t).wf = true := by
 have hz := weights_of hsz htj hdj
 obtain ⟨cs, rfl, hcs⟩ := okWide_struct Tryz.underlying26 hv
 obtain ⟨cs⟩ := cs
 obtain ⟨fuel, hf⟩ := h
 have cb : Tryz.prog.cellsOf 38 = 1 := by kernel_rfl
 have ci : Tryz.prog.cellsOf 3 = 1 := by kernel_rfl
 have cu : Tryz.prog.cellsOf 22 = 1 := by kernel_rfl
 have c8 : Tryz.prog.cellsOf 5 = 1 := by kernel_rfl
 have b8 : Tryz.prog.bytesOf 5 = 1 := by kernel_rfl
 have cv : Tryz.prog.cellsOf 91 = 1 := by kernel_rfl
 have b64 : Tryz.prog.bytesOf 22 = 8 := by kernel_rfl
 have c27 : Tryz.prog.cellsOf 23 = 1 := by kernel_rfl
 have c28 : Tryz.prog.cellsOf 24 = 1 := by kernel_rfl
 obtain ⟨v0, v1, v2, v3, v4, v5, y0, y1, y2, y3, y4, y5, m, e0, g0, g1, g2, g3, g4, g5, z0, z1, z2, z3, z4, z5⟩ := six_open_ Tryz.underlying26 rfl cu rfl cu rfl cu rfl ci rfl c27 rfl c28 (by kernel_rfl) hf hz
 have e' : cs.toArray = #[v0, v1, v2, v3, v4, v5] := by rw [← e0]; simp [Value.cells]
 obtain ⟨e, q0, _, w0⟩ := DataW.trod_int Tryz.underlying22 g0
 obtain ⟨g, q1, _, w1⟩ := DataW.trod_int Tryz.underlying22 g1
 obtain ⟨n, q2, _, w2⟩ := DataW.trod_int Tryz.underlying22 g2
 obtain ⟨tt, q3, _, w3⟩ := DataW.trod_int Tryz.underlying3 g3
 obtain ⟨As, c4, xs, q4, h4, p4, w4⟩ := rows_open kSeL gSe Tryz.underlying23 (by kernel_rfl) (fun n cs y a b => se_el n cs y a b) g4 z4
 obtain ⟨An, c5, ns, q5, h5, p5, w5⟩ := rows_open kNoL gNo Tryz.underlying24 (by kernel_rfl) (fun n cs y a b => no_el n cs y a b) g5 z5
 simp only [List.cons.injEq, and_true] at q0 q1 q2 q3 q4 q5
 subst q0 q1 q2 q3 q4 q5
 exact ⟨e, g, n, tt, As, c4, xs, An, c5, ns, by rw [← e'], h4, p4, h5, p5, w4, w5, w0, w1, w2, w3⟩
end
theorem readsNone2 {α : Type} {R : α → List Value → Prop} {size : Nat} {w : World} {n : Nat} {l : List α} (h : ReadsRow R size w none n l) : l = [] := by
 rcases Nat.eq_zero_or_pos n with h0 | h0
 ·
  exact List.eq_nil_of_length_eq_zero (by rw [h.1, h0])
 ·
  obtain ⟨ad, e, _⟩ := h.2.2 h0
  cases e
theorem lit_empty2 (w : World) : Kd.R (Kd.int .u8) 5 (w.alloc (.cells #[] 5)) w.heap.size (fun _ => True) (.slice (some ⟨w.heap.size, 0, none⟩) 0 0) [] :=
 ⟨fun _ _ => trivial, [], own_lit w w.heap.size 5 .u8 [] (Nat.le_refl _) (by decide), ⟨rfl, fun j p h => by simp at h⟩⟩
def slices_Clone_byte_byte.f (l0 : List Int) : Option (List Int) := if l0.length < 140737488355328 then some l0 else none
set_option maxHeartbeats 400000 in
set_option maxRecDepth 100000 in
theorem slices_Clone_byte_byte.calls (A0 : Option Addr) (c0 : Nat) (l0 : List Int) (r : List Int) (w : World) (hr0 : Kd.C (Kd.int .u8) w A0 l0.length l0) (hc0 : l0.length ≤ c0) (h : slices_Clone_byte_byte.f l0 = some r) :
  Calls Tryz.prog 152 #[.slice A0 l0.length c0] w fun e w' => ∃ v0_ : Value, e = .returned (v0_) ∧ Kd.R (Kd.int .u8) 5 w' w.heap.size (fun _ => True) v0_ r ∧ Below w.heap.size w w' := by
 unfold slices_Clone_byte_byte.f at h
 split at h
 case isFalse => cases h
 rename_i hl0
 have HL := Aside0.mk hl0
 clear hl0
 obtain rfl := Option.some.inj h
 clear h
 have HR := Aside0.mk hr0
 clear hr0
 have ke : ∀ (a : Option Addr) (n c : Nat) (W : World), (binOp .eql 38 (.slice a n c) (.slice none 0 0)).run Tryz.prog W = .ok (.bool a.isNone) W := fun a n c W => Lib.run_eql_slice_nil W 38 5 a n c 0 0 Tryz.underlying38
 rcases A0 with _ | ad
 ·
  obtain rfl := readsNone2 HR.out
  go_enter Tryz.func152, Tryz.ntmps152
  go_wp2_with fail
  go_ret
  exact ⟨_, rfl, Kd.R_nil _ _ _ _ _, Below.refl _ _⟩
 ·
  go_enter Tryz.func152, Tryz.ntmps152
  go_wp2_with ((with_reducible refine gate_builtin (b := .append) (xs := #[.tmp 5, .tmp 6]) rfl ?_); at_builtin; refine Kd.R_append_rows (Kd.int .u8) (w0 := w) w.heap.size rfl (.tmp 5) (.tmp 6) 38 5 (.int .u8 0) 1 rfl Tryz.underlying38 info5 rfl (by decide) (by omega) (.slice (some ⟨w.heap.size, 0, none⟩) 0 0) ([] : List Int) l0 _ _ _ (fun _ => True) (fun _ => False) rfl rfl (lit_empty2 w) (Kd.C_alloc HR.out _) (fun _ _ h => h) (fun _ h => h.elim) (fun _ _ => trivial) (below_alloc (Below.refl _ _) _) (below_size (below_alloc (Below.refl _ _) _)) (by have := HL.out; simp only [List.length_nil]; omega) ?_; intro v1 w1 ho hb hg hat)
  go_ret
  exact ⟨_, rfl, ho, hb⟩
theorem readsNone3 {α : Type} {R : α → List Value → Prop} {size : Nat} {w : World} {n : Nat} {l : List α} (h : ReadsRow R size w none n l) : l = [] := by
 rcases Nat.eq_zero_or_pos n with h0 | h0
 ·
  exact List.eq_nil_of_length_eq_zero (by rw [h.1, h0])
 ·
  obtain ⟨ad, e, _⟩ := h.2.2 h0
  cases e
theorem lit_emptyU (w : World) : Kd.R (Kd.int .u64) 22 (w.alloc (.cells #[] 22)) w.heap.size (fun _ => True) (.slice (some ⟨w.heap.size, 0, none⟩) 0 0) [] :=
 ⟨fun _ _ => trivial, [], own_lit w w.heap.size 22 .u64 [] (Nat.le_refl _) (by decide), ⟨rfl, fun j p h => by simp at h⟩⟩
def slices_Clone_u64.f (l0 : List Int) : Option (List Int) := if l0.length < 17592186044416 then some l0 else none
set_option maxHeartbeats 400000 in
set_option maxRecDepth 100000 in
theorem slices_Clone_u64.calls (A0 : Option Addr) (c0 : Nat) (l0 : List Int) (r : List Int) (w : World) (hr0 : Kd.C (Kd.int .u64) w A0 l0.length l0) (hc0 : l0.length ≤ c0) (h : slices_Clone_u64.f l0 = some r) :
  Calls Tryz.prog 153 #[.slice A0 l0.length c0] w fun e w' => ∃ v0_ : Value, e = .returned (v0_) ∧ Kd.R (Kd.int .u64) 22 w' w.heap.size (fun _ => True) v0_ r ∧ Below w.heap.size w w' := by
 unfold slices_Clone_u64.f at h
 split at h
 case isFalse => cases h
 rename_i hl0
 have HL := Aside0.mk hl0
 clear hl0
 obtain rfl := Option.some.inj h
 clear h
 have HR := Aside0.mk hr0
 clear hr0
 have ke : ∀ (a : Option Addr) (n c : Nat) (W : World), (binOp .eql 91 (.slice a n c) (.slice none 0 0)).run Tryz.prog W = .ok (.bool a.isNone) W := fun a n c W => Lib.run_eql_slice_nil W 91 22 a n c 0 0 Tryz.underlying91
 rcases A0 with _ | ad
 ·
  obtain rfl := readsNone3 HR.out
  go_enter Tryz.func153, Tryz.ntmps153
  go_wp2_with fail
  go_ret
  exact ⟨_, rfl, Kd.R_nil _ _ _ _ _, Below.refl _ _⟩
 ·
  go_enter Tryz.func153, Tryz.ntmps153
  go_wp2_with ((with_reducible refine gate_builtin (b := .append) (xs := #[.tmp 5, .tmp 6]) rfl ?_); at_builtin; refine Kd.R_append_rows (Kd.int .u64) (w0 := w) w.heap.size rfl (.tmp 5) (.tmp 6) 91 22 (.int .u64 0) 8 rfl Tryz.underlying91 info22 rfl (by decide) (by omega) (.slice (some ⟨w.heap.size, 0, none⟩) 0 0) ([] : List Int) l0 _ _ _ (fun _ => True) (fun _ => False) rfl rfl (lit_emptyU w) (Kd.C_alloc HR.out _) (fun _ _ h => h) (fun _ h => h.elim) (fun _ _ => trivial) (below_alloc (Below.refl _ _) _) (below_size (below_alloc (Below.refl _ _) _)) (by have := HL.out; simp only [List.length_nil]; omega) ?_; intro v1 w1 ho hb hg hat)
  go_ret
  exact ⟨_, rfl, ho, hb⟩
end Go.Proofs.YtbgbocdohadhoaaGreatDoor.Print
