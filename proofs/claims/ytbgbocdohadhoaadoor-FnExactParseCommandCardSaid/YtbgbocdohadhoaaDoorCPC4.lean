/- Texts of this session, joined by its own program. -/
import Derived.Lib.SlBytesConst
import Derived.Test.YtbgbocdohadhoaaDoorCPC3
namespace Go.Proofs.YtbgbocdohadhoaaDoor.Print
open Go Go.RowKit Go.Proofs.YtbgbocdohadhoaaDoorW.PrintWords Go.Proofs.YtbgbocdohadhoaaDoorW.PrintLast Go.Proofs.YtbgbocdohadhoaaDoorW.PrintMore
set_option linter.unusedVariables false
set_option linter.unusedSimpArgs false
mutual
def spec_l6words.l0 : Nat → List Int → List (List Int) → List Int → Int → Option ((List (List Int)))
  | 0, _, _, _, _ => none
  | k + 1, x0, x3, x4, x5 => if x5 ≤ (x0.length : Int) then (if x5 = (x0.length : Int) then (spec_l6words.j1 k x0 x3 x4 x5 true) else (if 0 ≤ x5 then (if x5 < (x0.length : Int) then (spec_l6words.j1 k x0 x3 x4 x5 ((rd x0 x5) == 32)) else (none)) else (none))) else (some x3)
def spec_l6words.j1 : Nat → List Int → List (List Int) → List Int → Int → Bool → Option ((List (List Int)))
  | 0, _, _, _, _, _ => none
  | k + 1, x0, x3, x4, x5, x22 => if x22 = true then (if (x4.length : Int) > 0 then (if x3.length < 5864062014805 then (spec_l6words.l0 k x0 (x3 ++ [x4]) ([] : List Int) (wrap64 (x5 + 1))) else (none)) else (spec_l6words.l0 k x0 x3 ([] : List Int) (wrap64 (x5 + 1)))) else (if 0 ≤ x5 then (if x5 < (x0.length : Int) then (if x4.length < 140737488355328 then (spec_l6words.l0 k x0 x3 (x4 ++ [rd x0 x5]) (wrap64 (x5 + 1))) else (none)) else (none)) else (none))
end
def spec_l6words.f (k : Nat) (l0 : List Int) : Option ((List (List Int))) := spec_l6words.l0 k l0 ([] : List (List Int)) ([] : List Int) 0
set_option maxHeartbeats 8000000 in
set_option maxRecDepth 100000 in
theorem spec_l6words.calls (k : Nat) (A0 : Option Addr) (c0 : Nat) (l0 : List Int) (r : List (List Int)) (w : World) (hr0 : Kd.C (Kd.int .u8) w A0 l0.length l0) (hc0 : l0.length ≤ c0) (h : spec_l6words.f k l0 = some r) :
  Calls Tryd.prog 75 #[.slice A0 l0.length c0] w fun e w' => ∃ v0_ : Value, e = .returned (v0_) ∧ Kd.S (Kd.slice 5 (Kd.int .u8)) 22 w' w.heap.size (fun _ => True) v0_ r ∧ Below w.heap.size w w' := by
 have HR0 := Aside0.mk hr0
 have HC0 := Aside0.mk hc0
 clear hr0 hc0
 have HB := Aside0.mk (Below.refl w.heap.size w)
 have H : (spec_l6words.l0 k l0 ([] : List (List Int)) ([] : List Int) 0) = some r := h
 clear h
 have H' := Aside0.mk H
 clear H
 go_enter Tryd.func75, Tryd.ntmps75
 go_wp2
 go_loopg [3, 4, 5] k (fun kq v3 v4 v5 w' => ∃ (x3_1 : List (List Int)) (x4_1 : List Int) (x5_1 : Int), v5 = .int .i64 x5_1 ∧ Aside0 (spec_l6words.l0 kq l0 x3_1 x4_1 x5_1 = some r) ∧ Aside0 (kq ≤ k) ∧ Aside0 (Kd.S (Kd.slice 5 (Kd.int .u8)) 22 w' w.heap.size (fun k_ => some k_ ≠ (v4 : Value).ownBlock) v3 x3_1) ∧ Aside0 (Kd.R (Kd.int .u8) 5 w' w.heap.size (fun _ => True) v4 x4_1) ∧ Aside0 (Below w.heap.size w w'))
 case atStart => exact ⟨(([] : List (List Int))), (([] : List Int)), (0), (by first | rfl | (simp; done) | (simp [*]; done)), H', ⟨Nat.le_refl _⟩, ⟨by first | exact Kd.S_nil _ _ _ _ _ | exact Kd.N_nil _ _ _ _ _ | exact Kd.V_nil _ _ _ _ _ | exact Kd.Q_nil _ _ _ _ _ | exact Kd.R_nil _ _ _ _ _⟩, ⟨by first | exact Kd.R_nil _ _ _ _ _ | exact Kd.N_nil _ _ _ _ _ | exact Kd.V_nil _ _ _ _ _ | exact Kd.Q_nil _ _ _ _ _ | exact Kd.S_nil _ _ _ _ _⟩, ⟨by repeat (first | (with_reducible first | exact HB.out | apply below_alloc | apply pw_below_drewN | apply below_drew1) | exact HB.out)⟩⟩
 case round =>
  clear H'
  obtain ⟨x3_1, x4_1, x5_1, rfl, HA, HK1, HO_3, HO_4, HB⟩ := hrel
  cases gk with
  | zero => exact absurd HA.out (by simp [spec_l6words.l0])
  | succ k1 =>
   have H := HA.out
   clear HA
   simp only [spec_l6words.l0] at H
   by_cases c2 : x5_1 ≤ (l0.length : Int)
   ·
    rw [if_pos c2] at H
    have c2b0 : decide (x5_1 ≤ (l0.length : Int)) = true := decide_eq_true c2
    clear c2
    have HC3 := Aside0.mk H
    clear H
    go_upto_region 6 with (fail)
    go_cut [22] (fun v22 wc => ∃ (kq : Nat) (x22_2 : Bool), v22 = .bool x22_2 ∧ Aside0 (spec_l6words.j1 kq l0 x3_1 x4_1 x5_1 x22_2 = some r) ∧ Aside0 (kq ≤ k1) ∧ Aside0 (Kd.S (Kd.slice 5 (Kd.int .u8)) 22 wc w.heap.size (fun k_ => some k_ ≠ (u4 : Value).ownBlock) u3 x3_1) ∧ Aside0 (Kd.R (Kd.int .u8) 5 wc w.heap.size (fun _ => True) u4 x4_1) ∧ Aside0 (Below w.heap.size w wc))
    case first =>
     have H := HC3.out
     clear HC3
     by_cases c4 : x5_1 = (l0.length : Int)
     ·
      rw [if_pos c4] at H
      have c4b0 : (x5_1 == (l0.length : Int)) = true := beq_iff_eq.mpr c4
      have c4b1 : (x5_1 != (l0.length : Int)) = false := bne_eq_false_iff_eq.mpr c4
      clear c4
      (first | rw [c4b0] | (simp only [i64_w, i32_w]; rw [c4b0]) | skip)
      have H' := Aside0.mk H
      clear H
      go_wp2
      go_meet
      case rel => exact ⟨_, (true), (by first | rfl | (simp; done) | (simp [*]; done)), H', ⟨by have := HK1.out; first | omega | exact Nat.le_refl _⟩, ⟨by (with_reducible repeat (first | apply Kd.S_alloc | apply Kd.S_drewN | apply Kd.S_drew)); exact HO_3.out⟩, ⟨by (with_reducible repeat (first | apply Kd.R_alloc | apply Kd.R_drewN | apply Kd.R_drew)); exact HO_4.out⟩, ⟨by repeat (first | (with_reducible first | exact HB.out | apply below_alloc | apply pw_below_drewN | apply below_drew1) | exact HB.out)⟩⟩
     rw [if_neg c4] at H
     have c4b0 : (x5_1 == (l0.length : Int)) = false := beq_eq_false_iff_ne.mpr c4
     have c4b1 : (x5_1 != (l0.length : Int)) = true := bne_iff_ne.mpr c4
     (first | rw [c4b0] | (simp only [i64_w, i32_w]; rw [c4b0]) | skip)
     by_cases c5 : 0 ≤ x5_1
     ·
      rw [if_pos c5] at H
      have c5b0 : decide (0 ≤ x5_1) = true := decide_eq_true c5
      clear c5
      by_cases c6 : x5_1 < (l0.length : Int)
      ·
       rw [if_pos c6] at H
       have c6b0 : decide (x5_1 < (l0.length : Int)) = true := decide_eq_true c6
       clear c6
       have H' := Aside0.mk H
       clear H
       have p109 : 0 ≤ (x5_1 : Int) := of_decide_eq_true (by first | (with_reducible assumption) | assumption)
       have q109 : x5_1 < (l0.length : Int) := of_decide_eq_true (by first | (with_reducible assumption) | assumption)
       obtain ⟨ad109, e109, hx109_0⟩ := Kd.at_int HR0.out x5_1 p109 q109
       cases e109
       replace hx109_0 := (HB.out.cell (World.block_lt_of_cell? w _ hx109_0)).trans hx109_0
       replace p109 := eq_true p109
       replace q109 := eq_true q109
       go_wp2
       go_meet
       case rel => exact ⟨_, (((rd l0 x5_1) == 32)), (by first | rfl | (simp; done) | (simp [*]; done)), H', ⟨by have := HK1.out; first | omega | exact Nat.le_refl _⟩, ⟨by (with_reducible repeat (first | apply Kd.S_alloc | apply Kd.S_drewN | apply Kd.S_drew)); exact HO_3.out⟩, ⟨by (with_reducible repeat (first | apply Kd.R_alloc | apply Kd.R_drewN | apply Kd.R_drew)); exact HO_4.out⟩, ⟨by repeat (first | (with_reducible first | exact HB.out | apply below_alloc | apply pw_below_drewN | apply below_drew1) | exact HB.out)⟩⟩
      rw [if_neg c6] at H
      exact absurd H (by simp)
     rw [if_neg c5] at H
     exact absurd H (by simp)
    case rest =>
     clear HC3
     try clear p1
     try clear q1
     try clear hx1
     try clear c2
     try clear c2b0
     try clear p2
     try clear c4
     try clear c4b0
     try clear c4b1
     try clear c5
     try clear c5b0
     try clear c6
     try clear c6b0
     try clear hx109_0
     try clear p109
     try clear q109
     obtain ⟨kq, x22_2, rfl, HA, HJ2, HO_3, HO_4, HB⟩ := hcut
     cases kq with
     | zero => exact absurd HA.out (by simp [spec_l6words.j1])
     | succ kj2 =>
      have H := HA.out
      clear HA
      simp only [spec_l6words.j1] at H
      by_cases c7 : x22_2 = true
      ·
       subst c7
       have H1 : (if (x4_1.length : Int) > 0 then (if x3_1.length < 5864062014805 then (spec_l6words.l0 kj2 l0 (x3_1 ++ [x4_1]) ([] : List Int) (wrap64 (x5_1 + 1))) else (none)) else (spec_l6words.l0 kj2 l0 x3_1 ([] : List Int) (wrap64 (x5_1 + 1)))) = some r := by first | rfl | (rw [if_pos rfl] at H; exact H)
       clear H
       have H := H1
       clear H1
       by_cases c8 : (x4_1.length : Int) > 0
       ·
        rw [if_pos c8] at H
        have c8b0 : decide (0 < (x4_1.length : Int)) = true := decide_eq_true c8
        have c8b1 : decide (0 < x4_1.length) = true := decide_eq_true (by omega)
        clear c8
        by_cases c9 : x3_1.length < 5864062014805
        ·
         rw [if_pos c9] at H
         have LMc9 := Aside0.mk c9
         clear c9
         obtain ⟨y110, hy110⟩ : ∃ y_ : List (List Int), y_ = (x3_1 ++ [x4_1]) := ⟨_, rfl⟩
         replace H : (spec_l6words.l0 kj2 l0 y110 ([] : List Int) (wrap64 (x5_1 + 1))) = some r := by first | (rw [hy110]; with_reducible exact H) | (have H2_ := (Option.bind_some _ _).symm.trans H; rw [hy110]; with_reducible exact H2_) | (have H2_ := (Option.bind_some _ _).symm.trans H; with_reducible exact H2_) | with_reducible exact H | (rw [hy110]; exact H) | exact H
         have Ny110 := Aside0.mk hy110
         clear hy110
         have H' := Aside0.mk H
         clear H
         obtain ⟨Ao10, co10, eo10⟩ := Kd.R_slice HO_4.out
         subst eo10
         go_wp2_with (first | ((with_reducible refine gate_builtin (b := .append) (xs := #[.tmp 26, .tmp 28]) rfl ?_); at_builtin; refine Kd.S_append (Kd.slice 5 (Kd.int .u8)) (w0 := w) w.heap.size rfl (.tmp 26) (.tmp 28) 57 22 (.slice none 0 0) 24 rfl Tryd.underlying57 info22 rfl (by decide) (by omega) u3 x3_1 x4_1 [.slice Ao10 x4_1.length co10] (fun _ => True) (fun k_ => some k_ = (.slice Ao10 x4_1.length co10 : Value).ownBlock) rfl rfl ?aP (fun k_ hk_ => ((Kd.R_mono (ok' := fun k_ => ((fun _ => True)) k_ ∧ some k_ ≠ (u3 : Value).ownBlock) (Kd.R_apart' (HO_4.out) (Kd.S_typed HO_3.out) (by decide)) (fun k_ hk => ⟨trivial, hk.2⟩))).1 k_ hk_.symm) ?aF ?aO ?aB ?aS ?aL ?_; (case aP => exact Kd.M_row (Kd.R_mono (Kd.R_tight rfl (Kd.R_mono (ok' := fun k_ => ((fun _ => True)) k_ ∧ some k_ ≠ (u3 : Value).ownBlock) (Kd.R_apart' (HO_4.out) (Kd.S_typed HO_3.out) (by decide)) (fun k_ hk => ⟨trivial, hk.2⟩))) (fun _ h_ => h_))); (case aB => exact (by repeat (first | (with_reducible first | exact HB.out | apply below_alloc | apply pw_below_drewN | apply below_drew1) | exact HB.out))); (case aF => exact (fun _ _ => trivial)); (case aO => exact (by (with_reducible repeat (first | apply Kd.S_alloc | apply Kd.S_drewN | apply Kd.S_drew)); exact Kd.S_mono HO_3.out (fun k_ hk => ⟨trivial, fun e_ => hk e_⟩))); (case aS => exact (below_size (by repeat (first | (with_reducible first | exact HB.out | apply below_alloc | apply pw_below_drewN | apply below_drew1) | exact HB.out)))); (case aL => have := LMc9.out; omega); intro v111 w11 ho hb hg hat; rw [← Ny110.out] at ho; have n0_ := Aside0.mk (hb); have n1_ := Aside0.mk (ho); clear HB; clear HO_3; clear HO_4; have HB := n0_; have HO112 := n1_; clear n0_ n1_; clear ho hb hg hat))
         go_roundg kj2
         case measure => have := HK1.out; have := HJ2.out; omega
         case rel => exact ⟨(y110), (([] : List Int)), (wrap64 (x5_1 + 1)), (by first | rfl | (simp; done) | (simp [*]; done)), H', ⟨by have := HK1.out; have := HJ2.out; omega⟩, ⟨by (with_reducible repeat (first | apply Kd.S_alloc | apply Kd.S_drewN | apply Kd.S_drew)); exact Kd.S_mono HO112.out (fun _ hk => (by simp [Value.ownBlock]))⟩, ⟨by first | exact Kd.R_nil _ _ _ _ _ | exact Kd.N_nil _ _ _ _ _ | exact Kd.V_nil _ _ _ _ _ | exact Kd.Q_nil _ _ _ _ _ | exact Kd.S_nil _ _ _ _ _⟩, ⟨by repeat (first | (with_reducible first | exact HB.out | apply below_alloc | apply pw_below_drewN | apply below_drew1) | exact HB.out)⟩⟩
        rw [if_neg c9] at H
        exact absurd H (by simp)
       rw [if_neg c8] at H
       have c8b0 : decide (0 < (x4_1.length : Int)) = false := decide_eq_false c8
       have c8b1 : decide (0 < x4_1.length) = false := decide_eq_false (by omega)
       clear c8
       have H' := Aside0.mk H
       clear H
       obtain ⟨Ao12, co12, eo12⟩ := Kd.R_slice HO_4.out
       subst eo12
       go_wp2
       go_roundg kj2
       case measure => have := HK1.out; have := HJ2.out; omega
       case rel => exact ⟨(x3_1), (([] : List Int)), (wrap64 (x5_1 + 1)), (by first | rfl | (simp; done) | (simp [*]; done)), H', ⟨by have := HK1.out; have := HJ2.out; omega⟩, ⟨by (with_reducible repeat (first | apply Kd.S_alloc | apply Kd.S_drewN | apply Kd.S_drew)); exact Kd.S_mono HO_3.out (fun _ hk => (by simp [Value.ownBlock]))⟩, ⟨by first | exact Kd.R_nil _ _ _ _ _ | exact Kd.N_nil _ _ _ _ _ | exact Kd.V_nil _ _ _ _ _ | exact Kd.Q_nil _ _ _ _ _ | exact Kd.S_nil _ _ _ _ _⟩, ⟨by repeat (first | (with_reducible first | exact HB.out | apply below_alloc | apply pw_below_drewN | apply below_drew1) | exact HB.out)⟩⟩
      replace c7 := Bool.eq_false_iff.mpr c7
      subst c7
      have H1 : (if 0 ≤ x5_1 then (if x5_1 < (l0.length : Int) then (if x4_1.length < 140737488355328 then (spec_l6words.l0 kj2 l0 x3_1 (x4_1 ++ [rd l0 x5_1]) (wrap64 (x5_1 + 1))) else (none)) else (none)) else (none)) = some r := by first | rfl | (rw [if_neg (show ¬ (false = true) by decide)] at H; exact H)
      clear H
      have H := H1
      clear H1
      by_cases c13 : 0 ≤ x5_1
      ·
       rw [if_pos c13] at H
       have c13b0 : decide (0 ≤ x5_1) = true := decide_eq_true c13
       clear c13
       by_cases c14 : x5_1 < (l0.length : Int)
       ·
        rw [if_pos c14] at H
        have c14b0 : decide (x5_1 < (l0.length : Int)) = true := decide_eq_true c14
        clear c14
        by_cases c15 : x4_1.length < 140737488355328
        ·
         rw [if_pos c15] at H
         have LMc15 := Aside0.mk c15
         clear c15
         obtain ⟨y114, hy114⟩ : ∃ y_ : List Int, y_ = (x4_1 ++ [rd l0 x5_1]) := ⟨_, rfl⟩
         replace H : (spec_l6words.l0 kj2 l0 x3_1 y114 (wrap64 (x5_1 + 1))) = some r := by first | (rw [hy114]; with_reducible exact H) | (have H2_ := (Option.bind_some _ _).symm.trans H; rw [hy114]; with_reducible exact H2_) | (have H2_ := (Option.bind_some _ _).symm.trans H; with_reducible exact H2_) | with_reducible exact H | (rw [hy114]; exact H) | exact H
         have Ny114 := Aside0.mk hy114
         clear hy114
         have H' := Aside0.mk H
         clear H
         have p113 : 0 ≤ (x5_1 : Int) := of_decide_eq_true (by first | (with_reducible assumption) | assumption)
         have q113 : x5_1 < (l0.length : Int) := of_decide_eq_true (by first | (with_reducible assumption) | assumption)
         obtain ⟨ad113, e113, hx113_0⟩ := Kd.at_int HR0.out x5_1 p113 q113
         cases e113
         replace hx113_0 := (HB.out.cell (World.block_lt_of_cell? w _ hx113_0)).trans hx113_0
         replace p113 := eq_true p113
         replace q113 := eq_true q113
         go_wp2_with (first | ((with_reducible refine gate_builtin (b := .append) (xs := #[.tmp 30, .tmp 35]) rfl ?_); at_builtin; refine Kd.R_append (Kd.int .u8) (w0 := w) w.heap.size rfl (.tmp 30) (.tmp 35) 22 5 (.int .u8 0) 1 rfl Tryd.underlying22 info5 rfl (by decide) (by omega) u4 x4_1 (rd l0 x5_1) [.int .u8 (rd l0 x5_1)] (fun _ => True) (fun _ => False) rfl rfl ?aP (fun _ hk => hk.elim) ?aF ?aO ?aB ?aS ?aL ?_; (case aP => exact rfl); (case aB => exact (by repeat (first | (with_reducible first | exact HB.out | apply below_alloc | apply pw_below_drewN | apply below_drew1) | exact HB.out))); (case aF => exact (fun _ _ => trivial)); (case aO => exact (by (with_reducible repeat (first | apply Kd.R_alloc | apply Kd.R_drewN | apply Kd.R_drew)); exact HO_4.out)); (case aS => exact (below_size (by repeat (first | (with_reducible first | exact HB.out | apply below_alloc | apply pw_below_drewN | apply below_drew1) | exact HB.out)))); (case aL => have := LMc15.out; omega); intro v115 w16 ho hb hg hat; rw [← Ny114.out] at ho; have n0_ := Aside0.mk (Kd.S_after (ok := (fun _ => True)) (by (with_reducible repeat (first | apply Kd.S_alloc | apply Kd.S_drewN | apply Kd.S_drew)); exact Kd.S_mono HO_3.out (fun _ hk => ⟨trivial, hk⟩)) hg hat); have n1_ := Aside0.mk (hb); have n2_ := Aside0.mk (ho); clear HO_3; clear HB; clear HO_4; have HO_3 := n0_; have HB := n1_; have HO116 := n2_; clear n0_ n1_ n2_; clear ho hb hg hat))
         go_roundg kj2
         case measure => have := HK1.out; have := HJ2.out; omega
         case rel => exact ⟨(x3_1), (y114), (wrap64 (x5_1 + 1)), (by first | rfl | (simp; done) | (simp [*]; done)), H', ⟨by have := HK1.out; have := HJ2.out; omega⟩, ⟨by (with_reducible repeat (first | apply Kd.S_alloc | apply Kd.S_drewN | apply Kd.S_drew)); exact Kd.S_mono HO_3.out (fun _ hk => hk.2)⟩, ⟨by (with_reducible repeat (first | apply Kd.R_alloc | apply Kd.R_drewN | apply Kd.R_drew)); exact HO116.out⟩, ⟨by repeat (first | (with_reducible first | exact HB.out | apply below_alloc | apply pw_below_drewN | apply below_drew1) | exact HB.out)⟩⟩
        rw [if_neg c15] at H
        exact absurd H (by simp)
       rw [if_neg c14] at H
       exact absurd H (by simp)
      rw [if_neg c13] at H
      exact absurd H (by simp)
   rw [if_neg c2] at H
   have c2b0 : decide (x5_1 ≤ (l0.length : Int)) = false := decide_eq_false c2
   clear c2
   obtain rfl := Option.some.inj H
   go_wp2
   go_ret
   exact ⟨_, by first | rfl | (simp [errW_none, errW_some] <;> rfl) | (simp [*, errW_none, errW_some] <;> rfl), by (with_reducible repeat (first | apply Kd.S_alloc | apply Kd.S_drewN | apply Kd.S_drew)); exact Kd.S_mono HO_3.out (fun _ hk => trivial), by repeat (first | (with_reducible first | exact HB.out | apply below_alloc | apply pw_below_drewN | apply below_drew1) | exact HB.out)⟩
mutual
def spec_l6number.j0 : Nat → List Int → Int → Bool → Option (Int × Bool)
  | 0, _, _, _ => none
  | k + 1, x0, x1, x15 => if x15 = true then (some (0, false)) else (spec_l6number.l0 k x0 x1 0 0)
def spec_l6number.l0 : Nat → List Int → Int → Int → Int → Option (Int × Bool)
  | 0, _, _, _, _ => none
  | k + 1, x0, x1, x6, x7 => if x7 < (x0.length : Int) then (if 0 ≤ x7 then (if (rd x0 x7) < 48 then (some (0, false)) else (if (rd x0 x7) > 57 then (some (0, false)) else (spec_l6number.l0 k x0 x1 (IntKind.u64.wrap ((IntKind.u64.wrap (x6 * 10)) + (((rd x0 x7) - 48) % 256))) (wrap64 (x7 + 1))))) else (none)) else (some (x6, decide (x6 ≤ x1)))
end
def spec_l6number.f (k : Nat) (l0 : List Int) (a1 : Int) : Option (Int × Bool) := if (l0.length : Int) < 1 then (spec_l6number.j0 k l0 a1 true) else (spec_l6number.j0 k l0 a1 (decide ((l0.length : Int) > 19)))
set_option maxHeartbeats 8000000 in
set_option maxRecDepth 100000 in
theorem spec_l6number.calls (k : Nat) (A0 : Option Addr) (c0 : Nat) (l0 : List Int) (a1 : Int) (r1 : Int) (r2 : Bool) (w : World) (hr0 : Kd.C (Kd.int .u8) w A0 l0.length l0) (hc0 : l0.length ≤ c0) (h : spec_l6number.f k l0 a1 = some (r1, r2)) :
  Calls Tryd.prog 112 #[.slice A0 l0.length c0, .int .u64 a1] w fun e w' => e = .returned (.tuple #[.int .u64 r1, .bool r2]) ∧ Drawn0 w w' := by
 have HR0 := Aside0.mk hr0
 have HC0 := Aside0.mk hc0
 clear hr0 hc0
 have H : (if (l0.length : Int) < 1 then (spec_l6number.j0 k l0 a1 true) else (spec_l6number.j0 k l0 a1 (decide ((l0.length : Int) > 19)))) = some (r1, r2) := h
 clear h
 have HC3 := Aside0.mk H
 clear H
 go_enter Tryd.func112, Tryd.ntmps112
 go_upto_region 1 with (fail)
 go_cut [15] (fun v15 wc => ∃ (kq : Nat) (x15_2 : Bool), v15 = .bool x15_2 ∧ Aside0 (spec_l6number.j0 kq l0 a1 x15_2 = some (r1, r2)) ∧ Aside0 (kq ≤ k) ∧ Drawn0 w wc)
 case first =>
  have H := HC3.out
  clear HC3
  by_cases c4 : (l0.length : Int) < 1
  ·
   rw [if_pos c4] at H
   have c4b0 : decide ((l0.length : Int) < 1) = true := decide_eq_true c4
   have c4b1 : decide (l0.length < 1) = true := decide_eq_true (by omega)
   clear c4
   (first | rw [c4b0] | (simp only [i64_w, i32_w]; rw [c4b0]) | skip)
   have H' := Aside0.mk H
   clear H
   go_wp2
   go_meet
   case rel => exact ⟨_, (true), (by first | rfl | (simp; done) | (simp [*]; done)), H', ⟨by first | omega | exact Nat.le_refl _⟩, by repeat (first | exact Drawn0.refl _ | apply Drawn0.step)⟩
  rw [if_neg c4] at H
  have c4b0 : decide ((l0.length : Int) < 1) = false := decide_eq_false c4
  have c4b1 : decide (l0.length < 1) = false := decide_eq_false (by omega)
  clear c4
  (first | rw [c4b0] | (simp only [i64_w, i32_w]; rw [c4b0]) | skip)
  have H' := Aside0.mk H
  clear H
  go_wp2
  go_meet
  case rel => exact ⟨_, (decide ((l0.length : Int) > 19)), (by first | rfl | (simp; done) | (simp [*]; done)), H', ⟨by first | omega | exact Nat.le_refl _⟩, by repeat (first | exact Drawn0.refl _ | apply Drawn0.step)⟩
 case rest =>
  clear HC3
  try clear c1
  try clear p2
  try clear c4
  try clear c4b0
  try clear c4b1
  obtain ⟨kq, x15_2, rfl, HA, HJ2, ⟨mc2, rfl⟩⟩ := hcut
  cases kq with
  | zero => exact absurd HA.out (by simp [spec_l6number.j0])
  | succ kj2 =>
   have H := HA.out
   clear HA
   simp only [spec_l6number.j0] at H
   by_cases c5 : x15_2 = true
   ·
    subst c5
    have H1 : (some (0, false)) = some (r1, r2) := by first | rfl | (rw [if_pos rfl] at H; exact H)
    clear H
    have H := H1
    clear H1
    simp only [Option.some.injEq, Prod.mk.injEq] at H
    obtain ⟨rfl, rfl⟩ := H
    go_wp2
    go_ret2
    exact ⟨by first | rfl | (simp; done) | (simp [*]; done), by repeat (first | exact Drawn0.refl _ | apply Drawn0.step)⟩
   replace c5 := Bool.eq_false_iff.mpr c5
   subst c5
   have H1 : (spec_l6number.l0 kj2 l0 a1 0 0) = some (r1, r2) := by first | rfl | (rw [if_neg (show ¬ (false = true) by decide)] at H; exact H)
   clear H
   have H := H1
   clear H1
   have H' := Aside0.mk H
   clear H
   go_wp2
   go_loopg [6, 7] kj2 (fun kq v6 v7 w' => ∃ (x6_2 : Int) (x7_2 : Int), v6 = .int .u64 x6_2 ∧ v7 = .int .i64 x7_2 ∧ Aside0 (spec_l6number.l0 kq l0 a1 x6_2 x7_2 = some (r1, r2)) ∧ Aside0 (kq ≤ kj2) ∧ Drawn0 w w')
   case atStart => exact ⟨(0), (0), (by first | rfl | (simp; done) | (simp [*]; done)), (by first | rfl | (simp; done) | (simp [*]; done)), H', ⟨Nat.le_refl _⟩, by repeat (first | exact Drawn0.refl _ | apply Drawn0.step)⟩
   case round =>
    clear H'
    try clear c1
    try clear c2
    try clear p2
    try clear c4
    try clear c4b0
    try clear c4b1
    try clear c5
    try clear p2
    obtain ⟨x6_2, x7_2, rfl, rfl, HA, HK2, ⟨m2, rfl⟩⟩ := hrel
    cases gk with
    | zero => exact absurd HA.out (by simp [spec_l6number.l0])
    | succ k2 =>
     have H := HA.out
     clear HA
     simp only [spec_l6number.l0] at H
     by_cases c6 : x7_2 < (l0.length : Int)
     ·
      rw [if_pos c6] at H
      have c6b0 : decide (x7_2 < (l0.length : Int)) = true := decide_eq_true c6
      clear c6
      by_cases c7 : 0 ≤ x7_2
      ·
       rw [if_pos c7] at H
       have c7b0 : decide (0 ≤ x7_2) = true := decide_eq_true c7
       clear c7
       by_cases c8 : (rd l0 x7_2) < 48
       ·
        rw [if_pos c8] at H
        have c8b0 : decide ((rd l0 x7_2) < 48) = true := decide_eq_true c8
        clear c8
        simp only [Option.some.injEq, Prod.mk.injEq] at H
        obtain ⟨rfl, rfl⟩ := H
        have p120 : 0 ≤ (x7_2 : Int) := of_decide_eq_true (by first | (with_reducible assumption) | assumption)
        have q120 : x7_2 < (l0.length : Int) := of_decide_eq_true (by first | (with_reducible assumption) | assumption)
        obtain ⟨ad120, e120, hx120_0⟩ := Kd.at_int HR0.out x7_2 p120 q120
        cases e120
        replace p120 := eq_true p120
        replace q120 := eq_true q120
        go_wp2
        go_ret2
        exact ⟨by first | rfl | (simp; done) | (simp [*]; done), by repeat (first | exact Drawn0.refl _ | apply Drawn0.step)⟩
       rw [if_neg c8] at H
       have c8b0 : decide ((rd l0 x7_2) < 48) = false := decide_eq_false c8
       clear c8
       by_cases c9 : (rd l0 x7_2) > 57
       ·
        rw [if_pos c9] at H
        have c9b0 : decide (57 < (rd l0 x7_2)) = true := decide_eq_true c9
        clear c9
        simp only [Option.some.injEq, Prod.mk.injEq] at H
        obtain ⟨rfl, rfl⟩ := H
        have p120 : 0 ≤ (x7_2 : Int) := of_decide_eq_true (by first | (with_reducible assumption) | assumption)
        have q120 : x7_2 < (l0.length : Int) := of_decide_eq_true (by first | (with_reducible assumption) | assumption)
        obtain ⟨ad120, e120, hx120_0⟩ := Kd.at_int HR0.out x7_2 p120 q120
        cases e120
        replace p120 := eq_true p120
        replace q120 := eq_true q120
        have p121 : 0 ≤ (x7_2 : Int) := of_decide_eq_true (by first | (with_reducible assumption) | assumption)
        have q121 : x7_2 < (l0.length : Int) := of_decide_eq_true (by first | (with_reducible assumption) | assumption)
        obtain ⟨ad121, e121, hx121_0⟩ := Kd.at_int HR0.out x7_2 p121 q121
        obtain rfl : ad120 = ad121 := (by injection e121)
        replace p121 := eq_true p121
        replace q121 := eq_true q121
        go_wp2
        go_ret2
        exact ⟨by first | rfl | (simp; done) | (simp [*]; done), by repeat (first | exact Drawn0.refl _ | apply Drawn0.step)⟩
       rw [if_neg c9] at H
       have c9b0 : decide (57 < (rd l0 x7_2)) = false := decide_eq_false c9
       clear c9
       have H' := Aside0.mk H
       clear H
       have p120 : 0 ≤ (x7_2 : Int) := of_decide_eq_true (by first | (with_reducible assumption) | assumption)
       have q120 : x7_2 < (l0.length : Int) := of_decide_eq_true (by first | (with_reducible assumption) | assumption)
       obtain ⟨ad120, e120, hx120_0⟩ := Kd.at_int HR0.out x7_2 p120 q120
       cases e120
       replace p120 := eq_true p120
       replace q120 := eq_true q120
       have p121 : 0 ≤ (x7_2 : Int) := of_decide_eq_true (by first | (with_reducible assumption) | assumption)
       have q121 : x7_2 < (l0.length : Int) := of_decide_eq_true (by first | (with_reducible assumption) | assumption)
       obtain ⟨ad121, e121, hx121_0⟩ := Kd.at_int HR0.out x7_2 p121 q121
       obtain rfl : ad120 = ad121 := (by injection e121)
       replace p121 := eq_true p121
       replace q121 := eq_true q121
       have p122 : 0 ≤ (x7_2 : Int) := of_decide_eq_true (by first | (with_reducible assumption) | assumption)
       have q122 : x7_2 < (l0.length : Int) := of_decide_eq_true (by first | (with_reducible assumption) | assumption)
       obtain ⟨ad122, e122, hx122_0⟩ := Kd.at_int HR0.out x7_2 p122 q122
       obtain rfl : ad120 = ad122 := (by injection e122)
       replace p122 := eq_true p122
       replace q122 := eq_true q122
       go_wp2
       go_roundg k2
       case measure => have := HJ2.out; have := HK2.out; omega
       case rel => exact ⟨(IntKind.u64.wrap ((IntKind.u64.wrap (x6_2 * 10)) + (((rd l0 x7_2) - 48) % 256))), (wrap64 (x7_2 + 1)), (by first | rfl | (simp; done) | (simp [*]; done)), (by first | rfl | (simp; done) | (simp [*]; done)), H', ⟨by have := HJ2.out; have := HK2.out; omega⟩, by repeat (first | exact Drawn0.refl _ | apply Drawn0.step)⟩
      rw [if_neg c7] at H
      exact absurd H (by simp)
     rw [if_neg c6] at H
     have c6b0 : decide (x7_2 < (l0.length : Int)) = false := decide_eq_false c6
     clear c6
     simp only [Option.some.injEq, Prod.mk.injEq] at H
     obtain ⟨rfl, rfl⟩ := H
     go_wp2
     go_ret2
     exact ⟨by first | rfl | (simp; done) | (simp [*]; done), by repeat (first | exact Drawn0.refl _ | apply Drawn0.step)⟩
def spec_l6shape.f (a0 : ByteArray) : Option (ByteArray × Int × Int) := if a0.toList = ([111, 112, 101, 110] : List UInt8) then (some ((⟨#[]⟩ : ByteArray), 0, 1)) else (if a0.toList = ([107, 101, 101, 112] : List UInt8) then (some ((⟨#[83]⟩ : ByteArray), 0, 2)) else (if a0.toList = ([99, 108, 111, 115, 101] : List UInt8) then (some ((⟨#[83]⟩ : ByteArray), 0, 3)) else (if a0.toList = ([112, 111, 108, 108] : List UInt8) then (some ((⟨#[83]⟩ : ByteArray), 0, 12)) else (if a0.toList = ([99, 114, 101, 97, 116, 101] : List UInt8) then (some ((⟨#[83, 80, 102, 86]⟩ : ByteArray), 0, 4)) else (if a0.toList = ([100, 101, 108, 101, 116, 101] : List UInt8) then (some ((⟨#[83, 80]⟩ : ByteArray), 0, 5)) else (if a0.toList = ([117, 110, 108, 111, 99, 107] : List UInt8) then (some ((⟨#[83, 80]⟩ : ByteArray), 0, 9)) else (if a0.toList = ([119, 97, 116, 99, 104] : List UInt8) then (some ((⟨#[83, 80]⟩ : ByteArray), 0, 11)) else (if a0.toList = ([103, 101, 116] : List UInt8) then (some ((⟨#[80]⟩ : ByteArray), 0, 6)) else (if a0.toList = ([108, 105, 115, 116] : List UInt8) then (some ((⟨#[80]⟩ : ByteArray), 0, 13)) else (if a0.toList = ([115, 101, 116] : List UInt8) then (some ((⟨#[83, 80, 86]⟩ : ByteArray), 0, 7)) else (if a0.toList = ([108, 111, 99, 107] : List UInt8) then (some ((⟨#[83, 80, 109]⟩ : ByteArray), 0, 8)) else (if a0.toList = ([99, 104, 101, 99, 107] : List UInt8) then (some ((⟨#[83, 80, 69, 71]⟩ : ByteArray), 0, 10)) else (if a0.toList = ([116, 105, 99, 107] : List UInt8) then (some ((⟨#[78]⟩ : ByteArray), 1, 0)) else (if a0.toList = ([115, 119, 101, 101, 112] : List UInt8) then (some ((⟨#[]⟩ : ByteArray), 2, 0)) else (if a0.toList = ([102, 108, 117, 115, 104] : List UInt8) then (some ((⟨#[]⟩ : ByteArray), 3, 0)) else (if a0.toList = ([115, 110, 97, 112] : List UInt8) then (some ((⟨#[]⟩ : ByteArray), 4, 0)) else (if a0.toList = ([99, 114, 97, 115, 104] : List UInt8) then (some ((⟨#[78, 99]⟩ : ByteArray), 5, 0)) else (if a0.toList = ([115, 110, 97, 112, 99, 114, 97, 115, 104] : List UInt8) then (some ((⟨#[110, 77]⟩ : ByteArray), 6, 0)) else (some ((⟨#[63]⟩ : ByteArray), 0, 0))))))))))))))))))))
set_option maxHeartbeats 8000000 in
set_option maxRecDepth 100000 in
theorem spec_l6shape.calls (a0 : ByteArray) (r1 : ByteArray) (r2 : Int) (r3 : Int) (w : World) (h : spec_l6shape.f a0 = some (r1, r2, r3)) :
  Calls Tryd.prog 76 #[.string a0] w fun e w' => e = .returned (.tuple #[.string r1, .int .i64 r2, .int .i64 r3]) ∧ Drawn0 w w' := by
 have H : (if a0.toList = ([111, 112, 101, 110] : List UInt8) then (some ((⟨#[]⟩ : ByteArray), 0, 1)) else (if a0.toList = ([107, 101, 101, 112] : List UInt8) then (some ((⟨#[83]⟩ : ByteArray), 0, 2)) else (if a0.toList = ([99, 108, 111, 115, 101] : List UInt8) then (some ((⟨#[83]⟩ : ByteArray), 0, 3)) else (if a0.toList = ([112, 111, 108, 108] : List UInt8) then (some ((⟨#[83]⟩ : ByteArray), 0, 12)) else (if a0.toList = ([99, 114, 101, 97, 116, 101] : List UInt8) then (some ((⟨#[83, 80, 102, 86]⟩ : ByteArray), 0, 4)) else (if a0.toList = ([100, 101, 108, 101, 116, 101] : List UInt8) then (some ((⟨#[83, 80]⟩ : ByteArray), 0, 5)) else (if a0.toList = ([117, 110, 108, 111, 99, 107] : List UInt8) then (some ((⟨#[83, 80]⟩ : ByteArray), 0, 9)) else (if a0.toList = ([119, 97, 116, 99, 104] : List UInt8) then (some ((⟨#[83, 80]⟩ : ByteArray), 0, 11)) else (if a0.toList = ([103, 101, 116] : List UInt8) then (some ((⟨#[80]⟩ : ByteArray), 0, 6)) else (if a0.toList = ([108, 105, 115, 116] : List UInt8) then (some ((⟨#[80]⟩ : ByteArray), 0, 13)) else (if a0.toList = ([115, 101, 116] : List UInt8) then (some ((⟨#[83, 80, 86]⟩ : ByteArray), 0, 7)) else (if a0.toList = ([108, 111, 99, 107] : List UInt8) then (some ((⟨#[83, 80, 109]⟩ : ByteArray), 0, 8)) else (if a0.toList = ([99, 104, 101, 99, 107] : List UInt8) then (some ((⟨#[83, 80, 69, 71]⟩ : ByteArray), 0, 10)) else (if a0.toList = ([116, 105, 99, 107] : List UInt8) then (some ((⟨#[78]⟩ : ByteArray), 1, 0)) else (if a0.toList = ([115, 119, 101, 101, 112] : List UInt8) then (some ((⟨#[]⟩ : ByteArray), 2, 0)) else (if a0.toList = ([102, 108, 117, 115, 104] : List UInt8) then (some ((⟨#[]⟩ : ByteArray), 3, 0)) else (if a0.toList = ([115, 110, 97, 112] : List UInt8) then (some ((⟨#[]⟩ : ByteArray), 4, 0)) else (if a0.toList = ([99, 114, 97, 115, 104] : List UInt8) then (some ((⟨#[78, 99]⟩ : ByteArray), 5, 0)) else (if a0.toList = ([115, 110, 97, 112, 99, 114, 97, 115, 104] : List UInt8) then (some ((⟨#[110, 77]⟩ : ByteArray), 6, 0)) else (some ((⟨#[63]⟩ : ByteArray), 0, 0))))))))))))))))))))) = some (r1, r2, r3) := h
 clear h
 by_cases c2 : a0.toList = ([111, 112, 101, 110] : List UInt8)
 ·
  rw [if_pos c2] at H
  have c2b0 : (a0.toList == ([111, 112, 101, 110] : List UInt8)) = true := beq_iff_eq.mpr c2
  have c2b1 : (a0.toList != ([111, 112, 101, 110] : List UInt8)) = false := bne_eq_false_iff_eq.mpr c2
  clear c2
  simp only [Option.some.injEq, Prod.mk.injEq] at H
  obtain ⟨rfl, rfl, rfl⟩ := H
  go_enter Tryd.func76, Tryd.ntmps76
  go_wp2
  go_ret3
  exact ⟨by first | rfl | (simp; done) | (simp [*]; done), by repeat (first | exact Drawn0.refl _ | apply Drawn0.step)⟩
 rw [if_neg c2] at H
 have c2b0 : (a0.toList == ([111, 112, 101, 110] : List UInt8)) = false := beq_eq_false_iff_ne.mpr c2
 have c2b1 : (a0.toList != ([111, 112, 101, 110] : List UInt8)) = true := bne_iff_ne.mpr c2
 by_cases c3 : a0.toList = ([107, 101, 101, 112] : List UInt8)
 ·
  rw [if_pos c3] at H
  have c3b0 : (a0.toList == ([107, 101, 101, 112] : List UInt8)) = true := beq_iff_eq.mpr c3
  have c3b1 : (a0.toList != ([107, 101, 101, 112] : List UInt8)) = false := bne_eq_false_iff_eq.mpr c3
  clear c3
  simp only [Option.some.injEq, Prod.mk.injEq] at H
  obtain ⟨rfl, rfl, rfl⟩ := H
  go_enter Tryd.func76, Tryd.ntmps76
  go_wp2
  go_ret3
  exact ⟨by first | rfl | (simp; done) | (simp [*]; done), by repeat (first | exact Drawn0.refl _ | apply Drawn0.step)⟩
 rw [if_neg c3] at H
 have c3b0 : (a0.toList == ([107, 101, 101, 112] : List UInt8)) = false := beq_eq_false_iff_ne.mpr c3
 have c3b1 : (a0.toList != ([107, 101, 101, 112] : List UInt8)) = true := bne_iff_ne.mpr c3
 by_cases c4 : a0.toList = ([99, 108, 111, 115, 101] : List UInt8)
 ·
  rw [if_pos c4] at H
  have c4b0 : (a0.toList == ([99, 108, 111, 115, 101] : List UInt8)) = true := beq_iff_eq.mpr c4
  have c4b1 : (a0.toList != ([99, 108, 111, 115, 101] : List UInt8)) = false := bne_eq_false_iff_eq.mpr c4
  clear c4
  simp only [Option.some.injEq, Prod.mk.injEq] at H
  obtain ⟨rfl, rfl, rfl⟩ := H
  go_enter Tryd.func76, Tryd.ntmps76
  go_wp2
  go_ret3
  exact ⟨by first | rfl | (simp; done) | (simp [*]; done), by repeat (first | exact Drawn0.refl _ | apply Drawn0.step)⟩
 rw [if_neg c4] at H
 have c4b0 : (a0.toList == ([99, 108, 111, 115, 101] : List UInt8)) = false := beq_eq_false_iff_ne.mpr c4
 have c4b1 : (a0.toList != ([99, 108, 111, 115, 101] : List UInt8)) = true := bne_iff_ne.mpr c4
 by_cases c5 : a0.toList = ([112, 111, 108, 108] : List UInt8)
 ·
  rw [if_pos c5] at H
  have c5b0 : (a0.toList == ([112, 111, 108, 108] : List UInt8)) = true := beq_iff_eq.mpr c5
  have c5b1 : (a0.toList != ([112, 111, 108, 108] : List UInt8)) = false := bne_eq_false_iff_eq.mpr c5
  clear c5
  simp only [Option.some.injEq, Prod.mk.injEq] at H
  obtain ⟨rfl, rfl, rfl⟩ := H
  go_enter Tryd.func76, Tryd.ntmps76
  go_wp2
  go_ret3
  exact ⟨by first | rfl | (simp; done) | (simp [*]; done), by repeat (first | exact Drawn0.refl _ | apply Drawn0.step)⟩
 rw [if_neg c5] at H
 have c5b0 : (a0.toList == ([112, 111, 108, 108] : List UInt8)) = false := beq_eq_false_iff_ne.mpr c5
 have c5b1 : (a0.toList != ([112, 111, 108, 108] : List UInt8)) = true := bne_iff_ne.mpr c5
 by_cases c6 : a0.toList = ([99, 114, 101, 97, 116, 101] : List UInt8)
 ·
  rw [if_pos c6] at H
  have c6b0 : (a0.toList == ([99, 114, 101, 97, 116, 101] : List UInt8)) = true := beq_iff_eq.mpr c6
  have c6b1 : (a0.toList != ([99, 114, 101, 97, 116, 101] : List UInt8)) = false := bne_eq_false_iff_eq.mpr c6
  clear c6
  simp only [Option.some.injEq, Prod.mk.injEq] at H
  obtain ⟨rfl, rfl, rfl⟩ := H
  go_enter Tryd.func76, Tryd.ntmps76
  go_wp2
  go_ret3
  exact ⟨by first | rfl | (simp; done) | (simp [*]; done), by repeat (first | exact Drawn0.refl _ | apply Drawn0.step)⟩
 rw [if_neg c6] at H
 have c6b0 : (a0.toList == ([99, 114, 101, 97, 116, 101] : List UInt8)) = false := beq_eq_false_iff_ne.mpr c6
 have c6b1 : (a0.toList != ([99, 114, 101, 97, 116, 101] : List UInt8)) = true := bne_iff_ne.mpr c6
 by_cases c7 : a0.toList = ([100, 101, 108, 101, 116, 101] : List UInt8)
 ·
  rw [if_pos c7] at H
  have c7b0 : (a0.toList == ([100, 101, 108, 101, 116, 101] : List UInt8)) = true := beq_iff_eq.mpr c7
  have c7b1 : (a0.toList != ([100, 101, 108, 101, 116, 101] : List UInt8)) = false := bne_eq_false_iff_eq.mpr c7
  clear c7
  simp only [Option.some.injEq, Prod.mk.injEq] at H
  obtain ⟨rfl, rfl, rfl⟩ := H
  go_enter Tryd.func76, Tryd.ntmps76
  go_wp2
  go_ret3
  exact ⟨by first | rfl | (simp; done) | (simp [*]; done), by repeat (first | exact Drawn0.refl _ | apply Drawn0.step)⟩
 rw [if_neg c7] at H
 have c7b0 : (a0.toList == ([100, 101, 108, 101, 116, 101] : List UInt8)) = false := beq_eq_false_iff_ne.mpr c7
 have c7b1 : (a0.toList != ([100, 101, 108, 101, 116, 101] : List UInt8)) = true := bne_iff_ne.mpr c7
 by_cases c8 : a0.toList = ([117, 110, 108, 111, 99, 107] : List UInt8)
 ·
  rw [if_pos c8] at H
  have c8b0 : (a0.toList == ([117, 110, 108, 111, 99, 107] : List UInt8)) = true := beq_iff_eq.mpr c8
  have c8b1 : (a0.toList != ([117, 110, 108, 111, 99, 107] : List UInt8)) = false := bne_eq_false_iff_eq.mpr c8
  clear c8
  simp only [Option.some.injEq, Prod.mk.injEq] at H
  obtain ⟨rfl, rfl, rfl⟩ := H
  go_enter Tryd.func76, Tryd.ntmps76
  go_wp2
  go_ret3
  exact ⟨by first | rfl | (simp; done) | (simp [*]; done), by repeat (first | exact Drawn0.refl _ | apply Drawn0.step)⟩
 rw [if_neg c8] at H
 have c8b0 : (a0.toList == ([117, 110, 108, 111, 99, 107] : List UInt8)) = false := beq_eq_false_iff_ne.mpr c8
 have c8b1 : (a0.toList != ([117, 110, 108, 111, 99, 107] : List UInt8)) = true := bne_iff_ne.mpr c8
 by_cases c9 : a0.toList = ([119, 97, 116, 99, 104] : List UInt8)
 ·
  rw [if_pos c9] at H
  have c9b0 : (a0.toList == ([119, 97, 116, 99, 104] : List UInt8)) = true := beq_iff_eq.mpr c9
  have c9b1 : (a0.toList != ([119, 97, 116, 99, 104] : List UInt8)) = false := bne_eq_false_iff_eq.mpr c9
  clear c9
  simp only [Option.some.injEq, Prod.mk.injEq] at H
  obtain ⟨rfl, rfl, rfl⟩ := H
  go_enter Tryd.func76, Tryd.ntmps76
  go_wp2
  go_ret3
  exact ⟨by first | rfl | (simp; done) | (simp [*]; done), by repeat (first | exact Drawn0.refl _ | apply Drawn0.step)⟩
 rw [if_neg c9] at H
 have c9b0 : (a0.toList == ([119, 97, 116, 99, 104] : List UInt8)) = false := beq_eq_false_iff_ne.mpr c9
 have c9b1 : (a0.toList != ([119, 97, 116, 99, 104] : List UInt8)) = true := bne_iff_ne.mpr c9
 by_cases c10 : a0.toList = ([103, 101, 116] : List UInt8)
 ·
  rw [if_pos c10] at H
  have c10b0 : (a0.toList == ([103, 101, 116] : List UInt8)) = true := beq_iff_eq.mpr c10
  have c10b1 : (a0.toList != ([103, 101, 116] : List UInt8)) = false := bne_eq_false_iff_eq.mpr c10
  clear c10
  simp only [Option.some.injEq, Prod.mk.injEq] at H
  obtain ⟨rfl, rfl, rfl⟩ := H
  go_enter Tryd.func76, Tryd.ntmps76
  go_wp2
  go_ret3
  exact ⟨by first | rfl | (simp; done) | (simp [*]; done), by repeat (first | exact Drawn0.refl _ | apply Drawn0.step)⟩
 rw [if_neg c10] at H
 have c10b0 : (a0.toList == ([103, 101, 116] : List UInt8)) = false := beq_eq_false_iff_ne.mpr c10
 have c10b1 : (a0.toList != ([103, 101, 116] : List UInt8)) = true := bne_iff_ne.mpr c10
 by_cases c11 : a0.toList = ([108, 105, 115, 116] : List UInt8)
 ·
  rw [if_pos c11] at H
  have c11b0 : (a0.toList == ([108, 105, 115, 116] : List UInt8)) = true := beq_iff_eq.mpr c11
  have c11b1 : (a0.toList != ([108, 105, 115, 116] : List UInt8)) = false := bne_eq_false_iff_eq.mpr c11
  clear c11
  simp only [Option.some.injEq, Prod.mk.injEq] at H
  obtain ⟨rfl, rfl, rfl⟩ := H
  go_enter Tryd.func76, Tryd.ntmps76
  go_wp2
  go_ret3
  exact ⟨by first | rfl | (simp; done) | (simp [*]; done), by repeat (first | exact Drawn0.refl _ | apply Drawn0.step)⟩
 rw [if_neg c11] at H
 have c11b0 : (a0.toList == ([108, 105, 115, 116] : List UInt8)) = false := beq_eq_false_iff_ne.mpr c11
 have c11b1 : (a0.toList != ([108, 105, 115, 116] : List UInt8)) = true := bne_iff_ne.mpr c11
 by_cases c12 : a0.toList = ([115, 101, 116] : List UInt8)
 ·
  rw [if_pos c12] at H
  have c12b0 : (a0.toList == ([115, 101, 116] : List UInt8)) = true := beq_iff_eq.mpr c12
  have c12b1 : (a0.toList != ([115, 101, 116] : List UInt8)) = false := bne_eq_false_iff_eq.mpr c12
  clear c12
  simp only [Option.some.injEq, Prod.mk.injEq] at H
  obtain ⟨rfl, rfl, rfl⟩ := H
  go_enter Tryd.func76, Tryd.ntmps76
  go_wp2
  go_ret3
  exact ⟨by first | rfl | (simp; done) | (simp [*]; done), by repeat (first | exact Drawn0.refl _ | apply Drawn0.step)⟩
 rw [if_neg c12] at H
 have c12b0 : (a0.toList == ([115, 101, 116] : List UInt8)) = false := beq_eq_false_iff_ne.mpr c12
 have c12b1 : (a0.toList != ([115, 101, 116] : List UInt8)) = true := bne_iff_ne.mpr c12
 by_cases c13 : a0.toList = ([108, 111, 99, 107] : List UInt8)
 ·
  rw [if_pos c13] at H
  have c13b0 : (a0.toList == ([108, 111, 99, 107] : List UInt8)) = true := beq_iff_eq.mpr c13
  have c13b1 : (a0.toList != ([108, 111, 99, 107] : List UInt8)) = false := bne_eq_false_iff_eq.mpr c13
  clear c13
  simp only [Option.some.injEq, Prod.mk.injEq] at H
  obtain ⟨rfl, rfl, rfl⟩ := H
  go_enter Tryd.func76, Tryd.ntmps76
  go_wp2
  go_ret3
  exact ⟨by first | rfl | (simp; done) | (simp [*]; done), by repeat (first | exact Drawn0.refl _ | apply Drawn0.step)⟩
 rw [if_neg c13] at H
 have c13b0 : (a0.toList == ([108, 111, 99, 107] : List UInt8)) = false := beq_eq_false_iff_ne.mpr c13
 have c13b1 : (a0.toList != ([108, 111, 99, 107] : List UInt8)) = true := bne_iff_ne.mpr c13
 by_cases c14 : a0.toList = ([99, 104, 101, 99, 107] : List UInt8)
 ·
  rw [if_pos c14] at H
  have c14b0 : (a0.toList == ([99, 104, 101, 99, 107] : List UInt8)) = true := beq_iff_eq.mpr c14
  have c14b1 : (a0.toList != ([99, 104, 101, 99, 107] : List UInt8)) = false := bne_eq_false_iff_eq.mpr c14
  clear c14
  simp only [Option.some.injEq, Prod.mk.injEq] at H
  obtain ⟨rfl, rfl, rfl⟩ := H
  go_enter Tryd.func76, Tryd.ntmps76
  go_wp2
  go_ret3
  exact ⟨by first | rfl | (simp; done) | (simp [*]; done), by repeat (first | exact Drawn0.refl _ | apply Drawn0.step)⟩
 rw [if_neg c14] at H
 have c14b0 : (a0.toList == ([99, 104, 101, 99, 107] : List UInt8)) = false := beq_eq_false_iff_ne.mpr c14
 have c14b1 : (a0.toList != ([99, 104, 101, 99, 107] : List UInt8)) = true := bne_iff_ne.mpr c14
 by_cases c15 : a0.toList = ([116, 105, 99, 107] : List UInt8)
 ·
  rw [if_pos c15] at H
  have c15b0 : (a0.toList == ([116, 105, 99, 107] : List UInt8)) = true := beq_iff_eq.mpr c15
  have c15b1 : (a0.toList != ([116, 105, 99, 107] : List UInt8)) = false := bne_eq_false_iff_eq.mpr c15
  clear c15
  simp only [Option.some.injEq, Prod.mk.injEq] at H
  obtain ⟨rfl, rfl, rfl⟩ := H
  go_enter Tryd.func76, Tryd.ntmps76
  go_wp2
  go_ret3
  exact ⟨by first | rfl | (simp; done) | (simp [*]; done), by repeat (first | exact Drawn0.refl _ | apply Drawn0.step)⟩
 rw [if_neg c15] at H
 have c15b0 : (a0.toList == ([116, 105, 99, 107] : List UInt8)) = false := beq_eq_false_iff_ne.mpr c15
 have c15b1 : (a0.toList != ([116, 105, 99, 107] : List UInt8)) = true := bne_iff_ne.mpr c15
 by_cases c16 : a0.toList = ([115, 119, 101, 101, 112] : List UInt8)
 ·
  rw [if_pos c16] at H
  have c16b0 : (a0.toList == ([115, 119, 101, 101, 112] : List UInt8)) = true := beq_iff_eq.mpr c16
  have c16b1 : (a0.toList != ([115, 119, 101, 101, 112] : List UInt8)) = false := bne_eq_false_iff_eq.mpr c16
  clear c16
  simp only [Option.some.injEq, Prod.mk.injEq] at H
  obtain ⟨rfl, rfl, rfl⟩ := H
  go_enter Tryd.func76, Tryd.ntmps76
  go_wp2
  go_ret3
  exact ⟨by first | rfl | (simp; done) | (simp [*]; done), by repeat (first | exact Drawn0.refl _ | apply Drawn0.step)⟩
 rw [if_neg c16] at H
 have c16b0 : (a0.toList == ([115, 119, 101, 101, 112] : List UInt8)) = false := beq_eq_false_iff_ne.mpr c16
 have c16b1 : (a0.toList != ([115, 119, 101, 101, 112] : List UInt8)) = true := bne_iff_ne.mpr c16
 by_cases c17 : a0.toList = ([102, 108, 117, 115, 104] : List UInt8)
 ·
  rw [if_pos c17] at H
  have c17b0 : (a0.toList == ([102, 108, 117, 115, 104] : List UInt8)) = true := beq_iff_eq.mpr c17
  have c17b1 : (a0.toList != ([102, 108, 117, 115, 104] : List UInt8)) = false := bne_eq_false_iff_eq.mpr c17
  clear c17
  simp only [Option.some.injEq, Prod.mk.injEq] at H
  obtain ⟨rfl, rfl, rfl⟩ := H
  go_enter Tryd.func76, Tryd.ntmps76
  go_wp2
  go_ret3
  exact ⟨by first | rfl | (simp; done) | (simp [*]; done), by repeat (first | exact Drawn0.refl _ | apply Drawn0.step)⟩
 rw [if_neg c17] at H
 have c17b0 : (a0.toList == ([102, 108, 117, 115, 104] : List UInt8)) = false := beq_eq_false_iff_ne.mpr c17
 have c17b1 : (a0.toList != ([102, 108, 117, 115, 104] : List UInt8)) = true := bne_iff_ne.mpr c17
 by_cases c18 : a0.toList = ([115, 110, 97, 112] : List UInt8)
 ·
  rw [if_pos c18] at H
  have c18b0 : (a0.toList == ([115, 110, 97, 112] : List UInt8)) = true := beq_iff_eq.mpr c18
  have c18b1 : (a0.toList != ([115, 110, 97, 112] : List UInt8)) = false := bne_eq_false_iff_eq.mpr c18
  clear c18
  simp only [Option.some.injEq, Prod.mk.injEq] at H
  obtain ⟨rfl, rfl, rfl⟩ := H
  go_enter Tryd.func76, Tryd.ntmps76
  go_wp2
  go_ret3
  exact ⟨by first | rfl | (simp; done) | (simp [*]; done), by repeat (first | exact Drawn0.refl _ | apply Drawn0.step)⟩
 rw [if_neg c18] at H
 have c18b0 : (a0.toList == ([115, 110, 97, 112] : List UInt8)) = false := beq_eq_false_iff_ne.mpr c18
 have c18b1 : (a0.toList != ([115, 110, 97, 112] : List UInt8)) = true := bne_iff_ne.mpr c18
 by_cases c19 : a0.toList = ([99, 114, 97, 115, 104] : List UInt8)
 ·
  rw [if_pos c19] at H
  have c19b0 : (a0.toList == ([99, 114, 97, 115, 104] : List UInt8)) = true := beq_iff_eq.mpr c19
  have c19b1 : (a0.toList != ([99, 114, 97, 115, 104] : List UInt8)) = false := bne_eq_false_iff_eq.mpr c19
  clear c19
  simp only [Option.some.injEq, Prod.mk.injEq] at H
  obtain ⟨rfl, rfl, rfl⟩ := H
  go_enter Tryd.func76, Tryd.ntmps76
  go_wp2
  go_ret3
  exact ⟨by first | rfl | (simp; done) | (simp [*]; done), by repeat (first | exact Drawn0.refl _ | apply Drawn0.step)⟩
 rw [if_neg c19] at H
 have c19b0 : (a0.toList == ([99, 114, 97, 115, 104] : List UInt8)) = false := beq_eq_false_iff_ne.mpr c19
 have c19b1 : (a0.toList != ([99, 114, 97, 115, 104] : List UInt8)) = true := bne_iff_ne.mpr c19
 by_cases c20 : a0.toList = ([115, 110, 97, 112, 99, 114, 97, 115, 104] : List UInt8)
 ·
  rw [if_pos c20] at H
  have c20b0 : (a0.toList == ([115, 110, 97, 112, 99, 114, 97, 115, 104] : List UInt8)) = true := beq_iff_eq.mpr c20
  have c20b1 : (a0.toList != ([115, 110, 97, 112, 99, 114, 97, 115, 104] : List UInt8)) = false := bne_eq_false_iff_eq.mpr c20
  clear c20
  simp only [Option.some.injEq, Prod.mk.injEq] at H
  obtain ⟨rfl, rfl, rfl⟩ := H
  go_enter Tryd.func76, Tryd.ntmps76
  go_wp2
  go_ret3
  exact ⟨by first | rfl | (simp; done) | (simp [*]; done), by repeat (first | exact Drawn0.refl _ | apply Drawn0.step)⟩
 rw [if_neg c20] at H
 have c20b0 : (a0.toList == ([115, 110, 97, 112, 99, 114, 97, 115, 104] : List UInt8)) = false := beq_eq_false_iff_ne.mpr c20
 have c20b1 : (a0.toList != ([115, 110, 97, 112, 99, 114, 97, 115, 104] : List UInt8)) = true := bne_iff_ne.mpr c20
 simp only [Option.some.injEq, Prod.mk.injEq] at H
 obtain ⟨rfl, rfl, rfl⟩ := H
 go_enter Tryd.func76, Tryd.ntmps76
 go_wp2
 go_ret3
 exact ⟨by first | rfl | (simp; done) | (simp [*]; done), by repeat (first | exact Drawn0.refl _ | apply Drawn0.step)⟩
theorem u64w (x : Int) (h0 : 0 ≤ x) (h1 : x < 18446744073709551616) : IntKind.u64.wrap x = x := by
 simp [IntKind.wrap, IntKind.bits, IntKind.signed]
 omega
theorem up64 (i : Nat) (h : i ≤ 140737488355328) : wrap64 ((i : Int) + 1) = ((i + 1 : Nat) : Int) := by unfold wrap64; omega
theorem rd_at (l : List Int) (i : Nat) (h : i < l.length) : rd l (i : Int) = l[i] := by
 unfold rd
 rw [Int.toNat_natCast, List.getD_eq_getElem?_getD, List.getElem?_eq_getElem h]
 rfl
theorem l6words_loop (l : List Int) (hl : l.length ≤ 2097152) : ∀ (d i : Nat) (out : List (List Int)) (one : List Int), i + d = l.length → out.length ≤ i → one.length ≤ i → ∀ k, 2 * d + 3 ≤ k → spec_l6words.l0 k l out one (i : Int) = some (out ++ wdsG one (l.drop i))
 | 0, i, out, one, hi, ho, hn, k, hk => by
  obtain ⟨k, rfl⟩ : ∃ q, k = q + 3 := ⟨k - 3, by omega⟩
  have e : l.drop i = [] := List.drop_eq_nil_of_le (by omega)
  rw [spec_l6words.l0, if_pos (by omega), if_pos (by omega), spec_l6words.j1, if_pos rfl, e, up64 i (by omega)]
  unfold wdsG
  by_cases h : one = []
  ·
   subst h
   rw [if_neg (by simp), spec_l6words.l0, if_neg (by omega), if_pos rfl, List.append_nil]
  have hp : (one.length : Int) > 0 := by
   have : one.length ≠ 0 := fun q => h (List.eq_nil_of_length_eq_zero q)
   omega
  rw [if_pos hp, if_pos (by omega), spec_l6words.l0, if_neg (by omega), if_neg h]
 | d + 1, i, out, one, hi, ho, hn, k, hk => by
  obtain ⟨k, rfl⟩ : ∃ q, k = q + 2 := ⟨k - 2, by omega⟩
  have hlt : i < l.length := by omega
  have e : l.drop i = l[i] :: l.drop (i + 1) := List.drop_eq_getElem_cons hlt
  rw [spec_l6words.l0, if_pos (by omega), if_neg (by omega), if_pos (by omega), if_pos (by omega), spec_l6words.j1, rd_at l i hlt, e, up64 i (by omega), wdsG]
  by_cases c : l[i] = 32
  ·
   rw [if_pos (by rw [c]; rfl), if_pos c]
   by_cases h : one = []
   ·
    subst h
    rw [if_neg (by simp), if_pos rfl]
    exact l6words_loop l hl d (i + 1) out [] (by omega) (by omega) (by simp) k (by omega)
   have hp : (one.length : Int) > 0 := by
    have : one.length ≠ 0 := fun q => h (List.eq_nil_of_length_eq_zero q)
    omega
   rw [if_pos hp, if_pos (by omega), if_neg h, l6words_loop l hl d (i + 1) (out ++ [one]) [] (by omega) (by simp; omega) (by simp) k (by omega)]
   simp
  rw [if_neg (by simpa using c), if_neg c, if_pos (by omega), if_pos (by omega), if_pos (by omega)]
  exact l6words_loop l hl d (i + 1) out (one ++ [l[i]]) (by omega) (by omega) (by simp; omega) k (by omega)
theorem l6words_f (l : List Int) (hl : l.length ≤ 2097152) (k : Nat) (hk : 2 * l.length + 3 ≤ k) : spec_l6words.f k l = some (wds l) := by
 unfold spec_l6words.f
 have := l6words_loop l hl l.length 0 [] [] (by omega) (by simp) (by simp) k hk
 rw [show ((0 : Nat) : Int) = 0 from rfl] at this
 rw [this]
 rfl
theorem numV_snoc (l : List Int) (i : Nat) (h : i < l.length) : numV (l.take (i + 1)) = numV (l.take i) * 10 + (l[i] - 48) := by
 unfold numV
 rw [List.take_succ_eq_append_getElem h, List.foldl_append]
 rfl
theorem numV_bound (l : List Int) : ∀ i, i ≤ l.length → (∀ j (hj : j < l.length), j < i → 48 ≤ l[j] ∧ l[j] ≤ 57) → 0 ≤ numV (l.take i) ∧ numV (l.take i) < 10 ^ i
 | 0, _, _ => by simp [numV]
 | i + 1, h, hd => by
  have ih := numV_bound l i (by omega) (fun j hj q => hd j hj (by omega))
  have hc := hd i (by omega) (by omega)
  rw [numV_snoc l i (by omega), Int.pow_succ]
  omega
theorem l6number_loop (l : List Int) (hl : l.length ≤ 19) (hb : ∀ x ∈ l, 0 ≤ x ∧ x < 256) (most : Int) : ∀ (d i : Nat), i + d = l.length → (∀ j (hj : j < l.length), j < i → 48 ≤ l[j] ∧ l[j] ≤ 57) → ∀ k, d < k → spec_l6number.l0 k l most (numV (l.take i)) (i : Int) = some (if digB l = true then (numV l, decide (numV l ≤ most)) else (0, false))
 | 0, i, hi, hd, k, hk => by
  obtain ⟨k, rfl⟩ : ∃ q, k = q + 1 := ⟨k - 1, by omega⟩
  obtain rfl : i = l.length := by omega
  have hdb : digB l = true := by
   unfold digB
   rw [List.all_eq_true]
   intro x hx
   obtain ⟨j, hj, rfl⟩ := List.getElem_of_mem hx
   have := hd j hj hj
   simp [this.1, this.2]
  rw [spec_l6number.l0, if_neg (by omega), List.take_length, if_pos hdb]
 | d + 1, i, hi, hd, k, hk => by
  obtain ⟨k, rfl⟩ : ∃ q, k = q + 1 := ⟨k - 1, by omega⟩
  have hlt : i < l.length := by omega
  have hcb := hb l[i] (List.getElem_mem hlt)
  rw [spec_l6number.l0, if_pos (by omega), if_pos (by omega), rd_at l i hlt]
  have hno : ∀ (q : ¬ (48 ≤ l[i] ∧ l[i] ≤ 57)), digB l = false := fun q => by
   unfold digB
   rw [List.all_eq_false]
   exact ⟨l[i], List.getElem_mem hlt, by simpa using q⟩
  by_cases c1 : l[i] < 48
  ·
   rw [if_pos c1, hno (by omega), if_neg (by decide)]
  by_cases c2 : l[i] > 57
  ·
   rw [if_neg c1, if_pos c2, hno (by omega), if_neg (by decide)]
  rw [if_neg c1, if_neg c2]
  have hbd := numV_bound l i (by omega) hd
  have hp : (10 : Int) ^ i ≤ 10 ^ 18 := by
   have h := Nat.pow_le_pow_right (n := 10) (by decide) (show i ≤ 18 by omega)
   exact_mod_cast h
  have h18 : (10 : Int) ^ 18 = 1000000000000000000 := by decide
  have u1 : IntKind.u64.wrap (numV (l.take i) * 10) = numV (l.take i) * 10 := u64w _ (by omega) (by omega)
  have m1 : (l[i] - 48) % 256 = l[i] - 48 := by omega
  rw [u1, m1, u64w _ (by omega) (by omega), ← numV_snoc l i hlt, up64 i (by omega)]
  exact l6number_loop l hl hb most d (i + 1) (by omega) (fun j hj q => by
   by_cases e : j = i
   ·
    subst e; omega
   exact hd j hj (by omega)) k (by omega)
theorem l6number_f (l : List Int) (hb : ∀ x ∈ l, 0 ≤ x ∧ x < 256) (hl : l.length ≤ 2097152) (most : Int) (k : Nat) (hk : 30 ≤ k) : spec_l6number.f k l most = some (tkV l, cntB l most) := by
 obtain ⟨k, rfl⟩ : ∃ q, k = q + 1 := ⟨k - 1, by omega⟩
 have hF : frmB l = (decide (1 ≤ l.length) && decide (l.length ≤ 19) && digB l) := rfl
 unfold spec_l6number.f cntB tkV
 by_cases h1 : l.length < 1
 ·
  rw [if_pos (by omega), spec_l6number.j0, if_pos rfl, hF, decide_eq_false (show ¬ 1 ≤ l.length by omega)]
  rfl
 by_cases h2 : 19 < l.length
 ·
  rw [if_neg (by omega), decide_eq_true (show ((l.length : Int) > 19) by omega), spec_l6number.j0, if_pos rfl, hF, decide_eq_false (show ¬ l.length ≤ 19 by omega), Bool.and_false]
  rfl
 rw [if_neg (by omega), decide_eq_false (show ¬ ((l.length : Int) > 19) by omega), spec_l6number.j0, if_neg (by decide)]
 have := l6number_loop l (by omega) hb most l.length 0 (by omega) (fun j _ q => absurd q (by omega)) k (by omega)
 rw [show numV (l.take 0) = 0 from rfl, show ((0 : Nat) : Int) = 0 from rfl] at this
 rw [this, hF, decide_eq_true (show 1 ≤ l.length by omega), decide_eq_true (show l.length ≤ 19 by omega)]
 cases digB l <;> rfl
theorem key_eqS {q key : List Int} (hq : ∀ x ∈ q, 0 ≤ x ∧ x < 256) (hk : ∀ x ∈ key, 0 ≤ x ∧ x < 256) {L : List UInt8} (hL : Lib.bytesOf key = L) : (strOfNums q).toList = L ↔ q = key := by
 constructor
 ·
  intro h
  refine strOf_inj hq hk (bytes_eq ?_)
  rw [← Lib.toList_data, h, strData, hL]
 rintro rfl
 rw [Lib.toList_data, strData, hL]
set_option maxHeartbeats 2000000 in
theorem l6shape_f (q : List Int) (hq : ∀ x ∈ q, 0 ≤ x ∧ x < 256) : spec_l6shape.f (strOfNums q) = some (strOfNums (shpF q).1, (shpF q).2.1, (shpF q).2.2) := by
 by_cases h : shpT.any (fun x => x.1 == q) = true
 ·
  rw [List.any_eq_true] at h
  obtain ⟨x, hx, he⟩ := h
  have he' := eq_of_beq he
  subst he'
  simp only [shpT, List.mem_cons, List.mem_nil_iff, or_false] at hx
  rcases hx with rfl | rfl | rfl | rfl | rfl | rfl | rfl | rfl | rfl | rfl | rfl | rfl | rfl | rfl | rfl | rfl | rfl | rfl | rfl <;> (show _ = _; first | rfl | kernel_rfl)
 have hn : shpT.find? (fun x => x.1 == q) = none := by
  rw [List.find?_eq_none]
  intro x hx e
  exact h (List.any_eq_true.2 ⟨x, hx, e⟩)
 have hs : shpF q = ([63], 0, 0) := by unfold shpF; rw [hn]; rfl
 have hne : ∀ x ∈ shpT, ¬ q = x.1 := fun x hx e => h (List.any_eq_true.2 ⟨x, hx, by rw [e]; exact beq_self_eq_true _⟩)
 simp only [shpT, List.mem_cons, List.mem_nil_iff, or_false, forall_eq_or_imp, forall_eq] at hne
 obtain ⟨n1, n2, n3, n4, n5, n6, n7, n8, n9, n10, n11, n12, n13, n14, n15, n16, n17, n18, n19⟩ := hne
 unfold spec_l6shape.f
 rw [hs]
 have m1 : ¬ (strOfNums q).toList = [111, 112, 101, 110] := fun e => n1 ((key_eqS hq (by decide) rfl).1 e)
 have m2 : ¬ (strOfNums q).toList = [107, 101, 101, 112] := fun e => n2 ((key_eqS hq (by decide) rfl).1 e)
 have m3 : ¬ (strOfNums q).toList = [99, 108, 111, 115, 101] := fun e => n3 ((key_eqS hq (by decide) rfl).1 e)
 have m4 : ¬ (strOfNums q).toList = [112, 111, 108, 108] := fun e => n4 ((key_eqS hq (by decide) rfl).1 e)
 have m5 : ¬ (strOfNums q).toList = [99, 114, 101, 97, 116, 101] := fun e => n5 ((key_eqS hq (by decide) rfl).1 e)
 have m6 : ¬ (strOfNums q).toList = [100, 101, 108, 101, 116, 101] := fun e => n6 ((key_eqS hq (by decide) rfl).1 e)
 have m7 : ¬ (strOfNums q).toList = [117, 110, 108, 111, 99, 107] := fun e => n7 ((key_eqS hq (by decide) rfl).1 e)
 have m8 : ¬ (strOfNums q).toList = [119, 97, 116, 99, 104] := fun e => n8 ((key_eqS hq (by decide) rfl).1 e)
 have m9 : ¬ (strOfNums q).toList = [103, 101, 116] := fun e => n9 ((key_eqS hq (by decide) rfl).1 e)
 have m10 : ¬ (strOfNums q).toList = [108, 105, 115, 116] := fun e => n10 ((key_eqS hq (by decide) rfl).1 e)
 have m11 : ¬ (strOfNums q).toList = [115, 101, 116] := fun e => n11 ((key_eqS hq (by decide) rfl).1 e)
 have m12 : ¬ (strOfNums q).toList = [108, 111, 99, 107] := fun e => n12 ((key_eqS hq (by decide) rfl).1 e)
 have m13 : ¬ (strOfNums q).toList = [99, 104, 101, 99, 107] := fun e => n13 ((key_eqS hq (by decide) rfl).1 e)
 have m14 : ¬ (strOfNums q).toList = [116, 105, 99, 107] := fun e => n14 ((key_eqS hq (by decide) rfl).1 e)
 have m15 : ¬ (strOfNums q).toList = [115, 119, 101, 101, 112] := fun e => n15 ((key_eqS hq (by decide) rfl).1 e)
 have m16 : ¬ (strOfNums q).toList = [102, 108, 117, 115, 104] := fun e => n16 ((key_eqS hq (by decide) rfl).1 e)
 have m17 : ¬ (strOfNums q).toList = [115, 110, 97, 112] := fun e => n17 ((key_eqS hq (by decide) rfl).1 e)
 have m18 : ¬ (strOfNums q).toList = [99, 114, 97, 115, 104] := fun e => n18 ((key_eqS hq (by decide) rfl).1 e)
 have m19 : ¬ (strOfNums q).toList = [115, 110, 97, 112, 99, 114, 97, 115, 104] := fun e => n19 ((key_eqS hq (by decide) rfl).1 e)
 rw [if_neg m1, if_neg m2, if_neg m3, if_neg m4, if_neg m5, if_neg m6, if_neg m7, if_neg m8, if_neg m9, if_neg m10, if_neg m11, if_neg m12, if_neg m13, if_neg m14, if_neg m15, if_neg m16, if_neg m17, if_neg m18, if_neg m19]
 rfl
def spec_l1copy.f (l0 : List Int) : Option (List Int) := if ([] : List Int).length + l0.length < 140737488355328 then (some (([] : List Int) ++ l0)) else (none)
set_option maxHeartbeats 8000000 in
set_option maxRecDepth 100000 in
theorem spec_l1copy.calls (A0 : Option Addr) (c0 : Nat) (l0 : List Int) (r : List Int) (w : World) (hr0 : Kd.C (Kd.int .u8) w A0 l0.length l0) (hc0 : l0.length ≤ c0) (h : spec_l1copy.f l0 = some r) :
  Calls Tryd.prog 108 #[.slice A0 l0.length c0] w fun e w' => ∃ v0_ : Value, e = .returned (v0_) ∧ Kd.R (Kd.int .u8) 5 w' w.heap.size (fun _ => True) v0_ r ∧ Below w.heap.size w w' := by
 have HR0 := Aside0.mk hr0
 have HC0 := Aside0.mk hc0
 clear hr0 hc0
 have HB := Aside0.mk (Below.refl w.heap.size w)
 have H : (if ([] : List Int).length + l0.length < 140737488355328 then (some (([] : List Int) ++ l0)) else (none)) = some r := h
 clear h
 by_cases c2 : ([] : List Int).length + l0.length < 140737488355328
 ·
  rw [if_pos c2] at H
  have LMc2 := Aside0.mk c2
  clear c2
  obtain ⟨y117, hy117⟩ : ∃ y_ : List Int, y_ = (([] : List Int) ++ l0) := ⟨_, rfl⟩
  replace H : (some y117) = some r := by first | (rw [hy117]; with_reducible exact H) | (have H2_ := (Option.bind_some _ _).symm.trans H; rw [hy117]; with_reducible exact H2_) | (have H2_ := (Option.bind_some _ _).symm.trans H; with_reducible exact H2_) | with_reducible exact H | (rw [hy117]; exact H) | exact H
  have Ny117 := Aside0.mk hy117
  clear hy117
  obtain rfl := Option.some.inj H
  go_enter Tryd.func108, Tryd.ntmps108
  go_wp2_with (first | ((with_reducible refine gate_builtin (b := .append) (xs := #[.tmp 4, .tmp 5]) rfl ?_); at_builtin; refine Kd.R_append_rows (Kd.int .u8) (w0 := w) w.heap.size rfl (.tmp 4) (.tmp 5) 22 5 (.int .u8 0) 1 rfl Tryd.underlying22 info5 rfl (by decide) (by omega) (.slice none 0 0) ([] : List Int) l0 _ _ _ (fun _ => True) (fun _ => False) rfl rfl ?aO ?aR (fun _ _ h => h) (fun _ h => h.elim) ?aF ?aB ?aS ?aL ?_; (case aR => repeat (first | exact HR0.out | (with_reducible refine Kd.C_alloc ?_ _) | (with_reducible refine Kd.C_drewN ?_ _) | (with_reducible refine Kd.C_drew ?_))); (case aB => exact (by repeat (first | (with_reducible first | exact HB.out | apply below_alloc | apply pw_below_drewN | apply below_drew1) | exact HB.out))); (case aF => exact (fun _ _ => trivial)); (case aO => exact ((Kd.R_nil _ _ _ _ (fun _ => True)))); (case aS => exact (below_size (by repeat (first | (with_reducible first | exact HB.out | apply below_alloc | apply pw_below_drewN | apply below_drew1) | exact HB.out)))); (case aL => have := LMc2.out; omega); intro v118 w3 ho hb hg hat; rw [← Ny117.out] at ho; have n0_ := Aside0.mk (hb); have n1_ := Aside0.mk (ho); clear HB; have HB := n0_; have HO119 := n1_; clear n0_ n1_; clear ho hb hg hat))
  go_ret
  exact ⟨_, by first | rfl | (simp [errW_none, errW_some] <;> rfl) | (simp [*, errW_none, errW_some] <;> rfl), by (with_reducible repeat (first | apply Kd.R_alloc | apply Kd.R_drewN | apply Kd.R_drew)); exact HO119.out, by repeat (first | (with_reducible first | exact HB.out | apply below_alloc | apply pw_below_drewN | apply below_drew1) | exact HB.out)⟩
 rw [if_neg c2] at H
 exact absurd H (by simp)
def spec_l3same.f (l0 : List Int) (l1 : List Int) : Option (Bool) := some ((strOfNums l0).toList == (strOfNums l1).toList)
set_option maxHeartbeats 8000000 in
set_option maxRecDepth 100000 in
theorem spec_l3same.calls (A0 : Option Addr) (c0 : Nat) (l0 : List Int) (A1 : Option Addr) (c1 : Nat) (l1 : List Int) (r : Bool) (w : World) (hr0 : Kd.C (Kd.int .u8) w A0 l0.length l0) (hc0 : l0.length ≤ c0) (hr1 : Kd.C (Kd.int .u8) w A1 l1.length l1) (hc1 : l1.length ≤ c1) (h : spec_l3same.f l0 l1 = some r) :
  Calls Tryd.prog 68 #[.slice A0 l0.length c0, .slice A1 l1.length c1] w fun e w' => e = .returned (.bool r) ∧ Drawn0 w w' := by
 have HR0 := Aside0.mk hr0
 have HC0 := Aside0.mk hc0
 clear hr0 hc0
 have HR1 := Aside0.mk hr1
 have HC1 := Aside0.mk hc1
 clear hr1 hc1
 have H : (some ((strOfNums l0).toList == (strOfNums l1).toList)) = some r := h
 clear h
 obtain rfl := Option.some.inj H
 have hcv3 := Kd.C_string (P := Tryd.prog) (A := A0) (c := c0) Tryd.underlying22 Tryd.underlying5 Tryd.underlying9 HR0.out
 have hcv4 := Kd.C_string (P := Tryd.prog) (A := A1) (c := c1) Tryd.underlying22 Tryd.underlying5 Tryd.underlying9 HR1.out
 go_enter Tryd.func68, Tryd.ntmps68
 go_wp2
 go_ret
 exact ⟨by first | rfl | (simp; done) | (simp [*]; done), by repeat (first | exact Drawn0.refl _ | apply Drawn0.step)⟩
theorem far10 {W : World} {g g' : Nat} {o : Obj} {v0 v1 v2 v3 v4 v5 v6 v7 v8 v9 : Value} (h : W.heap[g]? = some o) (hne : g ≠ g') : ((((((((((W.setCell ⟨g', 0, none⟩ v0).setCell ⟨g', 1, none⟩ v1).setCell ⟨g', 2, none⟩ v2).setCell ⟨g', 3, none⟩ v3).setCell ⟨g', 4, none⟩ v4).setCell ⟨g', 5, none⟩ v5).setCell ⟨g', 6, none⟩ v6).setCell ⟨g', 7, none⟩ v7).setCell ⟨g', 8, none⟩ v8).setCell ⟨g', 9, none⟩ v9).heap[g]? = some o :=
 ((Below.heap_setCell (((((((((W.setCell ⟨g', 0, none⟩ v0).setCell ⟨g', 1, none⟩ v1).setCell ⟨g', 2, none⟩ v2).setCell ⟨g', 3, none⟩ v3).setCell ⟨g', 4, none⟩ v4).setCell ⟨g', 5, none⟩ v5).setCell ⟨g', 6, none⟩ v6).setCell ⟨g', 7, none⟩ v7).setCell ⟨g', 8, none⟩ v8) ⟨g', 9, none⟩ v9 g hne).trans ((Below.heap_setCell ((((((((W.setCell ⟨g', 0, none⟩ v0).setCell ⟨g', 1, none⟩ v1).setCell ⟨g', 2, none⟩ v2).setCell ⟨g', 3, none⟩ v3).setCell ⟨g', 4, none⟩ v4).setCell ⟨g', 5, none⟩ v5).setCell ⟨g', 6, none⟩ v6).setCell ⟨g', 7, none⟩ v7) ⟨g', 8, none⟩ v8 g hne).trans ((Below.heap_setCell (((((((W.setCell ⟨g', 0, none⟩ v0).setCell ⟨g', 1, none⟩ v1).setCell ⟨g', 2, none⟩ v2).setCell ⟨g', 3, none⟩ v3).setCell ⟨g', 4, none⟩ v4).setCell ⟨g', 5, none⟩ v5).setCell ⟨g', 6, none⟩ v6) ⟨g', 7, none⟩ v7 g hne).trans ((Below.heap_setCell ((((((W.setCell ⟨g', 0, none⟩ v0).setCell ⟨g', 1, none⟩ v1).setCell ⟨g', 2, none⟩ v2).setCell ⟨g', 3, none⟩ v3).setCell ⟨g', 4, none⟩ v4).setCell ⟨g', 5, none⟩ v5) ⟨g', 6, none⟩ v6 g hne).trans ((Below.heap_setCell (((((W.setCell ⟨g', 0, none⟩ v0).setCell ⟨g', 1, none⟩ v1).setCell ⟨g', 2, none⟩ v2).setCell ⟨g', 3, none⟩ v3).setCell ⟨g', 4, none⟩ v4) ⟨g', 5, none⟩ v5 g hne).trans ((Below.heap_setCell ((((W.setCell ⟨g', 0, none⟩ v0).setCell ⟨g', 1, none⟩ v1).setCell ⟨g', 2, none⟩ v2).setCell ⟨g', 3, none⟩ v3) ⟨g', 4, none⟩ v4 g hne).trans ((Below.heap_setCell (((W.setCell ⟨g', 0, none⟩ v0).setCell ⟨g', 1, none⟩ v1).setCell ⟨g', 2, none⟩ v2) ⟨g', 3, none⟩ v3 g hne).trans ((Below.heap_setCell ((W.setCell ⟨g', 0, none⟩ v0).setCell ⟨g', 1, none⟩ v1) ⟨g', 2, none⟩ v2 g hne).trans ((Below.heap_setCell (W.setCell ⟨g', 0, none⟩ v0) ⟨g', 1, none⟩ v1 g hne).trans ((Below.heap_setCell W ⟨g', 0, none⟩ v0 g hne).trans h))))))))))
theorem l1copy_s (l : List Int) (h : l.length ≤ 2097152) : spec_l1copy.f l = some l := by
 unfold spec_l1copy.f
 simp only [List.length_nil, Nat.zero_add, List.nil_append]
 first | rfl | (rw [if_pos (by omega)])
theorem copy_bk (w0 : World) (A : Option Addr) (c : Nat) (l : List Int) (w : World) (h0 : Kd.C (Kd.int .u8) w A l.length l) (hc : l.length ≤ c) (hl : l.length ≤ 2097152) (hB : Below w0.heap.size w0 w) :
  Calls Tryd.prog 108 #[.slice A l.length c] w fun r w' => ∃ B d, r = .returned (.slice B l.length d) ∧ BK w0 w' w.heap.size w'.heap.size B d l ∧ Below w.heap.size w w' := by
 refine (spec_l1copy.calls A c l l w h0 hc (l1copy_s l hl)).mono ?_
 rintro r w' ⟨v, rfl, hr, hb⟩
 obtain ⟨B, d, rfl⟩ := Kd.R_slice hr
 exact ⟨B, d, rfl, BK.of hr hB, hb⟩
theorem same_calls (A : Option Addr) (c : Nat) (l : List Int) (w : World) (h0 : Kd.C (Kd.int .u8) w A l.length l) (hc : l.length ≤ c) (hl : ∀ x ∈ l, 0 ≤ x ∧ x < 256) (q : Int) (hq : 0 ≤ q ∧ q < 256) (b : Nat) (hb : w.cell? ⟨b, 0, none⟩ = some (.int .u8 q)) :
  Calls Tryd.prog 68 #[.slice A l.length c, .slice (some ⟨b, 0, none⟩) 1 1] w fun r w' => r = .returned (.bool (decide (l = [q]))) ∧ Below w.heap.size w w' := by
 have h1 : Kd.C (Kd.int .u8) w (some ⟨b, 0, none⟩) ([q] : List Int).length [q] := Kd.C_of_reads (d := (0 : Int)) (h1 := fun _ => rfl) ⟨rfl, by simp, fun _ => ⟨_, rfl, fun j hj => by
  obtain rfl : j = 0 := by simp at hj; omega
  exact hb⟩⟩
 refine (spec_l3same.calls A c l (some ⟨b, 0, none⟩) 1 [q] _ w h0 hc h1 (Nat.le_refl _) rfl).mono ?_
 rintro r w' ⟨rfl, hd⟩
 refine ⟨?_, hd.below⟩
 congr 2
 by_cases h : l = [q]
 ·
  subst h; simp
 rw [decide_eq_false h]
 refine beq_eq_false_iff_ne.2 (fun e => h ?_)
 refine strOf_inj hl (fun x hx => by simp only [List.mem_singleton] at hx; subst hx; exact hq) (bytes_eq ?_)
 rw [← Lib.toList_data, e, Lib.toList_data]
theorem number_calls (A : Option Addr) (c : Nat) (l : List Int) (w : World) (h0 : Kd.C (Kd.int .u8) w A l.length l) (hc : l.length ≤ c) (hl : ∀ x ∈ l, 0 ≤ x ∧ x < 256) (hn : l.length ≤ 2097152) (most : Int) :
  Calls Tryd.prog 112 #[.slice A l.length c, .int .u64 most] w fun r w' => r = .returned (.tuple #[.int .u64 (tkV l), .bool (cntB l most)]) ∧ Below w.heap.size w w' := by
 refine (spec_l6number.calls 100 A c l most _ _ w h0 hc (l6number_f l hl hn most 100 (by decide))).mono ?_
 rintro r w' ⟨rfl, hd⟩
 exact ⟨rfl, hd.below⟩
def fltr (q : Int) : Prop := q = 83 ∨ q = 69 ∨ q = 71 ∨ q = 78 ∨ q = 110 ∨ q = 77 ∨ q = 99 ∨ q = 80 ∨ q = 86 ∨ q = 102 ∨ q = 109
theorem fill_S (C : Cmd) (x : List Int) : fillF C 83 x = (if cntB x 4611686018427387904 = true then some { C with s := tkV x } else none) ∧ fillF C 69 x = (if cntB x 4611686018427387904 = true then some { C with e := tkV x } else none) ∧ fillF C 71 x = (if cntB x 4611686018427387904 = true then some { C with g := tkV x } else none) := by
 unfold fillF
 cases h : cntB x 4611686018427387904 with
 | true => simp [mostF, h, tkV_of h]
 | false => simp [mostF, h]
theorem fill_N (C : Cmd) (q : Int) (hq : q = 78 ∨ q = 110) (x : List Int) : fillF C q x = (if cntB x (mostF q) = true then some { C with n := wrap64 (tkV x) } else none) := by
 rw [fill_num C q x (by omega), if_pos hq]
 cases h : cntB x (mostF q) with
 | false => rfl
 | true =>
  have h1 := (cnt_form h).2
  have h2 := tkV_of h
  have h3 := (tkV_range x).1
  have h4 : mostF q ≤ 1000000 := by rcases hq with rfl | rfl <;> decide
  have h5 : wrap64 (tkV x) = numV x := by rw [h2]; unfold wrap64; omega
  rw [h5]
theorem fill_M (C : Cmd) (q : Int) (hq : q = 77 ∨ q = 99) (x : List Int) : fillF C q x = (if cntB x (mostF q) = true then some { C with m := wrap64 (tkV x) } else none) := by
 rw [fill_num C q x (by omega), if_neg (show ¬ (q = 78 ∨ q = 110) by rcases hq with rfl | rfl <;> decide)]
 cases h : cntB x (mostF q) with
 | false => rfl
 | true =>
  have h1 := (cnt_form h).2
  have h2 := tkV_of h
  have h3 := (tkV_range x).1
  have h4 : mostF q ≤ 1000000 := by rcases hq with rfl | rfl <;> decide
  have h5 : wrap64 (tkV x) = numV x := by rw [h2]; unfold wrap64; omega
  rw [h5]
set_option maxHeartbeats 8000000 in
set_option maxRecDepth 100000 in
theorem l6fill_calls (w0 : World) (lo : Nat) (kd ok s : Int) (A2 : Option Addr) (d2 : Nat) (p : List Int) (f : Int) (A4 : Option Addr) (d4 : Nat) (v : List Int) (e g n m : Int) (q : Int) (hq : fltr q) (Ax : Option Addr) (cx : Nat) (x : List Int) (w : World) (hB : Below w0.heap.size w0 w) (hlo : lo ≤ w.heap.size) (hM : OPK w0 w lo w.heap.size A2 d2 p A4 d4 v) (h0 : Kd.C (Kd.int .u8) w Ax x.length x) (hc : x.length ≤ cx) (hx : ∀ z ∈ x, 0 ≤ z ∧ z < 256) (hl : x.length ≤ 2097152) :
  Calls Tryd.prog 77 #[.agg #[.int .i64 kd, .int .i64 ok, .int .u64 s, .slice A2 p.length d2, .int .i64 f, .slice A4 v.length d4, .int .u64 e, .int .u64 g, .int .i64 n, .int .i64 m], .int .u8 q, .slice Ax x.length cx] w fun r w' => ∃ (b : Bool) (kd' ok' s' : Int) (A2' : Option Addr) (d2' : Nat) (p' : List Int) (f' : Int) (A4' : Option Addr) (d4' : Nat) (v' : List Int) (e' g' n' m' : Int), r = .returned (.tuple #[.agg #[.int .i64 kd', .int .i64 ok', .int .u64 s', .slice A2' p'.length d2', .int .i64 f', .slice A4' v'.length d4', .int .u64 e', .int .u64 g', .int .i64 n', .int .i64 m'], .bool b]) ∧ fillF ⟨kd, ok, s, p, f, v, e, g, n, m⟩ q x = (if b = true then some ⟨kd', ok', s', p', f', v', e', g', n', m'⟩ else none) ∧ OPK w0 w' lo w'.heap.size A2' d2' p' A4' d4' v' ∧ Below w.heap.size w w' := by
 have b3 := blk_alloc (blk_new w (.cells #[.int .i64 kd, .int .i64 ok, .int .u64 s, .slice A2 p.length d2, .int .i64 f, .slice A4 v.length d4, .int .u64 e, .int .u64 g, .int .i64 n, .int .i64 m] 52)) (.cells #[.int .i64 0, .int .i64 0, .int .u64 0, .slice none 0 0, .int .i64 0, .slice none 0 0, .int .u64 0, .int .u64 0, .int .i64 0, .int .i64 0] 52)
 have b6 := blk_new (w.alloc (.cells #[.int .i64 kd, .int .i64 ok, .int .u64 s, .slice A2 p.length d2, .int .i64 f, .slice A4 v.length d4, .int .u64 e, .int .u64 g, .int .i64 n, .int .i64 m] 52)) (.cells #[.int .i64 0, .int .i64 0, .int .u64 0, .slice none 0 0, .int .i64 0, .slice none 0 0, .int .u64 0, .int .u64 0, .int .i64 0, .int .i64 0] 52)
 have hba := below_alloc (below_alloc (Below.refl w.heap.size w) (.cells #[.int .i64 kd, .int .i64 ok, .int .u64 s, .slice A2 p.length d2, .int .i64 f, .slice A4 v.length d4, .int .u64 e, .int .u64 g, .int .i64 n, .int .i64 m] 52)) (.cells #[.int .i64 0, .int .i64 0, .int .u64 0, .slice none 0 0, .int .i64 0, .slice none 0 0, .int .u64 0, .int .u64 0, .int .i64 0, .int .i64 0] 52)
 simp only [World.size_alloc] at b6
 have HB0 := Aside0.mk hB
 have HX := Aside0.mk (And.intro h0 (And.intro hc (And.intro hx hl)))
 have HM := Aside0.mk (And.intro hM hlo)
 have HN := Aside0.mk (fun (W : World) (hW : Below w.heap.size w W) (most : Int) => number_calls Ax cx x W (Kd.C_below h0 hW) hc hx hl most)
 have B3 := Aside0.mk b3
 have B6 := Aside0.mk b6
 have HB := Aside0.mk hba
 clear hB h0 hc hx hM hlo b3 b6 hba hl
 unfold fltr at hq
 rcases hq with rfl | rfl | rfl | rfl | rfl | rfl | rfl | rfl | rfl | rfl | rfl
 all_goals
  go_enter Tryd.func77, Tryd.ntmps77
  go_upto_region 8 with (fail)
  generalize (w.alloc (.cells #[.int .i64 kd, .int .i64 ok, .int .u64 s, .slice A2 p.length d2, .int .i64 f, .slice A4 v.length d4, .int .u64 e, .int .u64 g, .int .i64 n, .int .i64 m] 52)).alloc (.cells #[.int .i64 0, .int .i64 0, .int .u64 0, .slice none 0 0, .int .i64 0, .slice none 0 0, .int .u64 0, .int .u64 0, .int .i64 0, .int .i64 0] 52) = W at *
  go_wp2_with fail
  refine (HN.out _ HB.out _).mono ?_
  rintro r w1 ⟨rfl, hb⟩
  replace B3 := Aside0.mk (blk_below B3.out hb)
  replace B6 := Aside0.mk (blk_below B6.out hb)
  replace HB := Aside0.mk (below_step HB.out hb)
  clear hb HN
  obtain ⟨x0, x1, x2, x3, x4, x5, x6, x7, x8, x9⟩ := cells10 B3.out
  have y0 := blk_frozen B3.out 0
  have y1 := blk_frozen B3.out 1
  have y2 := blk_frozen B3.out 2
  have y3 := blk_frozen B3.out 3
  have y4 := blk_frozen B3.out 4
  have y5 := blk_frozen B3.out 5
  have y6 := blk_frozen B3.out 6
  have y7 := blk_frozen B3.out 7
  have y8 := blk_frozen B3.out 8
  have y9 := blk_frozen B3.out 9
  obtain ⟨z0, z1, z2, z3, z4, z5, z6, z7, z8, z9⟩ := cells10 B6.out
  have u0 := blk_frozen B6.out 0
  have u1 := blk_frozen B6.out 1
  have u2 := blk_frozen B6.out 2
  have u3 := blk_frozen B6.out 3
  have u4 := blk_frozen B6.out 4
  have u5 := blk_frozen B6.out 5
  have u6 := blk_frozen B6.out 6
  have u7 := blk_frozen B6.out 7
  have u8 := blk_frozen B6.out 8
  have u9 := blk_frozen B6.out 9
 ·
  have HF := Aside0.mk ((fill_S ⟨kd, ok, s, p, f, v, e, g, n, m⟩ x).1)
  have HK := Aside0.mk (show OPK w0 (w1.setCell ⟨w.heap.size, 2, none⟩ (.int .u64 (tkV x))) lo w1.heap.size A2 d2 p A4 d4 v from ((HM.out.1.below HB.out).wide (Nat.le_refl _) HB.out.size).other B3.out (by decide) 2 _)
  have B3' := Aside0.mk (blk_put (cs' := #[.int .i64 kd, .int .i64 ok, .int .u64 (tkV x), .slice A2 p.length d2, .int .i64 f, .slice A4 v.length d4, .int .u64 e, .int .u64 g, .int .i64 n, .int .i64 m]) B3.out 2 (.int .u64 (tkV x)) rfl)
  have B6' := Aside0.mk (blk_far (p := ⟨w.heap.size, 2, none⟩) B6.out (show w.heap.size + 1 ≠ w.heap.size by omega) (.int .u64 (tkV x)))
  have HBB := Aside0.mk (below_set (j := 2) (v := .int .u64 (tkV x)) HB.out (Nat.le_refl _))
  (try rw [show mostF 0 = 4611686018427387904 from rfl] at HF)
  generalize cntB x 4611686018427387904 = okb at *
  go_wp2_with fail
  refine bodyPost_ret (results_ct rfl _ _ (w.heap.size + 1) 52 #[.int .i64 kd, .int .i64 ok, .int .u64 (tkV x), .slice A2 p.length d2, .int .i64 f, .slice A4 v.length d4, .int .u64 e, .int .u64 g, .int .i64 n, .int .i64 m] (0, 0) _ rfl (blk_set10 (B6'.out)) Tryd.underlying52 rfl (by kernel_rfl)) rfl ?_
  exact ⟨okb, kd, ok, (tkV x), A2, d2, p, f, A4, d4, v, e, g, n, m, rfl, HF.out, (HK.out.set10 B6'.out (by decide)).wide (Nat.le_refl _) (by rw [size_set10]; simp [World.setCell]), below_set10 HBB.out (Nat.le_succ _)⟩
 ·
  have HF := Aside0.mk ((fill_S ⟨kd, ok, s, p, f, v, e, g, n, m⟩ x).2.1)
  have HK := Aside0.mk (show OPK w0 (w1.setCell ⟨w.heap.size, 6, none⟩ (.int .u64 (tkV x))) lo w1.heap.size A2 d2 p A4 d4 v from ((HM.out.1.below HB.out).wide (Nat.le_refl _) HB.out.size).other B3.out (by decide) 6 _)
  have B3' := Aside0.mk (blk_put (cs' := #[.int .i64 kd, .int .i64 ok, .int .u64 s, .slice A2 p.length d2, .int .i64 f, .slice A4 v.length d4, .int .u64 (tkV x), .int .u64 g, .int .i64 n, .int .i64 m]) B3.out 6 (.int .u64 (tkV x)) rfl)
  have B6' := Aside0.mk (blk_far (p := ⟨w.heap.size, 6, none⟩) B6.out (show w.heap.size + 1 ≠ w.heap.size by omega) (.int .u64 (tkV x)))
  have HBB := Aside0.mk (below_set (j := 6) (v := .int .u64 (tkV x)) HB.out (Nat.le_refl _))
  (try rw [show mostF 0 = 4611686018427387904 from rfl] at HF)
  generalize cntB x 4611686018427387904 = okb at *
  go_wp2_with fail
  refine bodyPost_ret (results_ct rfl _ _ (w.heap.size + 1) 52 #[.int .i64 kd, .int .i64 ok, .int .u64 s, .slice A2 p.length d2, .int .i64 f, .slice A4 v.length d4, .int .u64 (tkV x), .int .u64 g, .int .i64 n, .int .i64 m] (0, 0) _ rfl (blk_set10 (B6'.out)) Tryd.underlying52 rfl (by kernel_rfl)) rfl ?_
  exact ⟨okb, kd, ok, s, A2, d2, p, f, A4, d4, v, (tkV x), g, n, m, rfl, HF.out, (HK.out.set10 B6'.out (by decide)).wide (Nat.le_refl _) (by rw [size_set10]; simp [World.setCell]), below_set10 HBB.out (Nat.le_succ _)⟩
 ·
  have HF := Aside0.mk ((fill_S ⟨kd, ok, s, p, f, v, e, g, n, m⟩ x).2.2)
  have HK := Aside0.mk (show OPK w0 (w1.setCell ⟨w.heap.size, 7, none⟩ (.int .u64 (tkV x))) lo w1.heap.size A2 d2 p A4 d4 v from ((HM.out.1.below HB.out).wide (Nat.le_refl _) HB.out.size).other B3.out (by decide) 7 _)
  have B3' := Aside0.mk (blk_put (cs' := #[.int .i64 kd, .int .i64 ok, .int .u64 s, .slice A2 p.length d2, .int .i64 f, .slice A4 v.length d4, .int .u64 e, .int .u64 (tkV x), .int .i64 n, .int .i64 m]) B3.out 7 (.int .u64 (tkV x)) rfl)
  have B6' := Aside0.mk (blk_far (p := ⟨w.heap.size, 7, none⟩) B6.out (show w.heap.size + 1 ≠ w.heap.size by omega) (.int .u64 (tkV x)))
  have HBB := Aside0.mk (below_set (j := 7) (v := .int .u64 (tkV x)) HB.out (Nat.le_refl _))
  (try rw [show mostF 0 = 4611686018427387904 from rfl] at HF)
  generalize cntB x 4611686018427387904 = okb at *
  go_wp2_with fail
  refine bodyPost_ret (results_ct rfl _ _ (w.heap.size + 1) 52 #[.int .i64 kd, .int .i64 ok, .int .u64 s, .slice A2 p.length d2, .int .i64 f, .slice A4 v.length d4, .int .u64 e, .int .u64 (tkV x), .int .i64 n, .int .i64 m] (0, 0) _ rfl (blk_set10 (B6'.out)) Tryd.underlying52 rfl (by kernel_rfl)) rfl ?_
  exact ⟨okb, kd, ok, s, A2, d2, p, f, A4, d4, v, e, (tkV x), n, m, rfl, HF.out, (HK.out.set10 B6'.out (by decide)).wide (Nat.le_refl _) (by rw [size_set10]; simp [World.setCell]), below_set10 HBB.out (Nat.le_succ _)⟩
 ·
  have HF := Aside0.mk (fill_N ⟨kd, ok, s, p, f, v, e, g, n, m⟩ 78 (.inl rfl) x)
  have HK := Aside0.mk (show OPK w0 (w1.setCell ⟨w.heap.size, 8, none⟩ (.int .i64 (wrap64 (tkV x)))) lo w1.heap.size A2 d2 p A4 d4 v from ((HM.out.1.below HB.out).wide (Nat.le_refl _) HB.out.size).other B3.out (by decide) 8 _)
  have B3' := Aside0.mk (blk_put (cs' := #[.int .i64 kd, .int .i64 ok, .int .u64 s, .slice A2 p.length d2, .int .i64 f, .slice A4 v.length d4, .int .u64 e, .int .u64 g, .int .i64 (wrap64 (tkV x)), .int .i64 m]) B3.out 8 (.int .i64 (wrap64 (tkV x))) rfl)
  have B6' := Aside0.mk (blk_far (p := ⟨w.heap.size, 8, none⟩) B6.out (show w.heap.size + 1 ≠ w.heap.size by omega) (.int .i64 (wrap64 (tkV x))))
  have HBB := Aside0.mk (below_set (j := 8) (v := .int .i64 (wrap64 (tkV x))) HB.out (Nat.le_refl _))
  (try rw [show mostF 78 = 1000000 from rfl] at HF)
  generalize cntB x 1000000 = okb at *
  go_wp2_with fail
  refine bodyPost_ret (results_ct rfl _ _ (w.heap.size + 1) 52 #[.int .i64 kd, .int .i64 ok, .int .u64 s, .slice A2 p.length d2, .int .i64 f, .slice A4 v.length d4, .int .u64 e, .int .u64 g, .int .i64 (wrap64 (tkV x)), .int .i64 m] (0, 0) _ rfl (blk_set10 (B6'.out)) Tryd.underlying52 rfl (by kernel_rfl)) rfl ?_
  exact ⟨okb, kd, ok, s, A2, d2, p, f, A4, d4, v, e, g, (wrap64 (tkV x)), m, rfl, HF.out, (HK.out.set10 B6'.out (by decide)).wide (Nat.le_refl _) (by rw [size_set10]; simp [World.setCell]), below_set10 HBB.out (Nat.le_succ _)⟩
 ·
  have HF := Aside0.mk (fill_N ⟨kd, ok, s, p, f, v, e, g, n, m⟩ 110 (.inr rfl) x)
  have HK := Aside0.mk (show OPK w0 (w1.setCell ⟨w.heap.size, 8, none⟩ (.int .i64 (wrap64 (tkV x)))) lo w1.heap.size A2 d2 p A4 d4 v from ((HM.out.1.below HB.out).wide (Nat.le_refl _) HB.out.size).other B3.out (by decide) 8 _)
  have B3' := Aside0.mk (blk_put (cs' := #[.int .i64 kd, .int .i64 ok, .int .u64 s, .slice A2 p.length d2, .int .i64 f, .slice A4 v.length d4, .int .u64 e, .int .u64 g, .int .i64 (wrap64 (tkV x)), .int .i64 m]) B3.out 8 (.int .i64 (wrap64 (tkV x))) rfl)
  have B6' := Aside0.mk (blk_far (p := ⟨w.heap.size, 8, none⟩) B6.out (show w.heap.size + 1 ≠ w.heap.size by omega) (.int .i64 (wrap64 (tkV x))))
  have HBB := Aside0.mk (below_set (j := 8) (v := .int .i64 (wrap64 (tkV x))) HB.out (Nat.le_refl _))
  (try rw [show mostF 110 = 5 from rfl] at HF)
  generalize cntB x 5 = okb at *
  go_wp2_with fail
  refine bodyPost_ret (results_ct rfl _ _ (w.heap.size + 1) 52 #[.int .i64 kd, .int .i64 ok, .int .u64 s, .slice A2 p.length d2, .int .i64 f, .slice A4 v.length d4, .int .u64 e, .int .u64 g, .int .i64 (wrap64 (tkV x)), .int .i64 m] (0, 0) _ rfl (blk_set10 (B6'.out)) Tryd.underlying52 rfl (by kernel_rfl)) rfl ?_
  exact ⟨okb, kd, ok, s, A2, d2, p, f, A4, d4, v, e, g, (wrap64 (tkV x)), m, rfl, HF.out, (HK.out.set10 B6'.out (by decide)).wide (Nat.le_refl _) (by rw [size_set10]; simp [World.setCell]), below_set10 HBB.out (Nat.le_succ _)⟩
 ·
  have HF := Aside0.mk (fill_M ⟨kd, ok, s, p, f, v, e, g, n, m⟩ 77 (.inl rfl) x)
  have HK := Aside0.mk (show OPK w0 (w1.setCell ⟨w.heap.size, 9, none⟩ (.int .i64 (wrap64 (tkV x)))) lo w1.heap.size A2 d2 p A4 d4 v from ((HM.out.1.below HB.out).wide (Nat.le_refl _) HB.out.size).other B3.out (by decide) 9 _)
  have B3' := Aside0.mk (blk_put (cs' := #[.int .i64 kd, .int .i64 ok, .int .u64 s, .slice A2 p.length d2, .int .i64 f, .slice A4 v.length d4, .int .u64 e, .int .u64 g, .int .i64 n, .int .i64 (wrap64 (tkV x))]) B3.out 9 (.int .i64 (wrap64 (tkV x))) rfl)
  have B6' := Aside0.mk (blk_far (p := ⟨w.heap.size, 9, none⟩) B6.out (show w.heap.size + 1 ≠ w.heap.size by omega) (.int .i64 (wrap64 (tkV x))))
  have HBB := Aside0.mk (below_set (j := 9) (v := .int .i64 (wrap64 (tkV x))) HB.out (Nat.le_refl _))
  (try rw [show mostF 77 = 1000000 from rfl] at HF)
  generalize cntB x 1000000 = okb at *
  go_wp2_with fail
  refine bodyPost_ret (results_ct rfl _ _ (w.heap.size + 1) 52 #[.int .i64 kd, .int .i64 ok, .int .u64 s, .slice A2 p.length d2, .int .i64 f, .slice A4 v.length d4, .int .u64 e, .int .u64 g, .int .i64 n, .int .i64 (wrap64 (tkV x))] (0, 0) _ rfl (blk_set10 (B6'.out)) Tryd.underlying52 rfl (by kernel_rfl)) rfl ?_
  exact ⟨okb, kd, ok, s, A2, d2, p, f, A4, d4, v, e, g, n, (wrap64 (tkV x)), rfl, HF.out, (HK.out.set10 B6'.out (by decide)).wide (Nat.le_refl _) (by rw [size_set10]; simp [World.setCell]), below_set10 HBB.out (Nat.le_succ _)⟩
 ·
  have HF := Aside0.mk (fill_M ⟨kd, ok, s, p, f, v, e, g, n, m⟩ 99 (.inr rfl) x)
  have HK := Aside0.mk (show OPK w0 (w1.setCell ⟨w.heap.size, 9, none⟩ (.int .i64 (wrap64 (tkV x)))) lo w1.heap.size A2 d2 p A4 d4 v from ((HM.out.1.below HB.out).wide (Nat.le_refl _) HB.out.size).other B3.out (by decide) 9 _)
  have B3' := Aside0.mk (blk_put (cs' := #[.int .i64 kd, .int .i64 ok, .int .u64 s, .slice A2 p.length d2, .int .i64 f, .slice A4 v.length d4, .int .u64 e, .int .u64 g, .int .i64 n, .int .i64 (wrap64 (tkV x))]) B3.out 9 (.int .i64 (wrap64 (tkV x))) rfl)
  have B6' := Aside0.mk (blk_far (p := ⟨w.heap.size, 9, none⟩) B6.out (show w.heap.size + 1 ≠ w.heap.size by omega) (.int .i64 (wrap64 (tkV x))))
  have HBB := Aside0.mk (below_set (j := 9) (v := .int .i64 (wrap64 (tkV x))) HB.out (Nat.le_refl _))
  (try rw [show mostF 99 = 4 from rfl] at HF)
  generalize cntB x 4 = okb at *
  go_wp2_with fail
  refine bodyPost_ret (results_ct rfl _ _ (w.heap.size + 1) 52 #[.int .i64 kd, .int .i64 ok, .int .u64 s, .slice A2 p.length d2, .int .i64 f, .slice A4 v.length d4, .int .u64 e, .int .u64 g, .int .i64 n, .int .i64 (wrap64 (tkV x))] (0, 0) _ rfl (blk_set10 (B6'.out)) Tryd.underlying52 rfl (by kernel_rfl)) rfl ?_
  exact ⟨okb, kd, ok, s, A2, d2, p, f, A4, d4, v, e, g, n, (wrap64 (tkV x)), rfl, HF.out, (HK.out.set10 B6'.out (by decide)).wide (Nat.le_refl _) (by rw [size_set10]; simp [World.setCell]), below_set10 HBB.out (Nat.le_succ _)⟩
 ·
  obtain ⟨h0, hc, hx, hl⟩ := HX.out
  clear x0 x1 x2 x3 x4 x5 x6 x7 x8 x9 y0 y1 y2 y3 y4 y5 y6 y7 y8 y9 z0 z1 z2 z3 z4 z5 z6 z7 z8 z9 u0 u1 u2 u3 u4 u5 u6 u7 u8 u9
  have HC := Aside0.mk (copy_bk w0 Ax cx x w1 (Kd.C_below h0 HB.out) hc hl (below_step HB0.out HB.out))
  clear h0 hc hx hl
  go_wp2_with fail
  refine HC.out.mono ?_
  rintro r w2 ⟨B, d, rfl, hn, hb⟩
  have B32 := Aside0.mk (blk_below B3.out hb)
  have B62 := Aside0.mk (blk_below B6.out hb)
  have HB2 := Aside0.mk (below_step HB.out hb)
  have HK2 := Aside0.mk (OPK.path ((HM.out.1.below HB.out).wide (Nat.le_refl _) HB.out.size) hb hn (Nat.le_trans HM.out.2 HB.out.size))
  clear hb hn HC
  obtain ⟨x0, x1, x2, x3, x4, x5, x6, x7, x8, x9⟩ := cells10 B32.out
  have y0 := blk_frozen B32.out 0
  have y1 := blk_frozen B32.out 1
  have y2 := blk_frozen B32.out 2
  have y3 := blk_frozen B32.out 3
  have y4 := blk_frozen B32.out 4
  have y5 := blk_frozen B32.out 5
  have y6 := blk_frozen B32.out 6
  have y7 := blk_frozen B32.out 7
  have y8 := blk_frozen B32.out 8
  have y9 := blk_frozen B32.out 9
  obtain ⟨z0, z1, z2, z3, z4, z5, z6, z7, z8, z9⟩ := cells10 B62.out
  have u0 := blk_frozen B62.out 0
  have u1 := blk_frozen B62.out 1
  have u2 := blk_frozen B62.out 2
  have u3 := blk_frozen B62.out 3
  have u4 := blk_frozen B62.out 4
  have u5 := blk_frozen B62.out 5
  have u6 := blk_frozen B62.out 6
  have u7 := blk_frozen B62.out 7
  have u8 := blk_frozen B62.out 8
  have u9 := blk_frozen B62.out 9
  have HK := Aside0.mk (HK2.out.other B32.out (by decide) 3 (.slice B x.length d))
  have B6' := Aside0.mk (blk_far (p := ⟨w.heap.size, 3, none⟩) B62.out (show w.heap.size + 1 ≠ w.heap.size by omega) (.slice B x.length d))
  have HBB := Aside0.mk (below_set (j := 3) (v := (.slice B x.length d)) HB2.out (Nat.le_refl _))
  go_wp2_with fail
  refine bodyPost_ret (results_ct rfl _ _ (w.heap.size + 1) 52 #[.int .i64 kd, .int .i64 ok, .int .u64 s, .slice B x.length d, .int .i64 f, .slice A4 v.length d4, .int .u64 e, .int .u64 g, .int .i64 n, .int .i64 m] (0, 0) _ rfl (blk_set10 (B6'.out)) Tryd.underlying52 rfl (by kernel_rfl)) rfl ?_
  exact ⟨true, kd, ok, s, B, d, x, f, A4, d4, v, e, g, n, m, rfl, rfl, (HK.out.set10 B6'.out (by decide)).wide (Nat.le_refl _) (by rw [size_set10]; simp [World.setCell]), below_set10 HBB.out (Nat.le_succ _)⟩
 ·
  obtain ⟨h0, hc, hx, hl⟩ := HX.out
  clear x0 x1 x2 x3 x4 x5 x6 x7 x8 x9 y0 y1 y2 y3 y4 y5 y6 y7 y8 y9 z0 z1 z2 z3 z4 z5 z6 z7 z8 z9 u0 u1 u2 u3 u4 u5 u6 u7 u8 u9
  have HC := Aside0.mk (copy_bk w0 Ax cx x w1 (Kd.C_below h0 HB.out) hc hl (below_step HB0.out HB.out))
  clear h0 hc hx hl
  go_wp2_with fail
  refine HC.out.mono ?_
  rintro r w2 ⟨B, d, rfl, hn, hb⟩
  have B32 := Aside0.mk (blk_below B3.out hb)
  have B62 := Aside0.mk (blk_below B6.out hb)
  have HB2 := Aside0.mk (below_step HB.out hb)
  have HK2 := Aside0.mk (OPK.val ((HM.out.1.below HB.out).wide (Nat.le_refl _) HB.out.size) hb hn (Nat.le_trans HM.out.2 HB.out.size))
  clear hb hn HC
  obtain ⟨x0, x1, x2, x3, x4, x5, x6, x7, x8, x9⟩ := cells10 B32.out
  have y0 := blk_frozen B32.out 0
  have y1 := blk_frozen B32.out 1
  have y2 := blk_frozen B32.out 2
  have y3 := blk_frozen B32.out 3
  have y4 := blk_frozen B32.out 4
  have y5 := blk_frozen B32.out 5
  have y6 := blk_frozen B32.out 6
  have y7 := blk_frozen B32.out 7
  have y8 := blk_frozen B32.out 8
  have y9 := blk_frozen B32.out 9
  obtain ⟨z0, z1, z2, z3, z4, z5, z6, z7, z8, z9⟩ := cells10 B62.out
  have u0 := blk_frozen B62.out 0
  have u1 := blk_frozen B62.out 1
  have u2 := blk_frozen B62.out 2
  have u3 := blk_frozen B62.out 3
  have u4 := blk_frozen B62.out 4
  have u5 := blk_frozen B62.out 5
  have u6 := blk_frozen B62.out 6
  have u7 := blk_frozen B62.out 7
  have u8 := blk_frozen B62.out 8
  have u9 := blk_frozen B62.out 9
  have HK := Aside0.mk (HK2.out.other B32.out (by decide) 5 (.slice B x.length d))
  have B6' := Aside0.mk (blk_far (p := ⟨w.heap.size, 5, none⟩) B62.out (show w.heap.size + 1 ≠ w.heap.size by omega) (.slice B x.length d))
  have HBB := Aside0.mk (below_set (j := 5) (v := (.slice B x.length d)) HB2.out (Nat.le_refl _))
  go_wp2_with fail
  refine bodyPost_ret (results_ct rfl _ _ (w.heap.size + 1) 52 #[.int .i64 kd, .int .i64 ok, .int .u64 s, .slice A2 p.length d2, .int .i64 f, .slice B x.length d, .int .u64 e, .int .u64 g, .int .i64 n, .int .i64 m] (0, 0) _ rfl (blk_set10 (B6'.out)) Tryd.underlying52 rfl (by kernel_rfl)) rfl ?_
  exact ⟨true, kd, ok, s, A2, d2, p, f, B, d, x, e, g, n, m, rfl, rfl, (HK.out.set10 B6'.out (by decide)).wide (Nat.le_refl _) (by rw [size_set10]; simp [World.setCell]), below_set10 HBB.out (Nat.le_succ _)⟩
 ·
  obtain ⟨h0, hc, hx, hl⟩ := HX.out
  clear x0 x1 x2 x3 x4 x5 x6 x7 x8 x9 y0 y1 y2 y3 y4 y5 y6 y7 y8 y9 z0 z1 z2 z3 z4 z5 z6 z7 z8 z9 u0 u1 u2 u3 u4 u5 u6 u7 u8 u9
  have kc := fun (w : World) (C : Array Value) (n c : Nat) => Lib.run_convert_bytes_const (P := Tryd.prog) w 22 5 C n c Tryd.underlying22 Tryd.underlying5
  have HSM := Aside0.mk (fun (W : World) (hW : Below w.heap.size w W) (q : Int) (hq : 0 ≤ q ∧ q < 256) (b : Nat) (hb : W.cell? ⟨b, 0, none⟩ = some (.int .u8 q)) => same_calls Ax cx x W (Kd.C_below h0 hW) hc hx q hq b hb)
  clear h0 hc hx hl
  go_wp2_with fail
  refine (HSM.out (w1.alloc (.cells #[.int .u8 101] 5 (1, 2))) (below_alloc HB.out _) 101 (by decide) w1.heap.size (World.cell?_alloc_mark w1 #[.int .u8 101] 5 (1, 2) 0)).mono ?_
  rintro r w2 ⟨rfl, hb⟩
  have hba := below_alloc (Below.refl w1.heap.size w1) (.cells #[.int .u8 101] 5 (1, 2))
  have B32 := Aside0.mk (blk_below (blk_below B3.out hba) hb)
  have B62 := Aside0.mk (blk_below (blk_below B6.out hba) hb)
  have HB2 := Aside0.mk (below_step (below_step HB.out hba) hb)
  have HK2 := Aside0.mk ((HM.out.1.below HB2.out).wide (Nat.le_refl _) HB2.out.size)
  clear hb hba B3 B6 HB
  obtain ⟨x0, x1, x2, x3, x4, x5, x6, x7, x8, x9⟩ := cells10 B32.out
  have y0 := blk_frozen B32.out 0
  have y1 := blk_frozen B32.out 1
  have y2 := blk_frozen B32.out 2
  have y3 := blk_frozen B32.out 3
  have y4 := blk_frozen B32.out 4
  have y5 := blk_frozen B32.out 5
  have y6 := blk_frozen B32.out 6
  have y7 := blk_frozen B32.out 7
  have y8 := blk_frozen B32.out 8
  have y9 := blk_frozen B32.out 9
  obtain ⟨z0, z1, z2, z3, z4, z5, z6, z7, z8, z9⟩ := cells10 B62.out
  have u0 := blk_frozen B62.out 0
  have u1 := blk_frozen B62.out 1
  have u2 := blk_frozen B62.out 2
  have u3 := blk_frozen B62.out 3
  have u4 := blk_frozen B62.out 4
  have u5 := blk_frozen B62.out 5
  have u6 := blk_frozen B62.out 6
  have u7 := blk_frozen B62.out 7
  have u8 := blk_frozen B62.out 8
  have u9 := blk_frozen B62.out 9
  by_cases e1 : x = [101]
  ·
   have d1 : decide (x = [101]) = true := decide_eq_true e1
   have HF := Aside0.mk (show fillF ⟨kd, ok, s, p, f, v, e, g, n, m⟩ 102 x = some ⟨kd, ok, s, p, 1, v, e, g, n, m⟩ from by rw [e1]; rfl)
   have HK := Aside0.mk (HK2.out.other B32.out (by decide) 4 (.int .i64 1))
   have B6' := Aside0.mk (blk_far (p := ⟨w.heap.size, 4, none⟩) B62.out (show w.heap.size + 1 ≠ w.heap.size by omega) (.int .i64 1))
   have HBB := Aside0.mk (below_set (j := 4) (v := .int .i64 1) HB2.out (Nat.le_refl _))
   rw [d1]
   clear e1 d1
   go_wp2_with fail
   refine bodyPost_ret (results_ct rfl _ _ (w.heap.size + 1) 52 #[.int .i64 kd, .int .i64 ok, .int .u64 s, .slice A2 p.length d2, .int .i64 1, .slice A4 v.length d4, .int .u64 e, .int .u64 g, .int .i64 n, .int .i64 m] (0, 0) _ rfl (blk_set10 (B6'.out)) Tryd.underlying52 rfl (by kernel_rfl)) rfl ?_
   exact ⟨true, kd, ok, s, A2, d2, p, 1, A4, d4, v, e, g, n, m, rfl, HF.out, (HK.out.set10 B6'.out (by decide)).wide (Nat.le_refl _) (by rw [size_set10]; simp [World.setCell]), below_set10 HBB.out (Nat.le_succ _)⟩
  have d1 : decide (x = [101]) = false := decide_eq_false e1
  rw [d1]
  have HF := Aside0.mk (show fillF ⟨kd, ok, s, p, f, v, e, g, n, m⟩ 102 x = (if decide (x = [112]) = true then some ⟨kd, ok, s, p, f, v, e, g, n, m⟩ else none) from by
   by_cases e2 : x = [112]
   ·
    rw [e2]; rfl
   rw [decide_eq_false e2, if_neg (by decide)]
   show (if x = [101] then _ else if x = [112] then _ else none) = none
   rw [if_neg e1, if_neg e2])
  clear e1 d1
  go_upto_region 19 with (fail)
  have B33 := B32
  have B63 := B62
  have HB3 := HB2
  have HK3 := HK2
  obtain ⟨w3, hw3⟩ : ∃ w3, w2 = w3 := ⟨_, rfl⟩
  rw [hw3] at B33 B63 HB3 HK3 ⊢
  clear x0 x1 x2 x3 x4 x5 x6 x7 x8 x9 y0 y1 y2 y3 y4 y5 y6 y7 y8 y9 z0 z1 z2 z3 z4 z5 z6 z7 z8 z9 u0 u1 u2 u3 u4 u5 u6 u7 u8 u9
  clear B32 B62 HB2 HK2; subst hw3
  have kc2 : (convert 22 22 (.slice (some ⟨w2.heap.size, 0, none⟩) 1 1)).run Tryd.prog (w2.alloc (.cells #[.int .u8 112] 5)).drew = .ok (.slice (some ⟨w2.heap.size, 0, none⟩) 1 1) (w2.alloc (.cells #[.int .u8 112] 5 (1, 2))).drew := kc w2.drew #[.int .u8 112] 1 1
  have HS0 := Aside0.mk (show ∀ w' : World, Below w2.heap.size w2 w' → (w'.cell? ⟨w.heap.size, 0, none⟩ = some (.int .i64 kd) ∧ w'.cell? ⟨w.heap.size, 1, none⟩ = some (.int .i64 ok) ∧ w'.cell? ⟨w.heap.size, 2, none⟩ = some (.int .u64 s) ∧ w'.cell? ⟨w.heap.size, 3, none⟩ = some (.slice A2 p.length d2) ∧ w'.cell? ⟨w.heap.size, 4, none⟩ = some (.int .i64 f) ∧ w'.cell? ⟨w.heap.size, 5, none⟩ = some (.slice A4 v.length d4) ∧ w'.cell? ⟨w.heap.size, 6, none⟩ = some (.int .u64 e) ∧ w'.cell? ⟨w.heap.size, 7, none⟩ = some (.int .u64 g) ∧ w'.cell? ⟨w.heap.size, 8, none⟩ = some (.int .i64 n) ∧ w'.cell? ⟨w.heap.size, 9, none⟩ = some (.int .i64 m)) from fun w' h => cells10 (blk_below B33.out h))
  have HNE := Aside0.mk (show w.heap.size ≠ w.heap.size + 1 by omega)
  have hs0 := HS0.out w2 (Below.refl _ _)
  obtain ⟨x0, x1, x2, x3, x4, x5, x6, x7, x8, x9⟩ := hs0
  obtain ⟨xa0, xa1, xa2, xa3, xa4, xa5, xa6, xa7, xa8, xa9⟩ := HS0.out (w2.alloc (.cells #[.int .u8 112] 5)).drew (below_drew1 (below_alloc (Below.refl _ _) _))
  obtain ⟨xb0, xb1, xb2, xb3, xb4, xb5, xb6, xb7, xb8, xb9⟩ := HS0.out (w2.alloc (.cells #[.int .u8 112] 5 (1, 2))).drew (below_drew1 (below_alloc (Below.refl _ _) _))
  obtain ⟨xc0, xc1, xc2, xc3, xc4, xc5, xc6, xc7, xc8, xc9⟩ := HS0.out w2.drew (below_drew1 (Below.refl _ _))
  go_region_with (first | (go_at_call 68; refine (HSM.out (w2.alloc (.cells #[.int .u8 112] 5 (1, 2))).drew (by with_reducible repeat (first | exact HB3.out | apply below_drew1 | apply below_alloc)) 112 (by decide) _ (World.cell?_alloc_mark w2 #[.int .u8 112] 5 (1, 2) 0)).mono ?_; rintro r wn ⟨rfl, hb0⟩; have HWn := Aside0.mk (show Below w2.heap.size w2 wn from below_step (by with_reducible repeat (first | exact Below.refl _ _ | apply below_drew1 | apply below_alloc)) hb0); have B34 := Aside0.mk (blk_below B33.out HWn.out); have B64 := Aside0.mk (blk_below B63.out HWn.out); obtain ⟨q0, q1, q2, q3, q4, q5, q6, q7, q8, q9⟩ := cells10 B34.out; obtain ⟨z0, z1, z2, z3, z4, z5, z6, z7, z8, z9⟩ := cells10 B64.out; have u0 := blk_frozen B64.out 0; have u1 := blk_frozen B64.out 1; have u2 := blk_frozen B64.out 2; have u3 := blk_frozen B64.out 3; have u4 := blk_frozen B64.out 4; have u5 := blk_frozen B64.out 5; have u6 := blk_frozen B64.out 6; have u7 := blk_frozen B64.out 7; have u8 := blk_frozen B64.out 8; have u9 := blk_frozen B64.out 9; clear hb0))
  all_goals
   go_wp2_with fail
   refine bodyPost_ret (results_ct rfl _ _ (w.heap.size + 1) 52 #[.int .i64 kd, .int .i64 ok, .int .u64 s, .slice A2 p.length d2, .int .i64 f, .slice A4 v.length d4, .int .u64 e, .int .u64 g, .int .i64 n, .int .i64 m] (0, 0) _ rfl (blk_set10 (B64.out)) Tryd.underlying52 rfl (by kernel_rfl)) rfl ?_
   exact ⟨decide (x = [112]), kd, ok, s, A2, d2, p, f, A4, d4, v, e, g, n, m, rfl, HF.out, ((HK3.out.below HWn.out).set10 B64.out (by decide)).wide (Nat.le_refl _) (by rw [size_set10]; exact HWn.out.size), below_set10 (below_step HB3.out HWn.out) (Nat.le_succ _)⟩
 obtain ⟨h0, hc, hx, hl⟩ := HX.out
 clear x0 x1 x2 x3 x4 x5 x6 x7 x8 x9 y0 y1 y2 y3 y4 y5 y6 y7 y8 y9 z0 z1 z2 z3 z4 z5 z6 z7 z8 z9 u0 u1 u2 u3 u4 u5 u6 u7 u8 u9
 have kc := fun (w : World) (C : Array Value) (n c : Nat) => Lib.run_convert_bytes_const (P := Tryd.prog) w 22 5 C n c Tryd.underlying22 Tryd.underlying5
 have HSM := Aside0.mk (fun (W : World) (hW : Below w.heap.size w W) (q : Int) (hq : 0 ≤ q ∧ q < 256) (b : Nat) (hb : W.cell? ⟨b, 0, none⟩ = some (.int .u8 q)) => same_calls Ax cx x W (Kd.C_below h0 hW) hc hx q hq b hb)
 clear h0 hc hx hl
 go_wp2_with fail
 refine (HSM.out (w1.alloc (.cells #[.int .u8 120] 5 (1, 2))) (below_alloc HB.out _) 120 (by decide) w1.heap.size (World.cell?_alloc_mark w1 #[.int .u8 120] 5 (1, 2) 0)).mono ?_
 rintro r w2 ⟨rfl, hb⟩
 have hba := below_alloc (Below.refl w1.heap.size w1) (.cells #[.int .u8 120] 5 (1, 2))
 have B32 := Aside0.mk (blk_below (blk_below B3.out hba) hb)
 have B62 := Aside0.mk (blk_below (blk_below B6.out hba) hb)
 have HB2 := Aside0.mk (below_step (below_step HB.out hba) hb)
 have HK2 := Aside0.mk ((HM.out.1.below HB2.out).wide (Nat.le_refl _) HB2.out.size)
 clear hb hba B3 B6 HB
 obtain ⟨x0, x1, x2, x3, x4, x5, x6, x7, x8, x9⟩ := cells10 B32.out
 have y0 := blk_frozen B32.out 0
 have y1 := blk_frozen B32.out 1
 have y2 := blk_frozen B32.out 2
 have y3 := blk_frozen B32.out 3
 have y4 := blk_frozen B32.out 4
 have y5 := blk_frozen B32.out 5
 have y6 := blk_frozen B32.out 6
 have y7 := blk_frozen B32.out 7
 have y8 := blk_frozen B32.out 8
 have y9 := blk_frozen B32.out 9
 obtain ⟨z0, z1, z2, z3, z4, z5, z6, z7, z8, z9⟩ := cells10 B62.out
 have u0 := blk_frozen B62.out 0
 have u1 := blk_frozen B62.out 1
 have u2 := blk_frozen B62.out 2
 have u3 := blk_frozen B62.out 3
 have u4 := blk_frozen B62.out 4
 have u5 := blk_frozen B62.out 5
 have u6 := blk_frozen B62.out 6
 have u7 := blk_frozen B62.out 7
 have u8 := blk_frozen B62.out 8
 have u9 := blk_frozen B62.out 9
 by_cases e1 : x = [120]
 ·
  have d1 : decide (x = [120]) = true := decide_eq_true e1
  have HF := Aside0.mk (show fillF ⟨kd, ok, s, p, f, v, e, g, n, m⟩ 109 x = some ⟨kd, ok, s, p, 1, v, e, g, n, m⟩ from by rw [e1]; rfl)
  have HK := Aside0.mk (HK2.out.other B32.out (by decide) 4 (.int .i64 1))
  have B6' := Aside0.mk (blk_far (p := ⟨w.heap.size, 4, none⟩) B62.out (show w.heap.size + 1 ≠ w.heap.size by omega) (.int .i64 1))
  have HBB := Aside0.mk (below_set (j := 4) (v := .int .i64 1) HB2.out (Nat.le_refl _))
  rw [d1]
  clear e1 d1
  go_wp2_with fail
  refine bodyPost_ret (results_ct rfl _ _ (w.heap.size + 1) 52 #[.int .i64 kd, .int .i64 ok, .int .u64 s, .slice A2 p.length d2, .int .i64 1, .slice A4 v.length d4, .int .u64 e, .int .u64 g, .int .i64 n, .int .i64 m] (0, 0) _ rfl (blk_set10 (B6'.out)) Tryd.underlying52 rfl (by kernel_rfl)) rfl ?_
  exact ⟨true, kd, ok, s, A2, d2, p, 1, A4, d4, v, e, g, n, m, rfl, HF.out, (HK.out.set10 B6'.out (by decide)).wide (Nat.le_refl _) (by rw [size_set10]; simp [World.setCell]), below_set10 HBB.out (Nat.le_succ _)⟩
 have d1 : decide (x = [120]) = false := decide_eq_false e1
 rw [d1]
 have HF := Aside0.mk (show fillF ⟨kd, ok, s, p, f, v, e, g, n, m⟩ 109 x = (if decide (x = [115]) = true then some ⟨kd, ok, s, p, 2, v, e, g, n, m⟩ else none) from by
  by_cases e2 : x = [115]
  ·
   rw [e2]; rfl
  rw [decide_eq_false e2, if_neg (by decide)]
  show (if x = [120] then _ else if x = [115] then _ else none) = none
  rw [if_neg e1, if_neg e2])
 clear e1 d1
 go_upto_region 25 with (fail)
 have B33 := Aside0.mk (blk_put (cs' := #[.int .i64 kd, .int .i64 ok, .int .u64 s, .slice A2 p.length d2, .int .i64 2, .slice A4 v.length d4, .int .u64 e, .int .u64 g, .int .i64 n, .int .i64 m]) B32.out 4 (.int .i64 2) rfl)
 have B63 := Aside0.mk (blk_far (p := ⟨w.heap.size, 4, none⟩) B62.out (show w.heap.size + 1 ≠ w.heap.size by omega) (.int .i64 2))
 have HB3 := Aside0.mk (below_set (j := 4) (v := .int .i64 2) HB2.out (Nat.le_refl _))
 have HK3 := Aside0.mk (show OPK w0 (w2.setCell ⟨w.heap.size, 4, none⟩ (.int .i64 2)) lo (w2.setCell ⟨w.heap.size, 4, none⟩ (.int .i64 2)).heap.size A2 d2 p A4 d4 v from (HK2.out.other B32.out (by decide) 4 (.int .i64 2)).wide (Nat.le_refl _) (by simp [World.setCell]))
 generalize w2.setCell ⟨w.heap.size, 4, none⟩ (.int .i64 2) = w3 at *
 clear x0 x1 x2 x3 x4 x5 x6 x7 x8 x9 y0 y1 y2 y3 y4 y5 y6 y7 y8 y9 z0 z1 z2 z3 z4 z5 z6 z7 z8 z9 u0 u1 u2 u3 u4 u5 u6 u7 u8 u9
 clear B32 B62 HB2 HK2
 have kc2 : (convert 22 22 (.slice (some ⟨w3.heap.size, 0, none⟩) 1 1)).run Tryd.prog (w3.alloc (.cells #[.int .u8 115] 5)).drew = .ok (.slice (some ⟨w3.heap.size, 0, none⟩) 1 1) (w3.alloc (.cells #[.int .u8 115] 5 (1, 2))).drew := kc w3.drew #[.int .u8 115] 1 1
 have HS0 := Aside0.mk (show ∀ w' : World, Below w3.heap.size w3 w' → (w'.cell? ⟨w.heap.size, 0, none⟩ = some (.int .i64 kd) ∧ w'.cell? ⟨w.heap.size, 1, none⟩ = some (.int .i64 ok) ∧ w'.cell? ⟨w.heap.size, 2, none⟩ = some (.int .u64 s) ∧ w'.cell? ⟨w.heap.size, 3, none⟩ = some (.slice A2 p.length d2) ∧ w'.cell? ⟨w.heap.size, 4, none⟩ = some (.int .i64 2) ∧ w'.cell? ⟨w.heap.size, 5, none⟩ = some (.slice A4 v.length d4) ∧ w'.cell? ⟨w.heap.size, 6, none⟩ = some (.int .u64 e) ∧ w'.cell? ⟨w.heap.size, 7, none⟩ = some (.int .u64 g) ∧ w'.cell? ⟨w.heap.size, 8, none⟩ = some (.int .i64 n) ∧ w'.cell? ⟨w.heap.size, 9, none⟩ = some (.int .i64 m)) from fun w' h => cells10 (blk_below B33.out h))
 have HNE := Aside0.mk (show w.heap.size ≠ w.heap.size + 1 by omega)
 have hs0 := HS0.out w3 (Below.refl _ _)
 obtain ⟨x0, x1, x2, x3, x4, x5, x6, x7, x8, x9⟩ := hs0
 obtain ⟨xa0, xa1, xa2, xa3, xa4, xa5, xa6, xa7, xa8, xa9⟩ := HS0.out (w3.alloc (.cells #[.int .u8 115] 5)).drew (below_drew1 (below_alloc (Below.refl _ _) _))
 obtain ⟨xb0, xb1, xb2, xb3, xb4, xb5, xb6, xb7, xb8, xb9⟩ := HS0.out (w3.alloc (.cells #[.int .u8 115] 5 (1, 2))).drew (below_drew1 (below_alloc (Below.refl _ _) _))
 obtain ⟨xc0, xc1, xc2, xc3, xc4, xc5, xc6, xc7, xc8, xc9⟩ := HS0.out w3.drew (below_drew1 (Below.refl _ _))
 go_region_with (first | (go_at_call 68; refine (HSM.out (w3.alloc (.cells #[.int .u8 115] 5 (1, 2))).drew (by with_reducible repeat (first | exact HB3.out | apply below_drew1 | apply below_alloc)) 115 (by decide) _ (World.cell?_alloc_mark w3 #[.int .u8 115] 5 (1, 2) 0)).mono ?_; rintro r wn ⟨rfl, hb0⟩; have HWn := Aside0.mk (show Below w3.heap.size w3 wn from below_step (by with_reducible repeat (first | exact Below.refl _ _ | apply below_drew1 | apply below_alloc)) hb0); have B34 := Aside0.mk (blk_below B33.out HWn.out); have B64 := Aside0.mk (blk_below B63.out HWn.out); obtain ⟨q0, q1, q2, q3, q4, q5, q6, q7, q8, q9⟩ := cells10 B34.out; obtain ⟨z0, z1, z2, z3, z4, z5, z6, z7, z8, z9⟩ := cells10 B64.out; have u0 := blk_frozen B64.out 0; have u1 := blk_frozen B64.out 1; have u2 := blk_frozen B64.out 2; have u3 := blk_frozen B64.out 3; have u4 := blk_frozen B64.out 4; have u5 := blk_frozen B64.out 5; have u6 := blk_frozen B64.out 6; have u7 := blk_frozen B64.out 7; have u8 := blk_frozen B64.out 8; have u9 := blk_frozen B64.out 9; clear hb0))
 all_goals
  go_wp2_with fail
  refine bodyPost_ret (results_ct rfl _ _ (w.heap.size + 1) 52 #[.int .i64 kd, .int .i64 ok, .int .u64 s, .slice A2 p.length d2, .int .i64 2, .slice A4 v.length d4, .int .u64 e, .int .u64 g, .int .i64 n, .int .i64 m] (0, 0) _ rfl (blk_set10 (B64.out)) Tryd.underlying52 rfl (by kernel_rfl)) rfl ?_
  exact ⟨decide (x = [115]), kd, ok, s, A2, d2, p, 2, A4, d4, v, e, g, n, m, rfl, HF.out, ((HK3.out.below HWn.out).set10 B64.out (by decide)).wide (Nat.le_refl _) (by rw [size_set10]; exact HWn.out.size), below_set10 (below_step HB3.out HWn.out) (Nat.le_succ _)⟩
end Go.Proofs.YtbgbocdohadhoaaDoor.Print
