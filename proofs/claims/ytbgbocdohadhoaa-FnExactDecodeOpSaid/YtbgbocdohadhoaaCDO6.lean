/- Texts of this session, joined by its own program. -/
import Derived.Test.YtbgbocdohadhoaaCDO5
import Derived.Test.YtbgbocdohadhoaaCDO0
import Derived.Test.YtbgbocdohadhoaaCDO1
import Derived.Test.YtbgbocdohadhoaaCDO2
namespace Go.Proofs.Ytbgbocdohadhoaa.Print
open Go.RowKit Go.Proofs.YtbgbocdohadhoaaW.PrintWords Go.Proofs.YtbgbocdohadhoaaW.PrintLast Go.Proofs.YtbgbocdohadhoaaW.PrintMore
set_option linter.unusedVariables false
set_option linter.unusedSimpArgs false
end Go.Proofs.Ytbgbocdohadhoaa.Print
namespace Go.Proofs.Ytbgbocdohadhoaa.Print
open Go.RowKit Go.Proofs.YtbgbocdohadhoaaW.PrintWords Go.Proofs.YtbgbocdohadhoaaW.PrintLast Go.Proofs.YtbgbocdohadhoaaW.PrintMore
attribute [local go_sem] max2_int min2_int max_two min_two max_three min_three max_four min_four
set_option linter.unusedVariables false
set_option linter.unusedSimpArgs false
def spec_l3readByte.f (l0 : List Int) (a1 : Int) : Option (Int × Int) := if a1 < 0 then (some (0, (-1))) else (if a1 ≥ (l0.length : Int) then (some (0, (-1))) else (if 0 ≤ a1 then (if a1 < (l0.length : Int) then (some (wrap64 (rd l0 a1), wrap64 (a1 + 1))) else (none)) else (none)))
set_option maxHeartbeats 8000000 in
set_option maxRecDepth 100000 in
theorem spec_l3readByte.calls (A0 : Option Addr) (c0 : Nat) (l0 : List Int) (a1 : Int) (r1 : Int) (r2 : Int) (w : World) (hr0 : Kd.C (Kd.int .u8) w A0 l0.length l0) (hc0 : l0.length ≤ c0) (h : spec_l3readByte.f l0 a1 = some (r1, r2)) :
    Calls Try.prog 26 #[.slice A0 l0.length c0, .int .i64 a1] w fun e w' => e = .returned (.tuple #[.int .i64 r1, .int .i64 r2]) ∧ Drawn0 w w' := by
  have HR0 := Aside0.mk hr0
  have HC0 := Aside0.mk hc0
  clear hr0 hc0
  have H : (if a1 < 0 then (some (0, (-1))) else (if a1 ≥ (l0.length : Int) then (some (0, (-1))) else (if 0 ≤ a1 then (if a1 < (l0.length : Int) then (some (wrap64 (rd l0 a1), wrap64 (a1 + 1))) else (none)) else (none)))) = some (r1, r2) := h
  clear h
  by_cases c3 : a1 < 0
  · rw [if_pos c3] at H
    have c3b0 : decide (a1 < 0) = true := decide_eq_true c3
    clear c3
    simp only [Option.some.injEq, Prod.mk.injEq] at H
    obtain ⟨rfl, rfl⟩ := H
    go_enter Try.func26, Try.ntmps26
    go_wp2
    go_ret2
    exact ⟨by first | rfl | (simp; done) | (simp [*]; done), by repeat (first | exact Drawn0.refl _ | apply Drawn0.step)⟩
  · rw [if_neg c3] at H
    have c3b0 : decide (a1 < 0) = false := decide_eq_false c3
    clear c3
    by_cases c4 : a1 ≥ (l0.length : Int)
    · rw [if_pos c4] at H
      have c4b0 : decide ((l0.length : Int) ≤ a1) = true := decide_eq_true c4
      clear c4
      simp only [Option.some.injEq, Prod.mk.injEq] at H
      obtain ⟨rfl, rfl⟩ := H
      go_enter Try.func26, Try.ntmps26
      go_wp2
      go_ret2
      exact ⟨by first | rfl | (simp; done) | (simp [*]; done), by repeat (first | exact Drawn0.refl _ | apply Drawn0.step)⟩
    · rw [if_neg c4] at H
      have c4b0 : decide ((l0.length : Int) ≤ a1) = false := decide_eq_false c4
      clear c4
      by_cases c5 : 0 ≤ a1
      · rw [if_pos c5] at H
        have c5b0 : decide (0 ≤ a1) = true := decide_eq_true c5
        clear c5
        by_cases c6 : a1 < (l0.length : Int)
        · rw [if_pos c6] at H
          have c6b0 : decide (a1 < (l0.length : Int)) = true := decide_eq_true c6
          clear c6
          simp only [Option.some.injEq, Prod.mk.injEq] at H
          obtain ⟨rfl, rfl⟩ := H
          have p231 : 0 ≤ (a1 : Int) := of_decide_eq_true (by first | (with_reducible assumption) | assumption)
          have q231 : a1 < (l0.length : Int) := of_decide_eq_true (by first | (with_reducible assumption) | assumption)
          obtain ⟨ad231, e231, hx231_0⟩ := Kd.at_int HR0.out a1 p231 q231
          cases e231
          replace p231 := eq_true p231
          replace q231 := eq_true q231
          go_enter Try.func26, Try.ntmps26
          go_wp2
          go_ret2
          exact ⟨by first | rfl | (simp; done) | (simp [*]; done), by repeat (first | exact Drawn0.refl _ | apply Drawn0.step)⟩
        · rw [if_neg c6] at H
          exact absurd H (by simp)
      · rw [if_neg c5] at H
        exact absurd H (by simp)
end Go.Proofs.Ytbgbocdohadhoaa.Print
namespace Go.Proofs.Ytbgbocdohadhoaa.Print
open Go.RowKit Go.Proofs.YtbgbocdohadhoaaW.PrintWords Go.Proofs.YtbgbocdohadhoaaW.PrintLast Go.Proofs.YtbgbocdohadhoaaW.PrintMore
attribute [local go_sem] max2_int min2_int max_two min_two max_three min_three max_four min_four
set_option linter.unusedVariables false
set_option linter.unusedSimpArgs false
mutual
def spec_l3readVar.l0 : Nat → List Int → Int → Int → Int → Option (Int × Int)
  | 0, _, _, _, _ => none
  | k + 1, x0, x1, x6, x7 => if x7 < 10 then (if x1 < 0 then (spec_l3readVar.j1 k x0 x1 x6 x7 true) else (spec_l3readVar.j1 k x0 x1 x6 x7 (decide ((wrap64 (x1 + x7)) ≥ (x0.length : Int))))) else (some (0, (-1)))
def spec_l3readVar.j1 : Nat → List Int → Int → Int → Int → Bool → Option (Int × Int)
  | 0, _, _, _, _, _ => none
  | k + 1, x0, x1, x6, x7, x22 => if x22 = true then (some (0, (-1))) else (if 0 ≤ (wrap64 (x1 + x7)) then (if (wrap64 (x1 + x7)) < (x0.length : Int) then (if 0 ≤ (IntKind.u64.wrap (wrap64 (7 * x7))) then (if (rd x0 (wrap64 (x1 + x7))) < 128 then (some (Go.bits .or .u64 x6 (shl .u64 (IntKind.u64.wrap (Int.tmod (rd x0 (wrap64 (x1 + x7))) 128)) (IntKind.u64.wrap (wrap64 (7 * x7)))), wrap64 ((wrap64 (x1 + x7)) + 1))) else (spec_l3readVar.l0 k x0 x1 (Go.bits .or .u64 x6 (shl .u64 (IntKind.u64.wrap (Int.tmod (rd x0 (wrap64 (x1 + x7))) 128)) (IntKind.u64.wrap (wrap64 (7 * x7))))) (wrap64 (x7 + 1)))) else (none)) else (none)) else (none))
end
def spec_l3readVar.f (k : Nat) (l0 : List Int) (a1 : Int) : Option (Int × Int) := spec_l3readVar.l0 k l0 a1 0 0
set_option maxHeartbeats 8000000 in
set_option maxRecDepth 100000 in
theorem spec_l3readVar.calls (k : Nat) (A0 : Option Addr) (c0 : Nat) (l0 : List Int) (a1 : Int) (r1 : Int) (r2 : Int) (w : World) (hr0 : Kd.C (Kd.int .u8) w A0 l0.length l0) (hc0 : l0.length ≤ c0) (h : spec_l3readVar.f k l0 a1 = some (r1, r2)) :
    Calls Try.prog 27 #[.slice A0 l0.length c0, .int .i64 a1] w fun e w' => e = .returned (.tuple #[.int .u64 r1, .int .i64 r2]) ∧ Drawn0 w w' := by
  have HR0 := Aside0.mk hr0
  have HC0 := Aside0.mk hc0
  clear hr0 hc0
  have H : (spec_l3readVar.l0 k l0 a1 0 0) = some (r1, r2) := h
  clear h
  have H' := Aside0.mk H
  clear H
  go_enter Try.func27, Try.ntmps27
  go_wp2
  go_loopg [6, 7] k (fun kq v6 v7 w' => ∃ (x6_1 : Int) (x7_1 : Int), v6 = .int .u64 x6_1 ∧ v7 = .int .i64 x7_1 ∧ Aside0 (spec_l3readVar.l0 kq l0 a1 x6_1 x7_1 = some (r1, r2)) ∧ Aside0 (kq ≤ k) ∧ Drawn0 w w')
  case atStart => exact ⟨(0), (0), (by first | rfl | (simp; done) | (simp [*]; done)), (by first | rfl | (simp; done) | (simp [*]; done)), H', ⟨Nat.le_refl _⟩, by repeat (first | exact Drawn0.refl _ | apply Drawn0.step)⟩
  case round =>
    clear H'
    try clear c2
    try clear p2
    obtain ⟨x6_1, x7_1, rfl, rfl, HA, HK1, ⟨m1, rfl⟩⟩ := hrel
    cases gk with
    | zero => exact absurd HA.out (by simp [spec_l3readVar.l0])
    | succ k1 =>
      have H := HA.out
      clear HA
      simp only [spec_l3readVar.l0] at H
      by_cases c3 : x7_1 < 10
      · rw [if_pos c3] at H
        have c3b0 : decide (x7_1 < 10) = true := decide_eq_true c3
        clear c3
        have HC4 := Aside0.mk H
        clear H
        go_upto_region 5 with (fail)
        go_cut [22] (fun v22 wc => ∃ (kq : Nat) (x22_3 : Bool), v22 = .bool x22_3 ∧ Aside0 (spec_l3readVar.j1 kq l0 a1 x6_1 x7_1 x22_3 = some (r1, r2)) ∧ Aside0 (kq ≤ k1) ∧ Drawn0 w wc)
        case first =>
          have H := HC4.out
          clear HC4
          by_cases c5 : a1 < 0
          · rw [if_pos c5] at H
            have c5b0 : decide (a1 < 0) = true := decide_eq_true c5
            clear c5
            (first | rw [c5b0] | (simp only [i64_w, i32_w]; rw [c5b0]) | skip)
            have H' := Aside0.mk H
            clear H
            go_wp2
            go_meet
            case rel => exact ⟨_, (true), (by first | rfl | (simp; done) | (simp [*]; done)), H', ⟨by have := HK1.out; first | omega | exact Nat.le_refl _⟩, by repeat (first | exact Drawn0.refl _ | apply Drawn0.step)⟩
          · rw [if_neg c5] at H
            have c5b0 : decide (a1 < 0) = false := decide_eq_false c5
            clear c5
            (first | rw [c5b0] | (simp only [i64_w, i32_w]; rw [c5b0]) | skip)
            have H' := Aside0.mk H
            clear H
            go_wp2
            go_meet
            case rel => exact ⟨_, (decide ((wrap64 (a1 + x7_1)) ≥ (l0.length : Int))), (by first | rfl | (simp; done) | (simp [*]; done)), H', ⟨by have := HK1.out; first | omega | exact Nat.le_refl _⟩, by repeat (first | exact Drawn0.refl _ | apply Drawn0.step)⟩
        case rest =>
          clear HC4
          try clear c2
          try clear p2
          try clear c3
          try clear c3b0
          try clear c5
          try clear c5b0
          try clear p2
          obtain ⟨kq, x22_3, rfl, HA, HJ3, ⟨mc3, rfl⟩⟩ := hcut
          cases kq with
          | zero => exact absurd HA.out (by simp [spec_l3readVar.j1])
          | succ kj3 =>
            have H := HA.out
            clear HA
            simp only [spec_l3readVar.j1] at H
            by_cases c6 : x22_3 = true
            · subst c6
              have H1 : (some (0, (-1))) = some (r1, r2) := by first | rfl | (rw [if_pos rfl] at H; exact H)
              clear H
              have H := H1
              clear H1
              simp only [Option.some.injEq, Prod.mk.injEq] at H
              obtain ⟨rfl, rfl⟩ := H
              go_wp2
              go_ret2
              exact ⟨by first | rfl | (simp; done) | (simp [*]; done), by repeat (first | exact Drawn0.refl _ | apply Drawn0.step)⟩
            · replace c6 := Bool.eq_false_iff.mpr c6
              subst c6
              have H1 : (if 0 ≤ (wrap64 (a1 + x7_1)) then (if (wrap64 (a1 + x7_1)) < (l0.length : Int) then (if 0 ≤ (IntKind.u64.wrap (wrap64 (7 * x7_1))) then (if (rd l0 (wrap64 (a1 + x7_1))) < 128 then (some (Go.bits .or .u64 x6_1 (shl .u64 (IntKind.u64.wrap (Int.tmod (rd l0 (wrap64 (a1 + x7_1))) 128)) (IntKind.u64.wrap (wrap64 (7 * x7_1)))), wrap64 ((wrap64 (a1 + x7_1)) + 1))) else (spec_l3readVar.l0 kj3 l0 a1 (Go.bits .or .u64 x6_1 (shl .u64 (IntKind.u64.wrap (Int.tmod (rd l0 (wrap64 (a1 + x7_1))) 128)) (IntKind.u64.wrap (wrap64 (7 * x7_1))))) (wrap64 (x7_1 + 1)))) else (none)) else (none)) else (none)) = some (r1, r2) := by first | rfl | (rw [if_neg (show ¬ (false = true) by decide)] at H; exact H)
              clear H
              have H := H1
              clear H1
              obtain ⟨ji7, hji7⟩ : ∃ j_ : Int, (wrap64 (a1 + x7_1)) = j_ := ⟨_, rfl⟩
              replace H : (if 0 ≤ (ji7) then (if (ji7) < (l0.length : Int) then (if 0 ≤ (IntKind.u64.wrap (wrap64 (7 * x7_1))) then (if (rd l0 (ji7)) < 128 then (some (Go.bits .or .u64 x6_1 (shl .u64 (IntKind.u64.wrap (Int.tmod (rd l0 (ji7)) 128)) (IntKind.u64.wrap (wrap64 (7 * x7_1)))), wrap64 ((ji7) + 1))) else (spec_l3readVar.l0 kj3 l0 a1 (Go.bits .or .u64 x6_1 (shl .u64 (IntKind.u64.wrap (Int.tmod (rd l0 (ji7)) 128)) (IntKind.u64.wrap (wrap64 (7 * x7_1))))) (wrap64 (x7_1 + 1)))) else (none)) else (none)) else (none)) = some (r1, r2) := by first | (rw [hji7] at H; exact H) | (simp only [hji7] at H ⊢; exact H)
              have hji7w : (IntKind.i64.wrap (a1 + x7_1)) = ji7 := (i64_w _).trans hji7
              by_cases c8 : 0 ≤ (ji7)
              · rw [if_pos c8] at H
                have c8b0 : decide (0 ≤ (ji7)) = true := decide_eq_true c8
                clear c8
                by_cases c9 : (ji7) < (l0.length : Int)
                · rw [if_pos c9] at H
                  have c9b0 : decide ((ji7) < (l0.length : Int)) = true := decide_eq_true c9
                  clear c9
                  obtain ⟨ji10, hji10⟩ : ∃ j_ : Int, (IntKind.u64.wrap (wrap64 (7 * x7_1))) = j_ := ⟨_, rfl⟩
                  replace H : (if 0 ≤ (ji10) then (if (rd l0 (ji7)) < 128 then (some (Go.bits .or .u64 x6_1 (shl .u64 (IntKind.u64.wrap (Int.tmod (rd l0 (ji7)) 128)) (ji10)), wrap64 ((ji7) + 1))) else (spec_l3readVar.l0 kj3 l0 a1 (Go.bits .or .u64 x6_1 (shl .u64 (IntKind.u64.wrap (Int.tmod (rd l0 (ji7)) 128)) (ji10))) (wrap64 (x7_1 + 1)))) else (none)) = some (r1, r2) := by first | (rw [hji10] at H; exact H) | (simp only [hji10] at H ⊢; exact H)
                  by_cases c11 : 0 ≤ (ji10)
                  · rw [if_pos c11] at H
                    have c11b0 := eq_true c11
                    have c11b1 : decide (0 ≤ (ji10)) = true := decide_eq_true c11
                    clear c11
                    obtain ⟨ji12, hji12⟩ : ∃ j_ : Int, (shl .u64 (IntKind.u64.wrap (Int.tmod (rd l0 (ji7)) 128)) (ji10)) = j_ := ⟨_, rfl⟩
                    replace H : (if (rd l0 (ji7)) < 128 then (some (Go.bits .or .u64 x6_1 (ji12), wrap64 ((ji7) + 1))) else (spec_l3readVar.l0 kj3 l0 a1 (Go.bits .or .u64 x6_1 (ji12)) (wrap64 (x7_1 + 1)))) = some (r1, r2) := by first | (rw [hji12] at H; exact H) | (simp only [hji12] at H ⊢; exact H)
                    have hji12_ : (IntKind.u64.wrap ((IntKind.u64.wrap (Int.tmod (rd l0 (ji7)) 128)) * 2 ^ min (ji10).toNat 64)) = ji12 := hji12
                    have hji12z : (ji10) ≤ 64 → (IntKind.u64.wrap ((IntKind.u64.wrap (Int.tmod (rd l0 (ji7)) 128)) * 2 ^ (ji10).toNat)) = ji12 := shl_small hji12
                    by_cases c13 : (rd l0 (ji7)) < 128
                    · rw [if_pos c13] at H
                      have c13b0 : decide ((rd l0 (ji7)) < 128) = true := decide_eq_true c13
                      clear c13
                      simp only [Option.some.injEq, Prod.mk.injEq] at H
                      obtain ⟨rfl, rfl⟩ := H
                      have p232 : 0 ≤ ((ji7) : Int) := of_decide_eq_true (by first | (with_reducible assumption) | assumption)
                      have q232 : (ji7) < (l0.length : Int) := of_decide_eq_true (by first | (with_reducible assumption) | assumption)
                      obtain ⟨ad232, e232, hx232_0⟩ := Kd.at_int HR0.out (ji7) p232 q232
                      cases e232
                      replace p232 := eq_true p232
                      replace q232 := eq_true q232
                      go_wp2
                      go_ret2
                      exact ⟨by first | rfl | (simp; done) | (simp only [← hji7, ← hji10, ← hji12] <;> (first | rfl | simp)) | (simp [*]; done), by repeat (first | exact Drawn0.refl _ | apply Drawn0.step)⟩
                    · rw [if_neg c13] at H
                      have c13b0 : decide ((rd l0 (ji7)) < 128) = false := decide_eq_false c13
                      clear c13
                      have H' := Aside0.mk H
                      clear H
                      have p232 : 0 ≤ ((ji7) : Int) := of_decide_eq_true (by first | (with_reducible assumption) | assumption)
                      have q232 : (ji7) < (l0.length : Int) := of_decide_eq_true (by first | (with_reducible assumption) | assumption)
                      obtain ⟨ad232, e232, hx232_0⟩ := Kd.at_int HR0.out (ji7) p232 q232
                      cases e232
                      replace p232 := eq_true p232
                      replace q232 := eq_true q232
                      go_wp2
                      go_roundg kj3
                      case measure => have := HK1.out; have := HJ3.out; omega
                      case rel => exact ⟨(Go.bits .or .u64 x6_1 (ji12)), (wrap64 (x7_1 + 1)), (by first | rfl | (simp; done) | (simp only [← hji12] <;> (first | rfl | simp)) | (simp [*]; done)), (by first | rfl | (simp; done) | (simp [*]; done)), H', ⟨by have := HK1.out; have := HJ3.out; omega⟩, by repeat (first | exact Drawn0.refl _ | apply Drawn0.step)⟩
                  · rw [if_neg c11] at H
                    exact absurd H (by simp)
                · rw [if_neg c9] at H
                  exact absurd H (by simp)
              · rw [if_neg c8] at H
                exact absurd H (by simp)
      · rw [if_neg c3] at H
        have c3b0 : decide (x7_1 < 10) = false := decide_eq_false c3
        clear c3
        simp only [Option.some.injEq, Prod.mk.injEq] at H
        obtain ⟨rfl, rfl⟩ := H
        go_wp2
        go_ret2
        exact ⟨by first | rfl | (simp; done) | (simp [*]; done), by repeat (first | exact Drawn0.refl _ | apply Drawn0.step)⟩
end Go.Proofs.Ytbgbocdohadhoaa.Print
namespace Go.Proofs.Ytbgbocdohadhoaa.Print
open Go.RowKit Go.Proofs.YtbgbocdohadhoaaW.PrintWords Go.Proofs.YtbgbocdohadhoaaW.PrintLast Go.Proofs.YtbgbocdohadhoaaW.PrintMore
attribute [local go_sem] max2_int min2_int max_two min_two max_three min_three max_four min_four
set_option linter.unusedVariables false
set_option linter.unusedSimpArgs false
def spec_l1copy.f (l0 : List Int) : Option (List Int) := if ([] : List Int).length + l0.length < 140737488355328 then (some (([] : List Int) ++ l0)) else (none)
set_option maxHeartbeats 8000000 in
set_option maxRecDepth 100000 in
theorem spec_l1copy.calls (A0 : Option Addr) (c0 : Nat) (l0 : List Int) (r : List Int) (w : World) (hr0 : Kd.C (Kd.int .u8) w A0 l0.length l0) (hc0 : l0.length ≤ c0) (h : spec_l1copy.f l0 = some r) :
    Calls Try.prog 40 #[.slice A0 l0.length c0] w fun e w' => ∃ v0_ : Value, e = .returned (v0_) ∧ Kd.R (Kd.int .u8) 5 w' w.heap.size (fun _ => True) v0_ r ∧ Below w.heap.size w w' := by
  have HR0 := Aside0.mk hr0
  have HC0 := Aside0.mk hc0
  clear hr0 hc0
  have HB := Aside0.mk (Below.refl w.heap.size w)
  have H : (if ([] : List Int).length + l0.length < 140737488355328 then (some (([] : List Int) ++ l0)) else (none)) = some r := h
  clear h
  by_cases c2 : ([] : List Int).length + l0.length < 140737488355328
  · rw [if_pos c2] at H
    have LMc2 := Aside0.mk c2
    clear c2
    obtain ⟨y233, hy233⟩ : ∃ y_ : List Int, y_ = (([] : List Int) ++ l0) := ⟨_, rfl⟩
    replace H : (some y233) = some r := by first | (rw [hy233]; with_reducible exact H) | (have H2_ := (Option.bind_some _ _).symm.trans H; rw [hy233]; with_reducible exact H2_) | (have H2_ := (Option.bind_some _ _).symm.trans H; with_reducible exact H2_) | with_reducible exact H | (rw [hy233]; exact H) | exact H
    have Ny233 := Aside0.mk hy233
    clear hy233
    obtain rfl := Option.some.inj H
    go_enter Try.func40, Try.ntmps40
    go_wp2_with (first | ((with_reducible refine gate_builtin (b := .append) (xs := #[.tmp 4, .tmp 5]) rfl ?_); at_builtin; refine Kd.R_append_rows (Kd.int .u8) (w0 := w) w.heap.size rfl (.tmp 4) (.tmp 5) 23 5 (.int .u8 0) 1 rfl Try.underlying23 info5 rfl (by decide) (by omega) (.slice none 0 0) ([] : List Int) l0 _ _ _ (fun _ => True) (fun _ => False) rfl rfl ?aO ?aR (fun _ _ h => h) (fun _ h => h.elim) ?aF ?aB ?aS ?aL ?_; (case aR => repeat (first | exact HR0.out | (with_reducible refine Kd.C_alloc ?_ _) | (with_reducible refine Kd.C_drewN ?_ _) | (with_reducible refine Kd.C_drew ?_))); (case aB => exact (by repeat (first | (with_reducible first | exact HB.out | apply below_alloc | apply pw_below_drewN | apply below_drew1) | exact HB.out))); (case aF => exact (fun _ _ => trivial)); (case aO => exact ((Kd.R_nil _ _ _ _ (fun _ => True)))); (case aS => exact (below_size (by repeat (first | (with_reducible first | exact HB.out | apply below_alloc | apply pw_below_drewN | apply below_drew1) | exact HB.out)))); (case aL => have := LMc2.out; omega); intro v234 w3 ho hb hg hat; rw [← Ny233.out] at ho; have n0_ := Aside0.mk (hb); have n1_ := Aside0.mk (ho); clear HB; have HB := n0_; have HO235 := n1_; clear n0_ n1_; clear ho hb hg hat))
    go_ret
    exact ⟨_, by first | rfl | (simp [errW_none, errW_some] <;> rfl) | (simp [*, errW_none, errW_some] <;> rfl), by (with_reducible repeat (first | apply Kd.R_alloc | apply Kd.R_drewN | apply Kd.R_drew)); exact HO235.out, by repeat (first | (with_reducible first | exact HB.out | apply below_alloc | apply pw_below_drewN | apply below_drew1) | exact HB.out)⟩
  · rw [if_neg c2] at H
    exact absurd H (by simp)
end Go.Proofs.Ytbgbocdohadhoaa.Print
namespace Go.Proofs.Ytbgbocdohadhoaa.Print
open Go.RowKit Go.Proofs.YtbgbocdohadhoaaW.PrintWords Go.Proofs.YtbgbocdohadhoaaW.PrintLast Go.Proofs.YtbgbocdohadhoaaW.PrintMore
attribute [local go_sem] max2_int min2_int max_two min_two max_three min_three max_four min_four
set_option linter.unusedVariables false
set_option linter.unusedSimpArgs false
def spec_l3readText.f (k : Nat) (l0 : List Int) (a1 : Int) : Option (List Int × Int) := (spec_l3readVar.f k l0 a1).bind fun bt236 => (if bt236.2 < 0 then (some (([] : List Int), (-1))) else (if bt236.1 > (IntKind.u64.wrap (wrap64 ((l0.length : Int) - bt236.2))) then (some (([] : List Int), (-1))) else (if 0 ≤ bt236.2 then (if bt236.2 ≤ (wrap64 (bt236.2 + (wrap64 (bt236.1)))) then (if (wrap64 (bt236.2 + (wrap64 (bt236.1)))) ≤ (l0.length : Int) then ((spec_l1copy.f ((l0.take ((wrap64 (bt236.2 + (wrap64 (bt236.1)))) : Int).toNat).drop (bt236.2 : Int).toNat)).bind fun t239 => (some (t239, wrap64 (bt236.2 + (wrap64 (bt236.1)))))) else (none)) else (none)) else (none))))
set_option maxHeartbeats 8000000 in
set_option maxRecDepth 100000 in
theorem spec_l3readText.calls (k : Nat) (A0 : Option Addr) (c0 : Nat) (l0 : List Int) (a1 : Int) (r1 : List Int) (r2 : Int) (w : World) (hr0 : Kd.C (Kd.int .u8) w A0 l0.length l0) (hc0 : l0.length ≤ c0) (h : spec_l3readText.f k l0 a1 = some (r1, r2)) :
    Calls Try.prog 28 #[.slice A0 l0.length c0, .int .i64 a1] w fun e w' => ∃ v0_ : Value, e = .returned (.tuple #[v0_, .int .i64 r2]) ∧ Kd.R (Kd.int .u8) 5 w' w.heap.size (fun _ => True) v0_ r1 ∧ Below w.heap.size w w' := by
  have HR0 := Aside0.mk hr0
  have HC0 := Aside0.mk hc0
  clear hr0 hc0
  have HB := Aside0.mk (Below.refl w.heap.size w)
  have H : ((spec_l3readVar.f k l0 a1).bind fun bt236 => (if bt236.2 < 0 then (some (([] : List Int), (-1))) else (if bt236.1 > (IntKind.u64.wrap (wrap64 ((l0.length : Int) - bt236.2))) then (some (([] : List Int), (-1))) else (if 0 ≤ bt236.2 then (if bt236.2 ≤ (wrap64 (bt236.2 + (wrap64 (bt236.1)))) then (if (wrap64 (bt236.2 + (wrap64 (bt236.1)))) ≤ (l0.length : Int) then ((spec_l1copy.f ((l0.take ((wrap64 (bt236.2 + (wrap64 (bt236.1)))) : Int).toNat).drop (bt236.2 : Int).toNat)).bind fun t239 => (some (t239, wrap64 (bt236.2 + (wrap64 (bt236.1)))))) else (none)) else (none)) else (none))))) = some (r1, r2) := h
  clear h
  replace H := Option.bind_eq_some_iff.mp H
  obtain ⟨⟨t236, t237⟩, A30, H⟩ := H
  replace H : (if t237 < 0 then (some (([] : List Int), (-1))) else (if t236 > (IntKind.u64.wrap (wrap64 ((l0.length : Int) - t237))) then (some (([] : List Int), (-1))) else (if 0 ≤ t237 then (if t237 ≤ (wrap64 (t237 + (wrap64 (t236)))) then (if (wrap64 (t237 + (wrap64 (t236)))) ≤ (l0.length : Int) then ((spec_l1copy.f ((l0.take ((wrap64 (t237 + (wrap64 (t236)))) : Int).toNat).drop (t237 : Int).toNat)).bind fun t239 => (some (t239, wrap64 (t237 + (wrap64 (t236)))))) else (none)) else (none)) else (none)))) = some (r1, r2) := H
  have A3 := Aside0.mk A30
  clear A30
  by_cases c4 : t237 < 0
  · rw [if_pos c4] at H
    have c4b0 : decide (t237 < 0) = true := decide_eq_true c4
    clear c4
    simp only [Option.some.injEq, Prod.mk.injEq] at H
    obtain ⟨rfl, rfl⟩ := H
    go_enter Try.func28, Try.ntmps28
    go_wp2_with (first | ((with_reducible refine gate_callee (f := 27) rfl ?_); refine goesL_ (some 11) rfl rfl Try.func27 (by kernel_rfl) rfl #[.slice A0 l0.length c0, .int .i64 a1] rfl (by (try simp only [List.map_toArray, List.map_cons, List.map_nil]); first | done | rfl | (simp only [List.length_drop, List.length_take]; rfl)) ?_; (with_reducible refine (spec_l3readVar.calls k _ _ l0 a1 t236 t237 _ ?side1 ?side2 A3.out).mono ?_); (case side1 => repeat (first | exact HR0.out | (with_reducible refine Kd.C_alloc ?_ _) | (with_reducible refine Kd.C_drewN ?_ _) | (with_reducible refine Kd.C_drew ?_))); (case side2 => exact HC0.out); rintro e w' ⟨rfl, ⟨nd, rfl⟩⟩; refine ⟨_, rfl, ?_⟩))
    go_ret2
    exact ⟨_, by first | rfl | (simp [errW_none, errW_some] <;> rfl) | (simp [*, errW_none, errW_some] <;> rfl), by first | exact Kd.R_nil _ _ _ _ _ | exact Kd.N_nil _ _ _ _ _ | exact Kd.V_nil _ _ _ _ _ | exact Kd.Q_nil _ _ _ _ _ | exact Kd.S_nil _ _ _ _ _, by repeat (first | (with_reducible first | exact HB.out | apply below_alloc | apply pw_below_drewN | apply below_drew1) | exact HB.out)⟩
  · rw [if_neg c4] at H
    have c4b0 : decide (t237 < 0) = false := decide_eq_false c4
    clear c4
    by_cases c5 : t236 > (IntKind.u64.wrap (wrap64 ((l0.length : Int) - t237)))
    · rw [if_pos c5] at H
      have c5b0 : decide ((IntKind.u64.wrap (wrap64 ((l0.length : Int) - t237))) < t236) = true := decide_eq_true c5
      clear c5
      simp only [Option.some.injEq, Prod.mk.injEq] at H
      obtain ⟨rfl, rfl⟩ := H
      go_enter Try.func28, Try.ntmps28
      go_wp2_with (first | ((with_reducible refine gate_callee (f := 27) rfl ?_); refine goesL_ (some 11) rfl rfl Try.func27 (by kernel_rfl) rfl #[.slice A0 l0.length c0, .int .i64 a1] rfl (by (try simp only [List.map_toArray, List.map_cons, List.map_nil]); first | done | rfl | (simp only [List.length_drop, List.length_take]; rfl)) ?_; (with_reducible refine (spec_l3readVar.calls k _ _ l0 a1 t236 t237 _ ?side1 ?side2 A3.out).mono ?_); (case side1 => repeat (first | exact HR0.out | (with_reducible refine Kd.C_alloc ?_ _) | (with_reducible refine Kd.C_drewN ?_ _) | (with_reducible refine Kd.C_drew ?_))); (case side2 => exact HC0.out); rintro e w' ⟨rfl, ⟨nd, rfl⟩⟩; refine ⟨_, rfl, ?_⟩))
      go_ret2
      exact ⟨_, by first | rfl | (simp [errW_none, errW_some] <;> rfl) | (simp [*, errW_none, errW_some] <;> rfl), by first | exact Kd.R_nil _ _ _ _ _ | exact Kd.N_nil _ _ _ _ _ | exact Kd.V_nil _ _ _ _ _ | exact Kd.Q_nil _ _ _ _ _ | exact Kd.S_nil _ _ _ _ _, by repeat (first | (with_reducible first | exact HB.out | apply below_alloc | apply pw_below_drewN | apply below_drew1) | exact HB.out)⟩
    · rw [if_neg c5] at H
      have c5b0 : decide ((IntKind.u64.wrap (wrap64 ((l0.length : Int) - t237))) < t236) = false := decide_eq_false c5
      clear c5
      by_cases c6 : 0 ≤ t237
      · rw [if_pos c6] at H
        have c6b0 := eq_true c6
        have c6b1 : decide (0 ≤ t237) = true := decide_eq_true c6
        clear c6
        by_cases c7 : t237 ≤ (wrap64 (t237 + (wrap64 (t236))))
        · rw [if_pos c7] at H
          have c7b0 := eq_true c7
          have c7b1 : decide (t237 ≤ (wrap64 (t237 + (wrap64 (t236))))) = true := decide_eq_true c7
          by_cases c8 : (wrap64 (t237 + (wrap64 (t236)))) ≤ (l0.length : Int)
          · rw [if_pos c8] at H
            have c8b0 := eq_true c8
            have c8b1 : decide ((wrap64 (t237 + (wrap64 (t236)))) ≤ (l0.length : Int)) = true := decide_eq_true c8
            replace H := Option.bind_eq_some_iff.mp H
            obtain ⟨t239, A90, H⟩ := H
            replace H : (some (t239, wrap64 (t237 + (wrap64 (t236))))) = some (r1, r2) := H
            have A9 := Aside0.mk A90
            clear A90
            simp only [Option.some.injEq, Prod.mk.injEq] at H
            obtain ⟨rfl, rfl⟩ := H
            go_enter Try.func28, Try.ntmps28
            go_wp2_with (first | ((with_reducible refine gate_callee (f := 27) rfl ?_); refine goesL_ (some 11) rfl rfl Try.func27 (by kernel_rfl) rfl #[.slice A0 l0.length c0, .int .i64 a1] rfl (by (try simp only [List.map_toArray, List.map_cons, List.map_nil]); first | done | rfl | (simp only [List.length_drop, List.length_take]; rfl)) ?_; (with_reducible refine (spec_l3readVar.calls k _ _ l0 a1 t236 t237 _ ?side1 ?side2 A3.out).mono ?_); (case side1 => repeat (first | exact HR0.out | (with_reducible refine Kd.C_alloc ?_ _) | (with_reducible refine Kd.C_drewN ?_ _) | (with_reducible refine Kd.C_drew ?_))); (case side2 => exact HC0.out); rintro e w' ⟨rfl, ⟨nd, rfl⟩⟩; refine ⟨_, rfl, ?_⟩; obtain ⟨i010, hi010, _, hsz10, _⟩ := info_parts info5; obtain ⟨A10, hcut10, hA10, hC10⟩ := print_mid_of (P := Try.prog) (Value.int .u8) 0 23 5 .i64 .i64 Try.underlying23 hi010 hsz10 A0 c0 l0 t237 (wrap64 (t237 + (wrap64 (t236)))) (of_decide_eq_true (by first | (with_reducible assumption) | assumption)) (by first | omega | exact of_decide_eq_true (by first | (with_reducible assumption) | assumption)) (of_decide_eq_true (by first | (with_reducible assumption) | assumption)) HC0.out; have HR238 := Aside0.mk (Kd.C_of_reads (h1 := fun _ => rfl) (hA10 _ (Kd.reads_of_C HR0.out))); have HC238 := Aside0.mk hC10; clear hA10 hC10 hi010 hsz10) | ((with_reducible refine gate_callee (f := 40) rfl ?_); refine goesL_ (some 32) rfl rfl Try.func40 (by kernel_rfl) rfl #[.slice A10 ((l0.take ((wrap64 (t237 + (wrap64 (t236)))) : Int).toNat).drop (t237 : Int).toNat).length (c0 - t237.toNat)] rfl (by (try simp only [List.map_toArray, List.map_cons, List.map_nil]); first | done | (rw [show ((l0.take ((wrap64 (t237 + (wrap64 (t236)))) : Int).toNat).drop (t237 : Int).toNat).length = ((wrap64 (t237 + (wrap64 (t236)))).toNat - t237.toNat) from (by rw [List.length_drop, List.length_take]; have h_ : ((wrap64 (t237 + (wrap64 (t236)))) : Int) ≤ (l0.length : Int) := of_decide_eq_true (by first | (with_reducible assumption) | assumption); omega)] <;> rfl) | rfl | (simp only [List.length_drop, List.length_take]; rfl)) ?_; (with_reducible refine (spec_l1copy.calls _ _ ((l0.take ((wrap64 (t237 + (wrap64 (t236)))) : Int).toNat).drop (t237 : Int).toNat) t239 _ ?side1 ?side2 A9.out).mono ?_); (case side1 => repeat (first | exact HR238.out | (with_reducible refine Kd.C_alloc ?_ _) | (with_reducible refine Kd.C_drewN ?_ _) | (with_reducible refine Kd.C_drew ?_))); (case side2 => exact HC238.out); rintro e w11 ⟨v240, rfl, ho0, hb⟩; refine ⟨_, rfl, ?_⟩; have n0_ := Aside0.mk (Kd.R_lower ho0 (below_size (by repeat (first | (with_reducible first | exact HB.out | apply below_alloc | apply pw_below_drewN | apply below_drew1) | exact HB.out)))); have n1_ := Aside0.mk (below_step (by repeat (first | (with_reducible first | exact HB.out | apply below_alloc | apply pw_below_drewN | apply below_drew1) | exact HB.out)) hb); clear HB; have HO241 := n0_; have HB := n1_; clear n0_ n1_; (try clear hb); (try clear hb2); (try clear hk); (try clear hi); (try clear ho0)))
            go_ret2
            exact ⟨_, by first | rfl | (simp [errW_none, errW_some] <;> rfl) | (simp [*, errW_none, errW_some] <;> rfl), by (with_reducible repeat (first | apply Kd.R_alloc | apply Kd.R_drewN | apply Kd.R_drew)); exact HO241.out, by repeat (first | (with_reducible first | exact HB.out | apply below_alloc | apply pw_below_drewN | apply below_drew1) | exact HB.out)⟩
          · rw [if_neg c8] at H
            exact absurd H (by simp)
        · rw [if_neg c7] at H
          exact absurd H (by simp)
      · rw [if_neg c6] at H
        exact absurd H (by simp)
end Go.Proofs.Ytbgbocdohadhoaa.Print
namespace Go.Proofs.Ytbgbocdohadhoaa.Print
open Go.RowKit Go.Proofs.YtbgbocdohadhoaaW.PrintWords Go.Proofs.YtbgbocdohadhoaaW.PrintLast Go.Proofs.YtbgbocdohadhoaaW.PrintMore
attribute [local go_sem] max2_int min2_int max_two min_two max_three min_three max_four min_four
set_option linter.unusedVariables false
set_option linter.unusedSimpArgs false
def spec_l3same.f (l0 : List Int) (l1 : List Int) : Option (Bool) := some ((strOfNums l0).toList == (strOfNums l1).toList)
set_option maxHeartbeats 8000000 in
set_option maxRecDepth 100000 in
theorem spec_l3same.calls (A0 : Option Addr) (c0 : Nat) (l0 : List Int) (A1 : Option Addr) (c1 : Nat) (l1 : List Int) (r : Bool) (w : World) (hr0 : Kd.C (Kd.int .u8) w A0 l0.length l0) (hc0 : l0.length ≤ c0) (hr1 : Kd.C (Kd.int .u8) w A1 l1.length l1) (hc1 : l1.length ≤ c1) (h : spec_l3same.f l0 l1 = some r) :
    Calls Try.prog 29 #[.slice A0 l0.length c0, .slice A1 l1.length c1] w fun e w' => e = .returned (.bool r) ∧ Drawn0 w w' := by
  have HR0 := Aside0.mk hr0
  have HC0 := Aside0.mk hc0
  clear hr0 hc0
  have HR1 := Aside0.mk hr1
  have HC1 := Aside0.mk hc1
  clear hr1 hc1
  have H : (some ((strOfNums l0).toList == (strOfNums l1).toList)) = some r := h
  clear h
  obtain rfl := Option.some.inj H
  have hcv3 := Kd.C_string (P := Try.prog) (A := A0) (c := c0) Try.underlying23 Try.underlying5 Try.underlying9 HR0.out
  have hcv4 := Kd.C_string (P := Try.prog) (A := A1) (c := c1) Try.underlying23 Try.underlying5 Try.underlying9 HR1.out
  go_enter Try.func29, Try.ntmps29
  go_wp2
  go_ret
  exact ⟨by first | rfl | (simp; done) | (simp [*]; done), by repeat (first | exact Drawn0.refl _ | apply Drawn0.step)⟩
end Go.Proofs.Ytbgbocdohadhoaa.Print
namespace Go.Proofs.Ytbgbocdohadhoaa.Print
open Go.RowKit Go.Proofs.YtbgbocdohadhoaaW.PrintWords Go.Proofs.YtbgbocdohadhoaaW.PrintLast Go.Proofs.YtbgbocdohadhoaaW.PrintMore
set_option linter.unusedVariables false
set_option linter.unusedSimpArgs false
theorem heldOp_ok (k m n2 n4 : Nat) (w0 : World) (lo hi : Nat) (n s : Int) (A2 : Option Addr) (c2 : Nat) (f : Int) (A4 : Option Addr) (c4 : Nat) (e g : Int) (w : World) (hd : OPK w0 w lo hi A2 c2 (marksB n2 m) A4 c4 (marksB n4 (m + n2))) (g2 : n2 ≤ 2097152) (g4 : n4 ≤ 2097152) (hm : m ≤ 100000000) (hk : 2097152 < k) :
    Calls Try.prog 17 #[.agg #[.int .i64 n, .int .u64 s, .slice A2 n2 c2, .int .i64 f, .slice A4 n4 c4, .int .u64 e, .int .u64 g], .int .i64 m] w fun r w' => r = .returned (.int .i64 ((m + n2 + n4 : Nat) : Int)) ∧ Below w.heap.size w w' := by
  have h := laws_heldOp.calls k n s A2 c2 (marksB n2 m) f A4 c4 (marksB n4 (m + n2)) e g m _ w hd.p.reads.1 hd.p.reads.2 hd.v.reads.1 hd.v.reads.2 (show laws_heldOp.f k n s (marksB n2 m) f (marksB n4 (m + n2)) e g m = some (((m + n2 + n4 : Nat) : Int)) by unfold laws_heldOp.f; rw [heldByteS_f n2 m (by omega) k (by omega), Option.bind_some, if_neg (by omega), heldByteS_f n4 (m + n2) (by omega) k (by omega), Option.bind_some, if_neg (by omega)])
  rw [marksB_length, marksB_length] at h
  exact h
end Go.Proofs.Ytbgbocdohadhoaa.Print
namespace Go.Proofs.Ytbgbocdohadhoaa.Print
open Go Go.RowKit Go.Proofs.YtbgbocdohadhoaaW.PrintWords Go.Proofs.YtbgbocdohadhoaaW.PrintLast Go.Proofs.YtbgbocdohadhoaaW.PrintMore
set_option linter.unusedVariables false
set_option linter.unusedSimpArgs false
theorem and_byte (y : Int) (h : 0 ≤ y) (h1 : y < 256) : Go.bits .and .u8 y 127 = y % 128 := by
  have : ∀ n : Fin 256, Go.bits .and .u8 ((n.1 : Nat) : Int) 127 = ((n.1 : Nat) : Int) % 128 := by decide +kernel
  have := this ⟨y.toNat, by omega⟩
  rwa [show ((y.toNat : Nat) : Int) = y by omega] at this
def rv : Nat → Nat → Int → List Int → Option (Int × List Int)
  | 0, _, _, _ => none
  | _ + 1, _, _, [] => none
  | d + 1, i, v, c :: l => if c < 128 then some (Go.bits .or .u64 v (IntKind.u64.wrap (c % 128 * 2 ^ (7 * i))), l) else rv d (i + 1) (Go.bits .or .u64 v (IntKind.u64.wrap (c % 128 * 2 ^ (7 * i)))) l
theorem numL_bad : ∀ (d i : Nat) (v : Int) (l : List Int), (numL d i v l true).2.2 = true
  | 0, _, _, _ => rfl
  | d + 1, i, v, l => by
    unfold numL
    split
    · rfl
    · exact numL_bad d _ _ _
theorem numL_rv : ∀ (d i : Nat) (v : Int) (l : List Int), (∀ x ∈ l, 0 ≤ x ∧ x < 256) → (∀ n r, rv d i v l = some (n, r) → numL d i v l false = (n, r, false)) ∧ (rv d i v l = none → (numL d i v l false).2.2 = true)
  | 0, _, _, _, _ => ⟨by intro n r h; simp [rv] at h, fun _ => rfl⟩
  | d + 1, i, v, [], _ => ⟨by intro n r h; simp [rv] at h, fun _ => by simp [numL]⟩
  | d + 1, i, v, c :: l, hr => by
    have hc := hr c (by simp)
    have ih := numL_rv d (i + 1) (Go.bits .or .u64 v (IntKind.u64.wrap (c % 128 * 2 ^ (7 * i)))) l (fun x hx => hr x (by simp [hx]))
    unfold numL rv
    simp only [List.headD_cons, List.tail_cons, List.isEmpty_cons, Bool.or_false]
    rw [and_byte c hc.1 hc.2, u64_id (c % 128) (by omega) (by omega)]
    split
    · refine ⟨fun n r h => ?_, fun h => by cases h⟩
      have := Option.some.inj h
      rw [Prod.mk.injEq] at this
      rw [← this.1, ← this.2]
    · exact ih
theorem cntL_bad (l : List Int) : (cntL l true).2.2 = true := by
  unfold cntL
  split
  · rfl
  · exact numL_bad _ _ _ _
theorem txtL_bad (l : List Int) : (txtL l true).2.2 = true := cntL_bad l
def rdT (l : List Int) : Option (List Int × List Int) := (rv 10 0 0 l).bind fun x => if (x.2.length : Int) < x.1 then none else some (x.2.take x.1.toNat, x.2.drop x.1.toNat)
def rdB : List Int → Option (Int × List Int)
  | [] => none
  | c :: r => some (c, r)
theorem rv_sub : ∀ (d i : Nat) (v : Int) (l : List Int) (n : Int) (r : List Int), rv d i v l = some (n, r) → ∃ k, r = l.drop k ∧ 0 < k ∧ k ≤ l.length
  | 0, _, _, _, _, _, h => by simp [rv] at h
  | d + 1, i, v, [], _, _, h => by simp [rv] at h
  | d + 1, i, v, c :: l, n, r, h => by
    unfold rv at h
    split at h
    · have := Option.some.inj h
      rw [Prod.mk.injEq] at this
      exact ⟨1, this.2.symm, by omega, by simp⟩
    · obtain ⟨k, rfl, h0, h1⟩ := rv_sub d _ _ _ _ _ h
      exact ⟨k + 1, rfl, by omega, by simp; omega⟩
theorem drop_bytes {l : List Int} (hr : ∀ x ∈ l, 0 ≤ x ∧ x < 256) (k : Nat) : ∀ x ∈ l.drop k, 0 ≤ x ∧ x < 256 := fun x hx => hr x (List.mem_of_mem_drop hx)
theorem rv_bytes {d i : Nat} {v : Int} {l : List Int} {n : Int} {r : List Int} (hr : ∀ x ∈ l, 0 ≤ x ∧ x < 256) (h : rv d i v l = some (n, r)) : ∀ x ∈ r, 0 ≤ x ∧ x < 256 := by
  obtain ⟨k, rfl, _⟩ := rv_sub _ _ _ _ _ _ h
  exact drop_bytes hr k
theorem rdT_bytes {l p r : List Int} (hr : ∀ x ∈ l, 0 ≤ x ∧ x < 256) (h : rdT l = some (p, r)) : ∀ x ∈ r, 0 ≤ x ∧ x < 256 := by
  unfold rdT at h
  rcases hq : rv 10 0 0 l with _ | ⟨n, r1⟩
  · rw [hq] at h; cases h
  · rw [hq, Option.bind_some] at h
    simp only at h
    split at h
    · cases h
    · have := Option.some.inj h
      rw [Prod.mk.injEq] at this
      rw [← this.2]
      exact drop_bytes (rv_bytes hr hq) _
theorem txtL_rd (l : List Int) (hr : ∀ x ∈ l, 0 ≤ x ∧ x < 256) : (∀ p r, rdT l = some (p, r) → txtL l false = (p, r, false)) ∧ (rdT l = none → (txtL l false).2.2 = true) := by
  obtain ⟨h1, h2⟩ := numL_rv 10 0 0 l hr
  unfold rdT
  rcases hq : rv 10 0 0 l with _ | ⟨n, r1⟩
  · refine ⟨fun p r h => by simp at h, fun _ => ?_⟩
    have := h2 hq
    unfold txtL cntL
    split
    · rfl
    · exact this
  · have hN := h1 n r1 hq
    simp only [Option.bind_some]
    unfold txtL cntL
    rw [hN]
    by_cases hlt : (r1.length : Int) < n
    · rw [if_pos hlt]
      exact ⟨fun p r h => by simp [if_pos hlt] at h, fun _ => by simp [if_pos hlt]⟩
    · rw [if_neg hlt]
      refine ⟨fun p r h => ?_, fun h => by cases h⟩
      have := Option.some.inj h
      rw [Prod.mk.injEq] at this
      rw [if_neg hlt, ← this.1, ← this.2]
def decR (l : List Int) : Option (Int × Int × List Int × Int × List Int) :=
  (rdB l).bind fun a => (rv 10 0 0 a.2).bind fun b => (rdT b.2).bind fun c => (rdB c.2).bind fun d => (rdT d.2).bind fun e => some (a.1, b.1, c.1, d.1, e.1)
theorem decO_none (l : List Int) (hb : (dec5 l).2.2 = true) : decO l = (0, 0, [], 0, [], 13) := by unfold decO decT; rw [if_pos hb]
theorem dec5_of3 (l : List Int) (h : (dec3 l).2.2 = true) : (dec5 l).2.2 = true := by unfold dec5; rw [h, Bool.true_or]; exact txtL_bad _
theorem dec3_of2 (l : List Int) (h : (dec2 l).2.2 = true) : (dec3 l).2.2 = true := by unfold dec3; rw [h]; exact txtL_bad _
theorem decO_rd (l : List Int) (hr : ∀ x ∈ l, 0 ≤ x ∧ x < 256) :
    decO l = match decR l with | none => (0, 0, [], 0, [], 13) | some (k, n, p, f, q) => decT (wrap64 k) n p (wrap64 f) q false l := by
  cases l with
  | nil => exact decO_none _ (dec5_of3 _ (dec3_of2 _ (numL_bad _ _ _ _)))
  | cons k l1 =>
    have hr1 : ∀ x ∈ l1, 0 ≤ x ∧ x < 256 := fun x hx => hr x (by simp [hx])
    obtain ⟨a1, a2⟩ := numL_rv 10 0 0 l1 hr1
    have e2 : dec2 (k :: l1) = numL 10 0 0 l1 false := rfl
    unfold decR rdB
    simp only [Option.bind_some]
    rcases hq : rv 10 0 0 l1 with _ | ⟨n, l2⟩
    · exact decO_none _ (dec5_of3 _ (dec3_of2 _ (by rw [e2]; exact a2 hq)))
    · rw [a1 _ _ hq] at e2
      have hr2 := rv_bytes hr1 hq
      simp only [Option.bind_some]
      obtain ⟨b1, b2⟩ := txtL_rd l2 hr2
      have e3 : dec3 (k :: l1) = txtL l2 false := by unfold dec3; rw [e2]
      rcases hp : rdT l2 with _ | ⟨p, l3⟩
      · exact decO_none _ (dec5_of3 _ (by rw [e3]; exact b2 hp))
      · rw [b1 _ _ hp] at e3
        have hr3 := rdT_bytes hr2 hp
        simp only [Option.bind_some]
        cases l3 with
        | nil => exact decO_none _ (by unfold dec5; rw [e3]; exact txtL_bad _)
        | cons f l4 =>
          have e5 : dec5 (k :: l1) = txtL l4 false := by unfold dec5; rw [e3]; rfl
          obtain ⟨c1, c2⟩ := txtL_rd l4 (fun x hx => hr3 x (by simp [hx]))
          simp only [Option.bind_some]
          rcases hv : rdT l4 with _ | ⟨q, l5⟩
          · exact decO_none _ (by rw [e5]; exact c2 hv)
          · rw [c1 _ _ hv] at e5
            unfold decO
            rw [e2, e3, e5]
            rfl
theorem shl_seven (x : Int) (i : Nat) (h : i < 10) : shl .u64 x (IntKind.u64.wrap (wrap64 (7 * (i : Int)))) = IntKind.u64.wrap (x * 2 ^ (7 * i)) := by
  have e : IntKind.u64.wrap (wrap64 (7 * (i : Int))) = ((7 * i : Nat) : Int) := by
    have e1 : wrap64 (7 * (i : Int)) = 7 * (i : Int) := by unfold wrap64; omega
    rw [e1, u64_id _ (by omega) (by omega)]
    omega
  rw [e]
  unfold shl
  rw [Int.toNat_natCast, Nat.min_eq_left (by show 7 * i ≤ 64; omega)]
theorem wrap_two (a i : Nat) (h : a + i ≤ 140737488355328) : wrap64 ((a : Int) + (i : Int)) = ((a + i : Nat) : Int) := by unfold wrap64; omega
theorem readVar_loop (b : List Int) (hr : ∀ x ∈ b, 0 ≤ x ∧ x < 256) (hb : b.length ≤ 2097152) (a : Nat) : ∀ (d i k : Nat) (v : Int), i + d = 10 → a ≤ b.length → 2 * d + 1 ≤ k →
    spec_l3readVar.l0 k b (a : Int) v (i : Int) = match rv d i v (b.drop (a + i)) with | none => some (0, -1) | some (n, r) => some (n, ((b.length - r.length : Nat) : Int))
  | 0, i, k, v, hd, _, hk => by
    obtain ⟨k, rfl⟩ : ∃ m, k = m + 1 := ⟨k - 1, by omega⟩
    rw [spec_l3readVar.l0, if_neg (by omega)]
    rfl
  | d + 1, i, k, v, hd, ha, hk => by
    obtain ⟨k, rfl⟩ : ∃ m, k = m + 2 := ⟨k - 2, by omega⟩
    have n1 : (i : Int) < 10 := by omega
    have n2 : ¬ (a : Int) < 0 := by omega
    have n3 : (0 : Int) ≤ ((a + i : Nat) : Int) := by omega
    have n4 : i < 10 := by omega
    rw [spec_l3readVar.l0, if_pos n1, if_neg n2, spec_l3readVar.j1, wrap_two a i (by omega)]
    by_cases hlt : a + i < b.length
    · have hx := hr b[a + i] (List.getElem_mem hlt)
      have m1 : ((a + i : Nat) : Int) < (b.length : Int) := by omega
      have m2 : ¬ (decide (((a + i : Nat) : Int) ≥ (b.length : Int)) = true) := by rw [decide_eq_true_eq]; omega
      have x1 : 0 ≤ b[a + i] % 128 := by omega
      have x2 : b[a + i] % 128 < 18446744073709551616 := by omega
      have y1 : a + i ≤ 140737488355328 := by omega
      have y2 : i ≤ 140737488355328 := by omega
      have ih := readVar_loop b hr hb a d (i + 1) k (Go.bits .or .u64 v (IntKind.u64.wrap (b[a + i] % 128 * 2 ^ (7 * i)))) (by omega) ha (by omega)
      have z1 : b.length - (b.length - (a + i + 1)) = a + i + 1 := by omega
      rw [if_neg m2, if_pos n3, if_pos m1, if_pos (wrap_u64_nonneg _), rd_nat, getD_at b _ hlt, Int.tmod_eq_emod_of_nonneg hx.1, wrap_up (a + i) y1, wrap_up i y2, shl_seven _ i n4, u64_id _ x1 x2]
      rw [List.drop_eq_getElem_cons hlt, rv]
      by_cases hc : b[a + i] < 128
      · rw [if_pos hc, if_pos hc]
        simp only [List.length_drop]
        rw [z1]
      · rw [if_neg hc, if_neg hc, ih, Nat.add_assoc]
    · have m2 : decide (((a + i : Nat) : Int) ≥ (b.length : Int)) = true := by rw [decide_eq_true_eq]; omega
      rw [if_pos m2, List.drop_eq_nil_of_le (by omega), rv]
theorem readVar_f (b : List Int) (hr : ∀ x ∈ b, 0 ≤ x ∧ x < 256) (hb : b.length ≤ 2097152) (k : Nat) (hk : 21 ≤ k) (a : Nat) (ha : a ≤ b.length) :
    spec_l3readVar.f k b (a : Int) = match rv 10 0 0 (b.drop a) with | none => some (0, -1) | some (n, r) => some (n, ((b.length - r.length : Nat) : Int)) := by
  unfold spec_l3readVar.f
  have := readVar_loop b hr hb a 10 0 k 0 (by omega) ha (by omega)
  rw [Nat.add_zero] at this
  exact this
theorem readVar_bad (b : List Int) (k : Nat) (hk : 2 ≤ k) : spec_l3readVar.f k b (-1) = some (0, -1) := by
  obtain ⟨k, rfl⟩ : ∃ m, k = m + 2 := ⟨k - 2, by omega⟩
  unfold spec_l3readVar.f
  rw [spec_l3readVar.l0, if_pos (by omega), if_pos (by omega), spec_l3readVar.j1, if_pos rfl]
theorem rv_back {d i : Nat} {v : Int} {b : List Int} {a : Nat} {n : Int} {r : List Int} (ha : a ≤ b.length) (h : rv d i v (b.drop a) = some (n, r)) : r = b.drop (b.length - r.length) ∧ r.length ≤ b.length := by
  obtain ⟨k, e, h0, h1⟩ := rv_sub _ _ _ _ _ _ h
  rw [List.length_drop] at h1
  rw [List.drop_drop] at e
  have : r.length = b.length - (a + k) := by rw [e, List.length_drop]
  exact ⟨by rw [this, show b.length - (b.length - (a + k)) = a + k by omega]; exact e, by omega⟩
theorem rv_nonneg : ∀ (d i : Nat) (v : Int) (l : List Int) (n : Int) (r : List Int), rv d i v l = some (n, r) → 0 ≤ n ∧ n < 18446744073709551616
  | 0, _, _, _, _, _, h => by simp [rv] at h
  | _ + 1, _, _, [], _, _, h => by simp [rv] at h
  | d + 1, i, v, c :: l, n, r, h => by
    unfold rv at h
    split at h
    · have := Option.some.inj h
      rw [Prod.mk.injEq] at this
      rw [← this.1]
      exact ⟨or_nonneg _ _, by show IntKind.u64.wrap _ < _; simp [IntKind.wrap, IntKind.bits, IntKind.signed]; omega⟩
    · exact rv_nonneg d _ _ _ _ _ h
theorem readText_f (b : List Int) (hr : ∀ x ∈ b, 0 ≤ x ∧ x < 256) (hb : b.length ≤ 2097152) (k : Nat) (hk : 21 ≤ k) (a : Nat) (ha : a ≤ b.length) :
    spec_l3readText.f k b (a : Int) = match rdT (b.drop a) with | none => some ([], -1) | some (p, r) => some (p, ((b.length - r.length : Nat) : Int)) := by
  unfold spec_l3readText.f rdT
  rw [readVar_f b hr hb k hk a ha]
  rcases hq : rv 10 0 0 (b.drop a) with _ | ⟨n, r⟩
  · simp
  · obtain ⟨hrb, hle⟩ := rv_back ha hq
    obtain ⟨hn0, hn1⟩ := rv_nonneg _ _ _ _ _ _ hq
    simp only [Option.bind_some]
    have e0 : wrap64 ((b.length : Int) - ((b.length - r.length : Nat) : Int)) = (r.length : Int) := by unfold wrap64; omega
    rw [if_neg (by omega), e0, u64_id (r.length : Int) (by omega) (by omega)]
    by_cases hlt : (r.length : Int) < n
    · rw [if_pos hlt, if_pos hlt]
    · have e1 : wrap64 n = n := by unfold wrap64; omega
      have e2 : wrap64 (((b.length - r.length : Nat) : Int) + n) = ((b.length - r.length + n.toNat : Nat) : Int) := by unfold wrap64; omega
      rw [if_neg hlt, if_neg hlt, if_pos (by omega), e1, e2, if_pos (by omega), if_pos (by omega)]
      unfold spec_l1copy.f
      simp only [Int.toNat_natCast]
      have e3 : (b.take (b.length - r.length + n.toNat)).drop (b.length - r.length) = r.take n.toNat := by
        rw [List.drop_take, show b.length - r.length + n.toNat - (b.length - r.length) = n.toNat by omega, ← hrb]
      rw [e3, if_pos (by simp; omega), Option.bind_some]
      simp only [List.nil_append, List.length_drop]
      rw [show b.length - (r.length - n.toNat) = b.length - r.length + n.toNat by omega]
theorem readText_bad (b : List Int) (k : Nat) (hk : 2 ≤ k) : spec_l3readText.f k b (-1) = some ([], -1) := by
  unfold spec_l3readText.f
  rw [readVar_bad b k hk, Option.bind_some, if_pos (by decide)]
theorem readByte_f (b : List Int) (hr : ∀ x ∈ b, 0 ≤ x ∧ x < 256) (hb : b.length ≤ 2097152) (a : Nat) (ha : a ≤ b.length) :
    spec_l3readByte.f b (a : Int) = match rdB (b.drop a) with | none => some (0, -1) | some (c, r) => some (c, ((b.length - r.length : Nat) : Int)) := by
  unfold spec_l3readByte.f
  by_cases hlt : a < b.length
  · have hx := hr b[a] (List.getElem_mem hlt)
    have e1 : rd b (a : Int) = b[a] := by rw [rd_nat, getD_at b _ hlt]
    have e2 : wrap64 b[a] = b[a] := by unfold wrap64; omega
    have e4 : wrap64 ((a : Int) + 1) = ((a + 1 : Nat) : Int) := by unfold wrap64; omega
    rw [if_neg (by omega), if_neg (by omega), if_pos (by omega), if_pos (by omega), e1, e2, e4, List.drop_eq_getElem_cons hlt, rdB]
    simp only [List.length_drop]
    rw [show b.length - (b.length - (a + 1)) = a + 1 by omega]
  · rw [if_neg (by omega), if_pos (by omega), List.drop_eq_nil_of_le (by omega), rdB]
theorem readByte_bad (b : List Int) : spec_l3readByte.f b (-1) = some (0, -1) := by
  unfold spec_l3readByte.f
  rw [if_pos (by omega)]
theorem encB_ne (k n : Int) (p : List Int) (f : Int) (q : List Int) : encB k n p f q ≠ [] := by
  unfold encB
  simp
theorem rdB_back {b : List Int} {a : Nat} {c : Int} {r : List Int} (ha : a ≤ b.length) (h : rdB (b.drop a) = some (c, r)) : r = b.drop (b.length - r.length) ∧ r.length ≤ b.length := by
  cases hq : b.drop a with
  | nil => rw [hq] at h; cases h
  | cons x l =>
    rw [hq, rdB] at h
    have := Option.some.inj h
    rw [Prod.mk.injEq] at this
    have e := congrArg List.tail hq
    rw [List.tail_drop, List.tail_cons, this.2] at e
    have hl := congrArg List.length hq
    rw [List.length_drop, List.length_cons, this.2] at hl
    exact ⟨by rw [show b.length - r.length = a + 1 by omega]; exact e.symm, by omega⟩
theorem rdT_back {b : List Int} {a : Nat} {p r : List Int} (ha : a ≤ b.length) (h : rdT (b.drop a) = some (p, r)) : r = b.drop (b.length - r.length) ∧ r.length ≤ b.length := by
  unfold rdT at h
  rcases hq : rv 10 0 0 (b.drop a) with _ | ⟨n, r1⟩
  · rw [hq] at h; cases h
  · obtain ⟨e1, h1⟩ := rv_back ha hq
    obtain ⟨hn0, _⟩ := rv_nonneg _ _ _ _ _ _ hq
    rw [hq, Option.bind_some] at h
    simp only at h
    split at h
    · cases h
    · rename_i hlt
      have := Option.some.inj h
      rw [Prod.mk.injEq] at this
      have e2 : r1.length - r.length = n.toNat := by rw [← this.2, List.length_drop]; omega
      have e3 : r.length ≤ r1.length := by rw [← this.2, List.length_drop]; omega
      refine ⟨?_, by omega⟩
      rw [← this.2, List.length_drop]
      conv => lhs; rw [e1]
      rw [List.drop_drop]
      congr 1
      omega
def specSees (k : Nat) (b : List Int) : Prop := ∃ (k1 p1 s2 p2 : Int) (t3 : List Int) (p3 f4 p4 : Int) (t5 : List Int) (p5 : Int),
  spec_l3readByte.f b 0 = some (k1, p1) ∧ spec_l3readVar.f k b p1 = some (s2, p2) ∧ spec_l3readText.f k b p2 = some (t3, p3) ∧ spec_l3readByte.f b p3 = some (f4, p4) ∧ spec_l3readText.f k b p4 = some (t5, p5) ∧
  t3.length ≤ b.length ∧ t5.length ≤ b.length ∧ 0 ≤ s2 ∧ s2 < 18446744073709551616 ∧
  ((p5 < 0 ∧ decO b = (0, 0, [], 0, [], 13)) ∨ (¬ p5 < 0 ∧ decO b = decT k1 s2 t3 f4 t5 false b))
theorem specSees_f (b : List Int) (hr : ∀ x ∈ b, 0 ≤ x ∧ x < 256) (hb : b.length ≤ 2097152) (k : Nat) (hk : 21 ≤ k) : specSees k b := by
  unfold specSees
  rw [decO_rd b hr]
  unfold decR
  have h0 := readByte_f b hr hb 0 (Nat.zero_le _)
  rw [List.drop_zero] at h0
  rw [show ((0 : Nat) : Int) = 0 from rfl] at h0
  have bV := readVar_bad b k (by omega)
  have bT := readText_bad b k (by omega)
  have bB := readByte_bad b
  rcases h1 : rdB b with _ | ⟨kx, l1⟩
  · rw [h1] at h0
    exact ⟨_, _, _, _, _, _, _, _, _, _, h0, bV, bT, bB, bT, by simp, by simp, by omega, by omega, .inl ⟨by omega, rfl⟩⟩
  · rw [h1] at h0
    simp only at h0
    obtain ⟨e1, g1⟩ := rdB_back (b := b) (a := 0) (Nat.zero_le _) (by rw [List.drop_zero]; exact h1)
    have hkx : 0 ≤ kx ∧ kx < 256 := by
      cases b with
      | nil => cases h1
      | cons x t =>
        rw [rdB] at h1
        have := Option.some.inj h1
        rw [Prod.mk.injEq] at this
        rw [← this.1]
        exact hr _ (by simp)
    simp only [Option.bind_some]
    have q1 := readVar_f b hr hb k hk (b.length - l1.length) (by omega)
    rw [← e1] at q1
    rcases h2 : rv 10 0 0 l1 with _ | ⟨n, l2⟩
    · rw [h2] at q1
      exact ⟨_, _, _, _, _, _, _, _, _, _, h0, q1, bT, bB, bT, by simp, by simp, by omega, by omega, .inl ⟨by omega, rfl⟩⟩
    · rw [h2] at q1
      simp only at q1
      obtain ⟨e2, g2⟩ := rv_back (b := b) (a := b.length - l1.length) (by omega) (by rw [← e1]; exact h2)
      obtain ⟨n0, n1⟩ := rv_nonneg _ _ _ _ _ _ h2
      simp only [Option.bind_some]
      have q2 := readText_f b hr hb k hk (b.length - l2.length) (by omega)
      rw [← e2] at q2
      rcases h3 : rdT l2 with _ | ⟨p, l3⟩
      · rw [h3] at q2
        exact ⟨_, _, _, _, _, _, _, _, _, _, h0, q1, q2, bB, bT, by simp, by simp, n0, n1, .inl ⟨by omega, rfl⟩⟩
      · rw [h3] at q2
        simp only at q2
        obtain ⟨e3, g3⟩ := rdT_back (b := b) (a := b.length - l2.length) (by omega) (by rw [← e2]; exact h3)
        have lp : p.length ≤ b.length := by
          have := (txtL_len l2 false).1
          rw [(txtL_rd l2 (by rw [e2]; exact drop_bytes hr _)).1 p l3 h3] at this
          simp only at this
          omega
        simp only [Option.bind_some]
        have q3 := readByte_f b hr hb (b.length - l3.length) (by omega)
        rw [← e3] at q3
        rcases h4 : rdB l3 with _ | ⟨fx, l4⟩
        · rw [h4] at q3
          exact ⟨_, _, _, _, _, _, _, _, _, _, h0, q1, q2, q3, bT, lp, by simp, n0, n1, .inl ⟨by omega, rfl⟩⟩
        · rw [h4] at q3
          simp only at q3
          obtain ⟨e4, g4⟩ := rdB_back (b := b) (a := b.length - l3.length) (by omega) (by rw [← e3]; exact h4)
          have hfx : 0 ≤ fx ∧ fx < 256 := by
            have hb3 : ∀ x ∈ l3, 0 ≤ x ∧ x < 256 := by rw [e3]; exact drop_bytes hr _
            cases hl : l3 with
            | nil => rw [hl] at h4; cases h4
            | cons x t =>
              rw [hl, rdB] at h4
              have := Option.some.inj h4
              rw [Prod.mk.injEq] at this
              rw [← this.1]
              exact hb3 _ (by rw [hl]; simp)
          simp only [Option.bind_some]
          have q4 := readText_f b hr hb k hk (b.length - l4.length) (by omega)
          rw [← e4] at q4
          rcases h5 : rdT l4 with _ | ⟨v, l5⟩
          · rw [h5] at q4
            exact ⟨_, _, _, _, _, _, _, _, _, _, h0, q1, q2, q3, q4, lp, by simp, n0, n1, .inl ⟨by omega, rfl⟩⟩
          · rw [h5] at q4
            simp only at q4
            have lv : v.length ≤ b.length := by
              have := (txtL_len l4 false).1
              rw [(txtL_rd l4 (by rw [e4]; exact drop_bytes hr _)).1 v l5 h5] at this
              simp only at this
              omega
            have wk : wrap64 kx = kx := by unfold wrap64; omega
            have wf : wrap64 fx = fx := by unfold wrap64; omega
            refine ⟨_, _, _, _, _, _, _, _, _, _, h0, q1, q2, q3, q4, lp, lv, n0, n1, .inr ⟨by omega, ?_⟩⟩
            simp only [Option.bind_some]
            rw [wk, wf]
theorem decT_parts (k1 s2 : Int) (t3 : List Int) (f4 : Int) (t5 b : List Int) : decT k1 s2 t3 f4 t5 false b = if formedB k1 s2 t3.length f4 t5.length 0 0 then (if journB k1 then (if (strOfNums (encB k1 s2 t3 f4 t5)).toList == (strOfNums b).toList then (k1, s2, t3, f4, t5, 0) else (0, 0, [], 0, [], 13)) else (0, 0, [], 0, [], 13)) else (0, 0, [], 0, [], 13) := by
  unfold decT encOpF
  rw [if_neg (by decide)]
  cases hf : formedB k1 s2 t3.length f4 t5.length 0 0 with
  | false => simp
  | true =>
    cases hj : journB k1 with
    | false => simp
    | true =>
      have hne : ¬ (encB k1 s2 t3 f4 t5).length = 0 := fun h => encB_ne k1 s2 t3 f4 t5 (List.length_eq_zero_iff.1 h)
      simp only [Bool.and_self, if_true, if_neg hne]
theorem decO_len (l : List Int) : (decO l).2.2.1.length ≤ l.length ∧ (decO l).2.2.2.2.1.length ≤ l.length := by
  have h2 := numL_len 10 0 0 l.tail (false || l.isEmpty)
  have h3 := txtL_len (dec2 l).2.1 (dec2 l).2.2
  have h5 := txtL_len (dec3 l).2.1.tail ((dec3 l).2.2 || (dec3 l).2.1.isEmpty)
  have a2 : (dec2 l).2.1.length ≤ l.tail.length := h2
  have a3 : (dec3 l).1.length ≤ (dec2 l).2.1.length ∧ (dec3 l).2.1.length ≤ (dec2 l).2.1.length := h3
  have a5 : (dec5 l).1.length ≤ (dec3 l).2.1.tail.length := h5.1
  simp only [List.length_tail] at a2 a5
  unfold decO decT
  split
  · simp
  · split
    · simp
    · split
      · simp only
        omega
      · simp
theorem OPK.rebase {w0 w1 W : World} {lo hi : Nat} {A2 A4 : Option Addr} {c2 c4 : Nat} {l2 l4 : List Int} (h : OPK w0 W lo hi A2 c2 l2 A4 c4 l4) (hw : w1.heap.size ≤ w0.heap.size) : OPK w1 W lo hi A2 c2 l2 A4 c4 l4 := ⟨⟨Kd.R_lower h.p.r hw, h.p.b⟩, ⟨Kd.R_lower h.v.r hw, h.v.b⟩, h.d⟩
theorem impl_DecodeOp_ok (w0 : World) (A : Option Addr) (c : Nat) (l : List Int) (w : World) (hB : Below w0.heap.size w0 w) (h : Kd.C (Kd.int .u8) w A l.length l) (hc : l.length ≤ c) (hl : l.length ≤ 2097152) :
    Calls Try.prog 16 #[.slice A l.length c] w fun r w' => ∃ (A2 : Option Addr) (c2 : Nat) (A4 : Option Addr) (c4 : Nat), r = .returned (.tuple #[.agg #[.int .i64 (decO l).1, .int .u64 (decO l).2.1, .slice A2 (decO l).2.2.1.length c2, .int .i64 (decO l).2.2.2.1, .slice A4 (decO l).2.2.2.2.1.length c4, .int .u64 0, .int .u64 0], .int .i64 (decO l).2.2.2.2.2]) ∧ OPK w0 w' w.heap.size w'.heap.size A2 c2 (decO l).2.2.1 A4 c4 (decO l).2.2.2.2.1 ∧ Below w.heap.size w w' := by
  refine (impl_DecodeOp_calls A c l w h hc hl).mono ?_
  rintro r w' ⟨A2, c2, A4, c4, rfl, hd, hb⟩
  exact ⟨A2, c2, A4, c4, rfl, hd.rebase hB.size, hb⟩
end Go.Proofs.Ytbgbocdohadhoaa.Print
namespace Go.Proofs.Ytbgbocdohadhoaa.Print
open Go Go.RowKit Go.Proofs.YtbgbocdohadhoaaW.PrintWords Go.Proofs.YtbgbocdohadhoaaW.PrintLast Go.Proofs.YtbgbocdohadhoaaW.PrintMore
set_option linter.unusedVariables false
set_option linter.unusedSimpArgs false
set_option maxHeartbeats 4000000 in
set_option maxRecDepth 100000 in
theorem spec_DecodeOp_calls (k : Nat) (A : Option Addr) (c : Nat) (l : List Int) (w : World) (h : Kd.C (Kd.int .u8) w A l.length l) (hc : l.length ≤ c) (hl : l.length ≤ 2097152) (hr : ∀ x ∈ l, 0 ≤ x ∧ x < 256) (hk : 21 ≤ k) :
    Calls Try.prog 14 #[.slice A l.length c] w fun r w' => ∃ (A2 : Option Addr) (c2 : Nat) (A4 : Option Addr) (c4 : Nat), r = .returned (.tuple #[.agg #[.int .i64 (decO l).1, .int .u64 (decO l).2.1, .slice A2 (decO l).2.2.1.length c2, .int .i64 (decO l).2.2.2.1, .slice A4 (decO l).2.2.2.2.1.length c4, .int .u64 0, .int .u64 0], .int .i64 (decO l).2.2.2.2.2]) ∧ OPK w w' w.heap.size w'.heap.size A2 c2 (decO l).2.2.1 A4 c4 (decO l).2.2.2.2.1 ∧ Below w.heap.size w w' := by
  obtain ⟨k1, p1, s2, p2, t3, p3, f4, p4, t5, p5, a1, a2, a3, a4, a5, l3, l5, n0, n1, hor⟩ := specSees_f l hr hl k hk
  have H := Aside0.mk (And.intro h hc)
  have E1 := Aside0.mk a1
  have E2 := Aside0.mk a2
  have E3 := Aside0.mk a3
  have E4 := Aside0.mk a4
  have E5 := Aside0.mk a5
  have LN := Aside0.mk (show t3.length ≤ 2097152 ∧ t5.length ≤ 2097152 from ⟨Nat.le_trans l3 hl, Nat.le_trans l5 hl⟩)
  have SN := Aside0.mk (And.intro n0 n1)
  have HO := Aside0.mk hor
  have HK := Aside0.mk hk
  clear h hc hl hr hk a1 a2 a3 a4 a5 l3 l5 n0 n1 hor
  go_enter Try.func14, Try.ntmps14
  go_wp2_with fail
  have b0 := blk_new w (.cells #[.int .i64 0, .int .u64 0, .slice none 0 0, .int .i64 0, .slice none 0 0, .int .u64 0, .int .u64 0] 28)
  have hB := below_alloc (Below.refl w.heap.size w) (.cells #[.int .i64 0, .int .u64 0, .slice none 0 0, .int .i64 0, .slice none 0 0, .int .u64 0, .int .u64 0] 28)
  have hg := blk_lt b0
  generalize w.alloc (.cells #[.int .i64 0, .int .u64 0, .slice none 0 0, .int .i64 0, .slice none 0 0, .int .u64 0, .int .u64 0] 28) = W at *
  have BR := Aside0.mk b0
  have HB := Aside0.mk hB
  have HG := Aside0.mk hg
  clear b0 hB hg
  refine (spec_l3readByte.calls A c l 0 k1 p1 _ (Kd.C_below H.out.1 HB.out) H.out.2 E1.out).mono ?_
  rintro r W1 ⟨rfl, hdr⟩
  have hb := hdr.below
  replace BR := Aside0.mk (blk_below BR.out hb)
  replace HB := Aside0.mk (below_step HB.out hb)
  replace HG := Aside0.mk (Nat.lt_of_lt_of_le HG.out hb.size)
  clear hdr hb
  go_wp2_with fail
  refine (spec_l3readVar.calls k A c l p1 s2 p2 _ (Kd.C_below H.out.1 HB.out) H.out.2 E2.out).mono ?_
  rintro r W2 ⟨rfl, hdr⟩
  have hb := hdr.below
  replace BR := Aside0.mk (blk_below BR.out hb)
  replace HB := Aside0.mk (below_step HB.out hb)
  replace HG := Aside0.mk (Nat.lt_of_lt_of_le HG.out hb.size)
  clear hdr hb
  go_wp2_with fail
  refine (spec_l3readText.calls k A c l p2 t3 p3 _ (Kd.C_below H.out.1 HB.out) H.out.2 E3.out).mono ?_
  rintro r W3 ⟨v3, rfl, hv, hb⟩
  obtain ⟨A2, c2, rfl, hd⟩ := BK.of2 hv HB.out
  have D3 := Aside0.mk hd
  have G3 := Aside0.mk (show w.heap.size < W2.heap.size from HG.out)
  have SZ3 := Aside0.mk hb.size
  replace BR := Aside0.mk (blk_below BR.out hb)
  replace HB := Aside0.mk (below_step HB.out hb)
  replace HG := Aside0.mk (Nat.lt_of_lt_of_le HG.out hb.size)
  clear hb hv hd
  go_wp2_with fail
  refine (spec_l3readByte.calls A c l p3 f4 p4 _ (Kd.C_below H.out.1 HB.out) H.out.2 E4.out).mono ?_
  rintro r W4 ⟨rfl, hdr⟩
  have hb := hdr.below
  have S4 := Aside0.mk hb.size
  replace BR := Aside0.mk (blk_below BR.out hb)
  replace HB := Aside0.mk (below_step HB.out hb)
  replace HG := Aside0.mk (Nat.lt_of_lt_of_le HG.out hb.size)
  replace D3 := Aside0.mk (D3.out.below hb)
  clear hdr hb
  go_wp2_with fail
  refine (spec_l3readText.calls k A c l p4 t5 p5 _ (Kd.C_below H.out.1 HB.out) H.out.2 E5.out).mono ?_
  rintro r W5 ⟨v5, rfl, hv, hb⟩
  obtain ⟨A4, c4, rfl, hd⟩ := BK.of2 hv HB.out
  have D5 := Aside0.mk hd
  have S5 := Aside0.mk hb.size
  have G4 := Aside0.mk (show w.heap.size < W4.heap.size from HG.out)
  replace BR := Aside0.mk (blk_below BR.out hb)
  replace HB := Aside0.mk (below_step HB.out hb)
  replace HG := Aside0.mk (Nat.lt_of_lt_of_le HG.out hb.size)
  replace D3 := Aside0.mk (D3.out.below hb)
  clear hb hv hd
  clear E1 E2 E3 E4 E5
  rcases HO.out with ⟨hneg, hE⟩ | ⟨hneg, hE⟩
  · have hd1 : decide (p5 < 0) = true := decide_eq_true hneg
    have HE := Aside0.mk hE
    clear hneg hE HO
    have x0 := blk_cell BR.out 0
    have x1 := blk_cell BR.out 1
    have x2 := blk_cell BR.out 2
    have x3 := blk_cell BR.out 3
    have x4 := blk_cell BR.out 4
    have x5 := blk_cell BR.out 5
    have x6 := blk_cell BR.out 6
    simp only [List.getElem?_toArray, List.getElem?_cons_zero, List.getElem?_cons_succ] at x0 x1 x2 x3 x4 x5 x6
    have f0 := blk_frozen BR.out 0
    have f1 := blk_frozen BR.out 1
    have f2 := blk_frozen BR.out 2
    have f3 := blk_frozen BR.out 3
    have f4_ := blk_frozen BR.out 4
    have f5 := blk_frozen BR.out 5
    have f6 := blk_frozen BR.out 6
    have b5 := blk_new W5 (.cells #[.int .i64 k1, .int .u64 s2, .slice A2 t3.length c2, .int .i64 f4, .slice A4 t5.length c4, .int .u64 0, .int .u64 0] 28)
    have hba := below_alloc (Below.refl W5.heap.size W5) (.cells #[.int .i64 k1, .int .u64 s2, .slice A2 t3.length c2, .int .i64 f4, .slice A4 t5.length c4, .int .u64 0, .int .u64 0] 28)
    have BR' := Aside0.mk (blk_alloc BR.out (.cells #[.int .i64 k1, .int .u64 s2, .slice A2 t3.length c2, .int .i64 f4, .slice A4 t5.length c4, .int .u64 0, .int .u64 0] 28))
    have HB' := Aside0.mk (below_step HB.out hba)
    clear b5 hba
    have lt5 := HG.out
    go_wp2_with fail
    refine bodyPost_ret (results_ct rfl _ _ w.heap.size 28 #[.int .i64 0, .int .u64 0, .slice none 0 0, .int .i64 0, .slice none 0 0, .int .u64 0, .int .u64 0] (0, 0) _ rfl (by refine blk_alloc ?_ _; refine blk_put (cs := #[.int .i64 0, .int .u64 0, .slice none 0 0, .int .i64 0, .slice none 0 0, .int .u64 0, .int .u64 0]) ?_ 6 _ rfl; refine blk_put (cs := #[.int .i64 0, .int .u64 0, .slice none 0 0, .int .i64 0, .slice none 0 0, .int .u64 0, .int .u64 0]) ?_ 5 _ rfl; refine blk_put (cs := #[.int .i64 0, .int .u64 0, .slice none 0 0, .int .i64 0, .slice none 0 0, .int .u64 0, .int .u64 0]) ?_ 4 _ rfl; refine blk_put (cs := #[.int .i64 0, .int .u64 0, .slice none 0 0, .int .i64 0, .slice none 0 0, .int .u64 0, .int .u64 0]) ?_ 3 _ rfl; refine blk_put (cs := #[.int .i64 0, .int .u64 0, .slice none 0 0, .int .i64 0, .slice none 0 0, .int .u64 0, .int .u64 0]) ?_ 2 _ rfl; refine blk_put (cs := #[.int .i64 0, .int .u64 0, .slice none 0 0, .int .i64 0, .slice none 0 0, .int .u64 0, .int .u64 0]) ?_ 1 _ rfl; refine blk_put (cs := #[.int .i64 0, .int .u64 0, .slice none 0 0, .int .i64 0, .slice none 0 0, .int .u64 0, .int .u64 0]) ?_ 0 _ rfl; exact BR.out) Try.underlying28 rfl (by kernel_rfl)) rfl ?_
    rw [HE.out]
    exact ⟨none, 0, none, 0, rfl, ⟨BK.nil _ _ _ _, BK.nil _ _ _ _, by intro k hk; simp [OB, Value.ownBlock] at hk⟩, by with_reducible repeat (first | exact HB.out | refine below_set ?_ (Nat.le_refl _) | refine below_alloc ?_ _)⟩
  · have hd1 : decide (p5 < 0) = false := decide_eq_false (by omega)
    rw [decT_parts] at hE
    have HE := Aside0.mk hE
    clear hneg hE HO
    have b5 := Aside0.mk (blk_new W5 (.cells #[.int .i64 k1, .int .u64 s2, .slice A2 t3.length c2, .int .i64 f4, .slice A4 t5.length c4, .int .u64 0, .int .u64 0] 28))
    have hba := below_alloc (Below.refl W5.heap.size W5) (.cells #[.int .i64 k1, .int .u64 s2, .slice A2 t3.length c2, .int .i64 f4, .slice A4 t5.length c4, .int .u64 0, .int .u64 0] 28)
    have z0 := blk_cell b5.out 0
    have z1 := blk_cell b5.out 1
    have z2 := blk_cell b5.out 2
    have z3 := blk_cell b5.out 3
    have z4 := blk_cell b5.out 4
    have z5 := blk_cell b5.out 5
    have z6 := blk_cell b5.out 6
    simp only [List.getElem?_toArray, List.getElem?_cons_zero, List.getElem?_cons_succ] at z0 z1 z2 z3 z4 z5 z6
    obtain ⟨fb, hfb⟩ : ∃ fb, formedB k1 s2 t3.length f4 t5.length 0 0 = fb := ⟨_, rfl⟩
    have FF := Aside0.mk (show spec_l3formed.f k k1 s2 t3 f4 t5 0 0 = some fb by rw [formed_f k k1 s2 t3 f4 t5 0 0 (by have := HK.out; omega), hfb])
    rw [hfb] at HE
    clear hfb
    go_wp2_with fail
    refine (spec_l3formed.calls k k1 s2 A2 c2 t3 f4 A4 c4 t5 0 0 fb _ (Kd.C_alloc D3.out.reads.1 _) D3.out.reads.2 (Kd.C_alloc D5.out.reads.1 _) D5.out.reads.2 FF.out).mono ?_
    rintro r W6 ⟨rfl, hb⟩
    have hbb := below_step hba hb
    replace BR := Aside0.mk (blk_below BR.out hbb)
    have BO := Aside0.mk (blk_below b5.out hb)
    replace HB := Aside0.mk (below_step HB.out hbb)
    have S6 := Aside0.mk hbb.size
    replace D3 := Aside0.mk (D3.out.below hbb)
    replace D5 := Aside0.mk (D5.out.below hbb)
    clear hb hbb hba b5 FF z0 z1 z2 z3 z4 z5 z6
    have z0 := blk_cell BO.out 0
    have z1 := blk_cell BO.out 1
    have z2 := blk_cell BO.out 2
    have z3 := blk_cell BO.out 3
    have z4 := blk_cell BO.out 4
    have z5 := blk_cell BO.out 5
    have z6 := blk_cell BO.out 6
    simp only [List.getElem?_toArray, List.getElem?_cons_zero, List.getElem?_cons_succ] at z0 z1 z2 z3 z4 z5 z6
    have x0 := blk_cell BR.out 0
    have x1 := blk_cell BR.out 1
    have x2 := blk_cell BR.out 2
    have x3 := blk_cell BR.out 3
    have x4 := blk_cell BR.out 4
    have x5 := blk_cell BR.out 5
    have x6 := blk_cell BR.out 6
    simp only [List.getElem?_toArray, List.getElem?_cons_zero, List.getElem?_cons_succ] at x0 x1 x2 x3 x4 x5 x6
    have f0 := blk_frozen BR.out 0
    have f1 := blk_frozen BR.out 1
    have f2 := blk_frozen BR.out 2
    have f3 := blk_frozen BR.out 3
    have f4_ := blk_frozen BR.out 4
    have f5 := blk_frozen BR.out 5
    have f6 := blk_frozen BR.out 6
    cases fb with
    | false =>
      rw [if_neg (show ¬ (false = true) by decide)] at HE
      go_wp2_with fail
      refine bodyPost_ret (results_ct rfl _ _ w.heap.size 28 #[.int .i64 0, .int .u64 0, .slice none 0 0, .int .i64 0, .slice none 0 0, .int .u64 0, .int .u64 0] (0, 0) _ rfl (by refine blk_put (cs := #[.int .i64 0, .int .u64 0, .slice none 0 0, .int .i64 0, .slice none 0 0, .int .u64 0, .int .u64 0]) ?_ 6 _ rfl; refine blk_put (cs := #[.int .i64 0, .int .u64 0, .slice none 0 0, .int .i64 0, .slice none 0 0, .int .u64 0, .int .u64 0]) ?_ 5 _ rfl; refine blk_put (cs := #[.int .i64 0, .int .u64 0, .slice none 0 0, .int .i64 0, .slice none 0 0, .int .u64 0, .int .u64 0]) ?_ 4 _ rfl; refine blk_put (cs := #[.int .i64 0, .int .u64 0, .slice none 0 0, .int .i64 0, .slice none 0 0, .int .u64 0, .int .u64 0]) ?_ 3 _ rfl; refine blk_put (cs := #[.int .i64 0, .int .u64 0, .slice none 0 0, .int .i64 0, .slice none 0 0, .int .u64 0, .int .u64 0]) ?_ 2 _ rfl; refine blk_put (cs := #[.int .i64 0, .int .u64 0, .slice none 0 0, .int .i64 0, .slice none 0 0, .int .u64 0, .int .u64 0]) ?_ 1 _ rfl; refine blk_put (cs := #[.int .i64 0, .int .u64 0, .slice none 0 0, .int .i64 0, .slice none 0 0, .int .u64 0, .int .u64 0]) ?_ 0 _ rfl; exact BR.out) Try.underlying28 rfl (by kernel_rfl)) rfl ?_
      rw [HE.out]
      exact ⟨none, 0, none, 0, rfl, ⟨BK.nil _ _ _ _, BK.nil _ _ _ _, by intro k hk; simp [OB, Value.ownBlock] at hk⟩, by with_reducible repeat (first | exact HB.out | refine below_set ?_ (Nat.le_refl _) | refine below_alloc ?_ _)⟩
    | true =>
      rw [if_pos rfl] at HE
      obtain ⟨jb, hjb⟩ : ∃ jb, journB k1 = jb := ⟨_, rfl⟩
      have FJ := Aside0.mk (show spec_l3journaled.f k1 = some jb by rw [journaled_f, hjb])
      rw [hjb] at HE
      clear hjb
      go_wp2_with fail
      refine (spec_l3journaled.calls k1 jb _ FJ.out).mono ?_
      rintro r W7 ⟨rfl, hdr⟩
      have hb := hdr.below
      have S7 := Aside0.mk hb.size
      replace BR := Aside0.mk (blk_below BR.out hb)
      replace BO := Aside0.mk (blk_below BO.out hb)
      replace HB := Aside0.mk (below_step HB.out hb)
      replace D3 := Aside0.mk (D3.out.below hb)
      replace D5 := Aside0.mk (D5.out.below hb)
      clear hb hdr FJ z0 z1 z2 z3 z4 z5 z6 x0 x1 x2 x3 x4 x5 x6 f0 f1 f2 f3 f4_ f5 f6
      have z0 := blk_cell BO.out 0
      have z1 := blk_cell BO.out 1
      have z2 := blk_cell BO.out 2
      have z3 := blk_cell BO.out 3
      have z4 := blk_cell BO.out 4
      have z5 := blk_cell BO.out 5
      have z6 := blk_cell BO.out 6
      simp only [List.getElem?_toArray, List.getElem?_cons_zero, List.getElem?_cons_succ] at z0 z1 z2 z3 z4 z5 z6
      have x0 := blk_cell BR.out 0
      have x1 := blk_cell BR.out 1
      have x2 := blk_cell BR.out 2
      have x3 := blk_cell BR.out 3
      have x4 := blk_cell BR.out 4
      have x5 := blk_cell BR.out 5
      have x6 := blk_cell BR.out 6
      simp only [List.getElem?_toArray, List.getElem?_cons_zero, List.getElem?_cons_succ] at x0 x1 x2 x3 x4 x5 x6
      have f0 := blk_frozen BR.out 0
      have f1 := blk_frozen BR.out 1
      have f2 := blk_frozen BR.out 2
      have f3 := blk_frozen BR.out 3
      have f4_ := blk_frozen BR.out 4
      have f5 := blk_frozen BR.out 5
      have f6 := blk_frozen BR.out 6
      cases jb with
      | false =>
        rw [if_neg (show ¬ (false = true) by decide)] at HE
        go_wp2_with fail
        refine bodyPost_ret (results_ct rfl _ _ w.heap.size 28 #[.int .i64 0, .int .u64 0, .slice none 0 0, .int .i64 0, .slice none 0 0, .int .u64 0, .int .u64 0] (0, 0) _ rfl (by refine blk_put (cs := #[.int .i64 0, .int .u64 0, .slice none 0 0, .int .i64 0, .slice none 0 0, .int .u64 0, .int .u64 0]) ?_ 6 _ rfl; refine blk_put (cs := #[.int .i64 0, .int .u64 0, .slice none 0 0, .int .i64 0, .slice none 0 0, .int .u64 0, .int .u64 0]) ?_ 5 _ rfl; refine blk_put (cs := #[.int .i64 0, .int .u64 0, .slice none 0 0, .int .i64 0, .slice none 0 0, .int .u64 0, .int .u64 0]) ?_ 4 _ rfl; refine blk_put (cs := #[.int .i64 0, .int .u64 0, .slice none 0 0, .int .i64 0, .slice none 0 0, .int .u64 0, .int .u64 0]) ?_ 3 _ rfl; refine blk_put (cs := #[.int .i64 0, .int .u64 0, .slice none 0 0, .int .i64 0, .slice none 0 0, .int .u64 0, .int .u64 0]) ?_ 2 _ rfl; refine blk_put (cs := #[.int .i64 0, .int .u64 0, .slice none 0 0, .int .i64 0, .slice none 0 0, .int .u64 0, .int .u64 0]) ?_ 1 _ rfl; refine blk_put (cs := #[.int .i64 0, .int .u64 0, .slice none 0 0, .int .i64 0, .slice none 0 0, .int .u64 0, .int .u64 0]) ?_ 0 _ rfl; exact BR.out) Try.underlying28 rfl (by kernel_rfl)) rfl ?_
        rw [HE.out]
        exact ⟨none, 0, none, 0, rfl, ⟨BK.nil _ _ _ _, BK.nil _ _ _ _, by intro k hk; simp [OB, Value.ownBlock] at hk⟩, by with_reducible repeat (first | exact HB.out | refine below_set ?_ (Nat.le_refl _) | refine below_alloc ?_ _)⟩
      | true =>
        rw [if_pos rfl] at HE
        have FE := Aside0.mk (encodeOp_f k k1 s2 t3 f4 t5 0 0 SN.out.1 SN.out.2 (by have := LN.out.1; omega) (by have := LN.out.2; omega) (by have := HK.out; omega))
        generalize encB k1 s2 t3 f4 t5 = eb at *
        go_wp2_with fail
        refine (spec_l3encodeOp.calls k k1 s2 A2 c2 t3 f4 A4 c4 t5 0 0 eb _ D3.out.reads.1 D3.out.reads.2 D5.out.reads.1 D5.out.reads.2 FE.out).mono ?_
        rintro r W8 ⟨v8, rfl, hv, hb⟩
        obtain ⟨A8, c8, rfl, hd⟩ := BK.of2 hv HB.out
        have D8 := Aside0.mk hd
        have S8 := Aside0.mk hb.size
        replace BR := Aside0.mk (blk_below BR.out hb)
        replace BO := Aside0.mk (blk_below BO.out hb)
        replace HB := Aside0.mk (below_step HB.out hb)
        replace D3 := Aside0.mk (D3.out.below hb)
        replace D5 := Aside0.mk (D5.out.below hb)
        clear hb hd hv FE z0 z1 z2 z3 z4 z5 z6 x0 x1 x2 x3 x4 x5 x6 f0 f1 f2 f3 f4_ f5 f6
        obtain ⟨tt, htt⟩ : ∃ tt, ((strOfNums eb).toList == (strOfNums l).toList) = tt := ⟨_, rfl⟩
        have FS := Aside0.mk (show spec_l3same.f eb l = some tt by unfold spec_l3same.f; rw [htt])
        rw [htt] at HE
        clear htt
        go_wp2_with fail
        refine (spec_l3same.calls A8 c8 eb A c l tt _ D8.out.reads.1 D8.out.reads.2 (Kd.C_below H.out.1 HB.out) H.out.2 FS.out).mono ?_
        rintro r W9 ⟨rfl, hdr⟩
        have hb := hdr.below
        have S9 := Aside0.mk hb.size
        replace BR := Aside0.mk (blk_below BR.out hb)
        replace BO := Aside0.mk (blk_below BO.out hb)
        replace HB := Aside0.mk (below_step HB.out hb)
        replace D3 := Aside0.mk (D3.out.below hb)
        replace D5 := Aside0.mk (D5.out.below hb)
        clear hb hdr FS D8
        have z0 := blk_cell BO.out 0
        have z1 := blk_cell BO.out 1
        have z2 := blk_cell BO.out 2
        have z3 := blk_cell BO.out 3
        have z4 := blk_cell BO.out 4
        have z5 := blk_cell BO.out 5
        have z6 := blk_cell BO.out 6
        simp only [List.getElem?_toArray, List.getElem?_cons_zero, List.getElem?_cons_succ] at z0 z1 z2 z3 z4 z5 z6
        have x0 := blk_cell BR.out 0
        have x1 := blk_cell BR.out 1
        have x2 := blk_cell BR.out 2
        have x3 := blk_cell BR.out 3
        have x4 := blk_cell BR.out 4
        have x5 := blk_cell BR.out 5
        have x6 := blk_cell BR.out 6
        simp only [List.getElem?_toArray, List.getElem?_cons_zero, List.getElem?_cons_succ] at x0 x1 x2 x3 x4 x5 x6
        have f0 := blk_frozen BR.out 0
        have f1 := blk_frozen BR.out 1
        have f2 := blk_frozen BR.out 2
        have f3 := blk_frozen BR.out 3
        have f4_ := blk_frozen BR.out 4
        have f5 := blk_frozen BR.out 5
        have f6 := blk_frozen BR.out 6
        cases tt with
        | false =>
          rw [if_neg (show ¬ (false = true) by decide)] at HE
          go_wp2_with fail
          refine bodyPost_ret (results_ct rfl _ _ w.heap.size 28 #[.int .i64 0, .int .u64 0, .slice none 0 0, .int .i64 0, .slice none 0 0, .int .u64 0, .int .u64 0] (0, 0) _ rfl (by refine blk_put (cs := #[.int .i64 0, .int .u64 0, .slice none 0 0, .int .i64 0, .slice none 0 0, .int .u64 0, .int .u64 0]) ?_ 6 _ rfl; refine blk_put (cs := #[.int .i64 0, .int .u64 0, .slice none 0 0, .int .i64 0, .slice none 0 0, .int .u64 0, .int .u64 0]) ?_ 5 _ rfl; refine blk_put (cs := #[.int .i64 0, .int .u64 0, .slice none 0 0, .int .i64 0, .slice none 0 0, .int .u64 0, .int .u64 0]) ?_ 4 _ rfl; refine blk_put (cs := #[.int .i64 0, .int .u64 0, .slice none 0 0, .int .i64 0, .slice none 0 0, .int .u64 0, .int .u64 0]) ?_ 3 _ rfl; refine blk_put (cs := #[.int .i64 0, .int .u64 0, .slice none 0 0, .int .i64 0, .slice none 0 0, .int .u64 0, .int .u64 0]) ?_ 2 _ rfl; refine blk_put (cs := #[.int .i64 0, .int .u64 0, .slice none 0 0, .int .i64 0, .slice none 0 0, .int .u64 0, .int .u64 0]) ?_ 1 _ rfl; refine blk_put (cs := #[.int .i64 0, .int .u64 0, .slice none 0 0, .int .i64 0, .slice none 0 0, .int .u64 0, .int .u64 0]) ?_ 0 _ rfl; exact BR.out) Try.underlying28 rfl (by kernel_rfl)) rfl ?_
          rw [HE.out]
          exact ⟨none, 0, none, 0, rfl, ⟨BK.nil _ _ _ _, BK.nil _ _ _ _, by intro k hk; simp [OB, Value.ownBlock] at hk⟩, by with_reducible repeat (first | exact HB.out | refine below_set ?_ (Nat.le_refl _) | refine below_alloc ?_ _)⟩
        | true =>
          rw [if_pos rfl] at HE
          go_wp2_with fail
          refine bodyPost_ret (results_ct rfl _ _ w.heap.size 28 #[.int .i64 k1, .int .u64 s2, .slice A2 t3.length c2, .int .i64 f4, .slice A4 t5.length c4, .int .u64 0, .int .u64 0] (0, 0) _ rfl (by refine blk_put (cs := #[.int .i64 k1, .int .u64 s2, .slice A2 t3.length c2, .int .i64 f4, .slice A4 t5.length c4, .int .u64 0, .int .u64 0]) ?_ 6 _ rfl; refine blk_put (cs := #[.int .i64 k1, .int .u64 s2, .slice A2 t3.length c2, .int .i64 f4, .slice A4 t5.length c4, .int .u64 0, .int .u64 0]) ?_ 5 _ rfl; refine blk_put (cs := #[.int .i64 k1, .int .u64 s2, .slice A2 t3.length c2, .int .i64 f4, .slice none 0 0, .int .u64 0, .int .u64 0]) ?_ 4 _ rfl; refine blk_put (cs := #[.int .i64 k1, .int .u64 s2, .slice A2 t3.length c2, .int .i64 0, .slice none 0 0, .int .u64 0, .int .u64 0]) ?_ 3 _ rfl; refine blk_put (cs := #[.int .i64 k1, .int .u64 s2, .slice none 0 0, .int .i64 0, .slice none 0 0, .int .u64 0, .int .u64 0]) ?_ 2 _ rfl; refine blk_put (cs := #[.int .i64 k1, .int .u64 0, .slice none 0 0, .int .i64 0, .slice none 0 0, .int .u64 0, .int .u64 0]) ?_ 1 _ rfl; refine blk_put (cs := #[.int .i64 0, .int .u64 0, .slice none 0 0, .int .i64 0, .slice none 0 0, .int .u64 0, .int .u64 0]) ?_ 0 _ rfl; exact BR.out) Try.underlying28 rfl (by kernel_rfl)) rfl ?_
          rw [HE.out]
          have g3 := G3.out
          have g4 := G4.out
          have s3 := SZ3.out
          have s4 := S4.out
          have s5 := S5.out
          have s6 := S6.out
          have s7 := S7.out
          have s8 := S8.out
          have s9 := S9.out
          clear z0 z1 z2 z3 z4 z5 z6 x0 x1 x2 x3 x4 x5 x6 f0 f1 f2 f3 f5 f6 f4_ hd1
          exact ⟨A2, c2, A4, c4, rfl, ⟨BK.widen (BK.kept (S := fun k => k = w.heap.size) D3.out (by with_reducible repeat (first | exact Kept.refl _ _ | refine Kept.trans_ ?_ (kept_set _ _ _ _))) (by intro k h1 h2 h3; omega)) (by omega) (Nat.le_trans (by omega) (Kept.size_ (w := W9) (S := fun k => k = w.heap.size) (by with_reducible repeat (first | exact Kept.refl _ _ | refine Kept.trans_ ?_ (kept_set _ _ _ _))))), BK.widen (BK.kept (S := fun k => k = w.heap.size) D5.out (by with_reducible repeat (first | exact Kept.refl _ _ | refine Kept.trans_ ?_ (kept_set _ _ _ _))) (by intro k h1 h2 h3; omega)) (by omega) (Nat.le_trans (by omega) (Kept.size_ (w := W9) (S := fun k => k = w.heap.size) (by with_reducible repeat (first | exact Kept.refl _ _ | refine Kept.trans_ ?_ (kept_set _ _ _ _))))), fun k h1 h2 => by have := (D3.out.b k h1).2; have := (D5.out.b k h2).1; omega⟩, by with_reducible repeat (first | exact HB.out | refine below_set ?_ (Nat.le_refl _))⟩
theorem spec_DecodeOp_ok (k : Nat) (w0 : World) (A : Option Addr) (c : Nat) (l : List Int) (w : World) (hB : Below w0.heap.size w0 w) (h : Kd.C (Kd.int .u8) w A l.length l) (hc : l.length ≤ c) (hl : l.length ≤ 2097152) (hr : ∀ x ∈ l, 0 ≤ x ∧ x < 256) (hk : 21 ≤ k) :
    Calls Try.prog 14 #[.slice A l.length c] w fun r w' => ∃ (A2 : Option Addr) (c2 : Nat) (A4 : Option Addr) (c4 : Nat), r = .returned (.tuple #[.agg #[.int .i64 (decO l).1, .int .u64 (decO l).2.1, .slice A2 (decO l).2.2.1.length c2, .int .i64 (decO l).2.2.2.1, .slice A4 (decO l).2.2.2.2.1.length c4, .int .u64 0, .int .u64 0], .int .i64 (decO l).2.2.2.2.2]) ∧ OPK w0 w' w.heap.size w'.heap.size A2 c2 (decO l).2.2.1 A4 c4 (decO l).2.2.2.2.1 ∧ Below w.heap.size w w' := by
  refine (spec_DecodeOp_calls k A c l w h hc hl hr hk).mono ?_
  rintro r w' ⟨A2, c2, A4, c4, rfl, hd, hb⟩
  exact ⟨A2, c2, A4, c4, rfl, hd.rebase hB.size, hb⟩
end Go.Proofs.Ytbgbocdohadhoaa.Print
