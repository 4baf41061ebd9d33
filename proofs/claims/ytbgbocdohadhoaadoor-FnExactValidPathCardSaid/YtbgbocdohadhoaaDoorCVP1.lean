/- Texts of this session, joined by its own program. -/
import Derived.Test.YtbgbocdohadhoaaDoorCVP0
import Derived.Shelf.GgClosure.Gives
import Derived.Test.YtbgbocdohadhoaaDoorProg
import Derived.Ground.SlbSplitProg
import Derived.Ground.SlgfProg
import Derived.Shelf.SlGeneric
import Derived.Shelf.SlLaysP
import Derived.Shelf.SlLaysH
import Derived.Shelf.SlBridgeP
import Derived.Shelf.Bytes.SlIndexAt
import Derived.Shelf.Bytes.SlCountOne
import Derived.Shelf.Bytes.SlCountWhole
import Derived.Lib.SlSplitV
import Derived.Lib.SlBytesConst
import Derived.Deep.OwnRows
import Derived.Deep.LoopGhost
import Derived.Shelf.SlicesE.IndexFunc
import Derived.Test.YtbgbocdohadhoaaDoorCards
import Derived.Test.YtbgbocdohadhoaaDoorTie
import Derived.WalkKit
import Derived.Below
import Derived.LaidMore
import Derived.Lay
import Derived.SevenTiedAt
import Derived.Stop.Joined
namespace Go.Proofs.YtbgbocdohadhoaaDoor.Print
open Go.RowKit Go.Proofs.YtbgbocdohadhoaaDoorW.PrintWords Go.Proofs.YtbgbocdohadhoaaDoorW.PrintLast Go.Proofs.YtbgbocdohadhoaaDoorW.PrintMore
attribute [local go_sem] max2_int min2_int max_two min_two max_three min_three max_four min_four
set_option linter.unusedVariables false
set_option linter.unusedSimpArgs false
def laws_eqByteS.l0 : Nat → List Int → List Int → Int → Option (Bool)
  | 0, _, _, _ => none
  | k + 1, x0, x1, x5 => if x5 < (x0.length : Int) then (if 0 ≤ x5 then (if x5 < (x1.length : Int) then (if (rd x0 x5) = (rd x1 x5) then (laws_eqByteS.l0 k x0 x1 (wrap64 (x5 + 1))) else (some false)) else (none)) else (none)) else (some true)
def laws_eqByteS.f (k : Nat) (l0 : List Int) (l1 : List Int) : Option (Bool) := if (l0.length : Int) = (l1.length : Int) then (laws_eqByteS.l0 k l0 l1 0) else (some false)
set_option maxHeartbeats 8000000 in
set_option maxRecDepth 100000 in
theorem laws_eqByteS.calls (k : Nat) (A0 : Option Addr) (c0 : Nat) (l0 : List Int) (A1 : Option Addr) (c1 : Nat) (l1 : List Int) (r : Bool) (w : World) (hr0 : Kd.C (Kd.int .u8) w A0 l0.length l0) (hc0 : l0.length ≤ c0) (hr1 : Kd.C (Kd.int .u8) w A1 l1.length l1) (hc1 : l1.length ≤ c1) (h : laws_eqByteS.f k l0 l1 = some r) :
    Calls Tryd.prog 12 #[.slice A0 l0.length c0, .slice A1 l1.length c1] w fun e w' => e = .returned (.bool r) ∧ Drawn0 w w' := by
  have HR0 := Aside0.mk hr0
  have HC0 := Aside0.mk hc0
  clear hr0 hc0
  have HR1 := Aside0.mk hr1
  have HC1 := Aside0.mk hc1
  clear hr1 hc1
  have H : (if (l0.length : Int) = (l1.length : Int) then (laws_eqByteS.l0 k l0 l1 0) else (some false)) = some r := h
  clear h
  by_cases c3 : (l0.length : Int) = (l1.length : Int)
  · rw [if_pos c3] at H
    have c3b0 : ((l0.length : Int) == (l1.length : Int)) = true := beq_iff_eq.mpr c3
    have c3b1 : ((l0.length : Int) != (l1.length : Int)) = false := bne_eq_false_iff_eq.mpr c3
    have c3b2 : (l0.length == l1.length) = true := by first | simpa using c3 | (simp at c3 ⊢; omega)
    clear c3
    have H' := Aside0.mk H
    clear H
    go_enter Tryd.func12, Tryd.ntmps12
    go_wp2
    repeat (go_quiet (fail); try go_wp2)
    go_loopg [5] k (fun kq v5 w' => ∃ (x5_1 : Int), v5 = .int .i64 x5_1 ∧ Aside0 (laws_eqByteS.l0 kq l0 l1 x5_1 = some r) ∧ Aside0 (kq ≤ k) ∧ Drawn0 w w')
    case atStart => exact ⟨(0), (by first | rfl | (simp; done) | (simp [*]; done)), H', ⟨Nat.le_refl _⟩, by repeat (first | exact Drawn0.refl _ | apply Drawn0.step)⟩
    case round =>
      clear H'
      try clear c1
      try clear p2
      try clear c3
      try clear c3b0
      try clear c3b1
      try clear c3b2
      obtain ⟨x5_1, rfl, HA, HK1, ⟨m1, rfl⟩⟩ := hrel
      cases gk with
      | zero => exact absurd HA.out (by simp [laws_eqByteS.l0])
      | succ k1 =>
        have H := HA.out
        clear HA
        simp only [laws_eqByteS.l0] at H
        by_cases c4 : x5_1 < (l0.length : Int)
        · rw [if_pos c4] at H
          have c4b0 : decide (x5_1 < (l0.length : Int)) = true := decide_eq_true c4
          clear c4
          by_cases c5 : 0 ≤ x5_1
          · rw [if_pos c5] at H
            have c5b0 : decide (0 ≤ x5_1) = true := decide_eq_true c5
            clear c5
            by_cases c6 : x5_1 < (l1.length : Int)
            · rw [if_pos c6] at H
              have c6b0 : decide (x5_1 < (l1.length : Int)) = true := decide_eq_true c6
              clear c6
              by_cases c7 : (rd l0 x5_1) = (rd l1 x5_1)
              · rw [if_pos c7] at H
                have c7b0 : ((rd l0 x5_1) == (rd l1 x5_1)) = true := beq_iff_eq.mpr c7
                have c7b1 : ((rd l0 x5_1) != (rd l1 x5_1)) = false := bne_eq_false_iff_eq.mpr c7
                clear c7
                have H' := Aside0.mk H
                clear H
                have p121 : 0 ≤ (x5_1 : Int) := of_decide_eq_true (by first | (with_reducible assumption) | assumption)
                have q121 : x5_1 < (l0.length : Int) := of_decide_eq_true (by first | (with_reducible assumption) | assumption)
                obtain ⟨ad121, e121, hx121_0⟩ := Kd.at_int HR0.out x5_1 p121 q121
                cases e121
                replace p121 := eq_true p121
                replace q121 := eq_true q121
                have p122 : 0 ≤ (x5_1 : Int) := of_decide_eq_true (by first | (with_reducible assumption) | assumption)
                have q122 : x5_1 < (l1.length : Int) := of_decide_eq_true (by first | (with_reducible assumption) | assumption)
                obtain ⟨ad122, e122, hx122_0⟩ := Kd.at_int HR1.out x5_1 p122 q122
                cases e122
                replace p122 := eq_true p122
                replace q122 := eq_true q122
                go_wp2
                repeat (go_quiet (fail); try go_wp2)
                go_roundg k1
                case measure => have := HK1.out; omega
                case rel => exact ⟨(wrap64 (x5_1 + 1)), (by first | rfl | (simp; done) | (simp [*]; done)), H', ⟨by have := HK1.out; omega⟩, by repeat (first | exact Drawn0.refl _ | apply Drawn0.step)⟩
              · rw [if_neg c7] at H
                have c7b0 : ((rd l0 x5_1) == (rd l1 x5_1)) = false := beq_eq_false_iff_ne.mpr c7
                have c7b1 : ((rd l0 x5_1) != (rd l1 x5_1)) = true := bne_iff_ne.mpr c7
                obtain rfl := Option.some.inj H
                have p121 : 0 ≤ (x5_1 : Int) := of_decide_eq_true (by first | (with_reducible assumption) | assumption)
                have q121 : x5_1 < (l0.length : Int) := of_decide_eq_true (by first | (with_reducible assumption) | assumption)
                obtain ⟨ad121, e121, hx121_0⟩ := Kd.at_int HR0.out x5_1 p121 q121
                cases e121
                replace p121 := eq_true p121
                replace q121 := eq_true q121
                have p122 : 0 ≤ (x5_1 : Int) := of_decide_eq_true (by first | (with_reducible assumption) | assumption)
                have q122 : x5_1 < (l1.length : Int) := of_decide_eq_true (by first | (with_reducible assumption) | assumption)
                obtain ⟨ad122, e122, hx122_0⟩ := Kd.at_int HR1.out x5_1 p122 q122
                cases e122
                replace p122 := eq_true p122
                replace q122 := eq_true q122
                go_wp2
                repeat (go_quiet (fail); try go_wp2)
                go_ret
                exact ⟨by first | rfl | (simp; done) | (simp [*]; done), by repeat (first | exact Drawn0.refl _ | apply Drawn0.step)⟩
            · rw [if_neg c6] at H
              exact absurd H (by simp)
          · rw [if_neg c5] at H
            exact absurd H (by simp)
        · rw [if_neg c4] at H
          have c4b0 : decide (x5_1 < (l0.length : Int)) = false := decide_eq_false c4
          clear c4
          obtain rfl := Option.some.inj H
          go_wp2
          repeat (go_quiet (fail); try go_wp2)
          go_ret
          exact ⟨by first | rfl | (simp; done) | (simp [*]; done), by repeat (first | exact Drawn0.refl _ | apply Drawn0.step)⟩
  · rw [if_neg c3] at H
    have c3b0 : ((l0.length : Int) == (l1.length : Int)) = false := beq_eq_false_iff_ne.mpr c3
    have c3b1 : ((l0.length : Int) != (l1.length : Int)) = true := bne_iff_ne.mpr c3
    have c3b2 : (l0.length == l1.length) = false := by first | simpa using c3 | (simp at c3 ⊢; omega)
    obtain rfl := Option.some.inj H
    go_enter Tryd.func12, Tryd.ntmps12
    go_wp2
    repeat (go_quiet (fail); try go_wp2)
    go_ret
    exact ⟨by first | rfl | (simp; done) | (simp [*]; done), by repeat (first | exact Drawn0.refl _ | apply Drawn0.step)⟩
end Go.Proofs.YtbgbocdohadhoaaDoor.Print
namespace Go.Proofs.YtbgbocdohadhoaaDoor.Print
open Go.RowKit Go.Proofs.YtbgbocdohadhoaaDoorW.PrintWords Go.Proofs.YtbgbocdohadhoaaDoorW.PrintLast Go.Proofs.YtbgbocdohadhoaaDoorW.PrintMore
attribute [local go_sem] max2_int min2_int max_two min_two max_three min_three max_four min_four
set_option linter.unusedVariables false
set_option linter.unusedSimpArgs false
end Go.Proofs.YtbgbocdohadhoaaDoor.Print
namespace Go.Proofs.YtbgbocdohadhoaaDoor.Print
open Go.RowKit Go.Proofs.YtbgbocdohadhoaaDoorW.PrintWords Go.Proofs.YtbgbocdohadhoaaDoorW.PrintLast Go.Proofs.YtbgbocdohadhoaaDoorW.PrintMore
attribute [local go_sem] max2_int min2_int max_two min_two max_three min_three max_four min_four
set_option linter.unusedVariables false
set_option linter.unusedSimpArgs false
end Go.Proofs.YtbgbocdohadhoaaDoor.Print
namespace Go.Proofs.YtbgbocdohadhoaaDoor.Print
open Go.RowKit Go.Proofs.YtbgbocdohadhoaaDoorW.PrintWords Go.Proofs.YtbgbocdohadhoaaDoorW.PrintLast Go.Proofs.YtbgbocdohadhoaaDoorW.PrintMore
attribute [local go_sem] max2_int min2_int max_two min_two max_three min_three max_four min_four
set_option linter.unusedVariables false
set_option linter.unusedSimpArgs false
end Go.Proofs.YtbgbocdohadhoaaDoor.Print
namespace Go.Proofs.YtbgbocdohadhoaaDoor.Print
open Go.RowKit Go.Proofs.YtbgbocdohadhoaaDoorW.PrintWords Go.Proofs.YtbgbocdohadhoaaDoorW.PrintLast Go.Proofs.YtbgbocdohadhoaaDoorW.PrintMore
theorem wrap_up (i : Nat) (h : i ≤ 140737488355328) : wrap64 ((i : Int) + 1) = ((i + 1 : Nat) : Int) := by
  unfold wrap64; omega
theorem rd_nat (l : List Int) (i : Nat) : rd l (i : Int) = l.getD i 0 := by
  unfold rd; rw [Int.toNat_natCast]
theorem getD_at (l : List Int) (i : Nat) (h : i < l.length) : l.getD i 0 = l[i] := by
  rw [List.getD_eq_getElem?_getD, List.getElem?_eq_getElem h]; rfl
theorem toByteS_loop (l : List Int) (hl : l.length ≤ 140737488351232) (d : Nat) : ∀ (k i : Nat) (x : List Int), x.length = l.length → i + d = l.length → d < k →
    (∀ j, j < i → x[j]? = l[j]?) → laws_toByteS.l0 k l x (i : Int) = some l := by
  induction d with
  | zero =>
    intro k i x hx hi hk hj
    obtain ⟨k, rfl⟩ : ∃ m, k = m + 1 := ⟨k - 1, by omega⟩
    simp only [laws_toByteS.l0]
    rw [if_neg (by omega)]
    congr 1
    apply List.ext_getElem?
    intro j
    rcases Nat.lt_or_ge j i with h | h
    · exact hj j h
    · rw [List.getElem?_eq_none (by omega), List.getElem?_eq_none (by omega)]
  | succ d ih =>
    intro k i x hx hi hk hj
    obtain ⟨k, rfl⟩ : ∃ m, k = m + 1 := ⟨k - 1, by omega⟩
    simp only [laws_toByteS.l0]
    rw [if_pos (by omega), if_pos (by omega), if_pos (by omega), wrap_up i (by omega)]
    refine ih k (i + 1) _ (by rw [List.length_set]; exact hx) (by omega) (by omega) ?_
    intro j h
    rw [Int.toNat_natCast, List.getElem?_set]
    by_cases e : i = j
    · subst e
      rw [if_pos rfl, if_pos (by omega), rd_nat, List.getD_eq_getElem?_getD, List.getElem?_eq_getElem (by omega)]
      rfl
    · rw [if_neg e]
      exact hj j (by omega)
theorem toByteS_f (l : List Int) (hl : l.length ≤ 140737488351232) (k : Nat) (hk : l.length < k) : laws_toByteS.f k l = some l := by
  unfold laws_toByteS.f
  rw [if_pos (by omega), if_pos (by omega)]
  exact toByteS_loop l hl l.length k 0 _ (by rw [List.length_replicate]; omega) (by omega) hk (fun j h => absurd h (by omega))
theorem eqByteS_loop (l : List Int) (hl : l.length ≤ 140737488351232) (d : Nat) : ∀ (k i : Nat), i + d = l.length → d < k → laws_eqByteS.l0 k l l (i : Int) = some true := by
  induction d with
  | zero =>
    intro k i hi hk
    obtain ⟨k, rfl⟩ : ∃ m, k = m + 1 := ⟨k - 1, by omega⟩
    simp only [laws_eqByteS.l0]
    rw [if_neg (by omega)]
  | succ d ih =>
    intro k i hi hk
    obtain ⟨k, rfl⟩ : ∃ m, k = m + 1 := ⟨k - 1, by omega⟩
    simp only [laws_eqByteS.l0]
    rw [if_pos (by omega), if_pos (by omega), if_pos (by omega), if_pos trivial, wrap_up i (by omega)]
    exact ih k (i + 1) (by omega) (by omega)
theorem eqByteS_self (l : List Int) (hl : l.length ≤ 140737488351232) (k : Nat) (hk : l.length < k) : laws_eqByteS.f k l l = some true := by
  unfold laws_eqByteS.f
  rw [if_pos rfl]
  exact eqByteS_loop l hl l.length k 0 (by omega) hk
end Go.Proofs.YtbgbocdohadhoaaDoor.Print
namespace Go.Proofs.YtbgbocdohadhoaaDoor.Print
open Go Go.RowKit Go.Proofs.YtbgbocdohadhoaaDoorW.PrintWords Go.Proofs.YtbgbocdohadhoaaDoorW.PrintLast Go.Proofs.YtbgbocdohadhoaaDoorW.PrintMore
set_option linter.unusedVariables false
set_option linter.unusedSimpArgs false
theorem nameByte_f (c : Int) : spec_l3nameByte.f c = some (charB c) := by
  unfold spec_l3nameByte.f charB
  by_cases h1 : 97 ≤ c
  · by_cases h2 : c ≤ 122
    · rw [if_pos h1, if_pos h2]; simp [h1, h2]
    · by_cases h5 : c = 45
      · omega
      · rw [if_pos h1, if_neg h2, if_pos (by omega), if_neg (by omega), if_neg h5]
        have h3 : 48 ≤ c := by omega
        have h4 : ¬ c ≤ 57 := by omega
        simp [h1, h2, h3, h4, h5]
  · rw [if_neg h1]
    by_cases h3 : 48 ≤ c
    · by_cases h4 : c ≤ 57
      · rw [if_pos h3, if_pos h4]; simp [h1, h3, h4]
      · rw [if_pos h3, if_neg h4, if_neg (by omega)]
        have h5 : ¬ c = 45 := by omega
        simp [h1, h3, h4, h5]
    · rw [if_neg h3]
      by_cases h5 : c = 45
      · rw [if_pos h5]; simp [h5]
      · rw [if_neg h5]; simp [h1, h3, h5]
def R0 (rest : List Int) (cnt : Nat) : Bool := match rest with
  | [] => decide (1 ≤ cnt) && decide (cnt ≤ 8)
  | c :: r => c == 47 && decide (cnt + (pieces r).length ≤ 8) && (pieces r).all nameB
def R1 (rest : List Int) (m cnt : Nat) : Bool := match pieces rest with
  | [] => false
  | p :: ps => p.all charB && decide (1 ≤ m + p.length) && decide (m + p.length ≤ 16) && decide (cnt + 1 + ps.length ≤ 8) && ps.all nameB
theorem R1_open (r : List Int) (cnt : Nat) : R1 r 0 cnt = (decide (cnt + (pieces r).length ≤ 8) && (pieces r).all nameB) := by
  unfold R1
  cases hp : pieces r with
  | nil => exact absurd hp (pieces_ne r)
  | cons p ps =>
    simp only [List.all_cons, List.length_cons, nameB, Nat.zero_add]
    have e : (cnt + 1 + ps.length ≤ 8) = (cnt + (ps.length + 1) ≤ 8) := by rw [show cnt + 1 + ps.length = cnt + (ps.length + 1) by omega]
    simp only [e]
    cases p.all charB <;> cases decide (1 ≤ p.length) <;> cases decide (p.length ≤ 16) <;> cases decide (cnt + (ps.length + 1) ≤ 8) <;> simp [Bool.and_comm]
theorem names_loop (b : List Int) (hb : b.length ≤ 2097152) : ∀ (d : Nat),
    (∀ (k i : Nat) (out : List (List Int)), i + d = b.length → out.length ≤ i → 3 * d + 1 ≤ k → ∃ o, spec_l3names.l0 k b out (i : Int) = some (o, R0 (b.drop i) out.length)) ∧
    (∀ (k i : Nat) (out : List (List Int)) (nm : List Int), i + d = b.length → out.length + 1 ≤ i → nm.length ≤ i → 3 * d + 3 ≤ k → ∃ o, spec_l3names.l1 k b out (i : Int) nm = some (o, R1 (b.drop i) nm.length out.length)) := by
  intro d
  induction d with
  | zero =>
    have z0 : ∀ (k i : Nat) (out : List (List Int)), i + 0 = b.length → out.length ≤ i → 3 * 0 + 1 ≤ k → ∃ o, spec_l3names.l0 k b out (i : Int) = some (o, R0 (b.drop i) out.length) := by
      intro k i out hi ho hk
      obtain ⟨k, rfl⟩ : ∃ m, k = m + 1 := ⟨k - 1, by omega⟩
      rw [spec_l3names.l0, if_neg (by omega), List.drop_eq_nil_of_le (by omega)]
      unfold R0
      by_cases h1 : 1 ≤ out.length
      · rw [if_pos (by omega)]
        refine ⟨out, ?_⟩
        rw [decide_eq_true h1, Bool.true_and]
        congr 3
        simp only [eq_iff_iff]
        omega
      · rw [if_neg (by omega)]
        exact ⟨out, by rw [decide_eq_false h1]; rfl⟩
    refine ⟨z0, ?_⟩
    intro k i out nm hi ho hn hk
    obtain ⟨k, rfl⟩ : ∃ m, k = m + 2 := ⟨k - 2, by omega⟩
    rw [spec_l3names.l1, if_neg (by omega), spec_l3names.j2, if_neg (by decide)]
    have e : b.drop i = [] := List.drop_eq_nil_of_le (by omega)
    by_cases h1 : (nm.length : Int) < 1
    · rw [if_pos h1]
      refine ⟨[], ?_⟩
      rw [e, R1, pieces]
      simp only [List.length_nil, Nat.add_zero]
      rw [decide_eq_false (show ¬ 1 ≤ nm.length by omega)]
      simp
    · rw [if_neg h1]
      by_cases h2 : (nm.length : Int) > 16
      · rw [if_pos h2]
        refine ⟨[], ?_⟩
        rw [e, R1, pieces]
        simp only [List.length_nil, Nat.add_zero]
        rw [decide_eq_false (show ¬ nm.length ≤ 16 by omega)]
        simp
      · rw [if_neg h2, if_pos (by omega)]
        obtain ⟨o, ho'⟩ := z0 k i (out ++ [nm]) hi (by simp; omega) (by omega)
        refine ⟨o, ?_⟩
        rw [ho', e, R0, R1, pieces]
        simp only [List.length_nil, Nat.add_zero, List.length_append, List.length_singleton, List.all_nil, Bool.true_and, Bool.and_true]
        rw [decide_eq_true (show 1 ≤ nm.length by omega), decide_eq_true (show nm.length ≤ 16 by omega), decide_eq_true (show 1 ≤ out.length + 1 by omega)]
        simp
  | succ d ih =>
    obtain ⟨ih0, ih1⟩ := ih
    have z0 : ∀ (k i : Nat) (out : List (List Int)), i + (d + 1) = b.length → out.length ≤ i → 3 * (d + 1) + 1 ≤ k → ∃ o, spec_l3names.l0 k b out (i : Int) = some (o, R0 (b.drop i) out.length) := by
      intro k i out hi ho hk
      obtain ⟨k, rfl⟩ : ∃ m, k = m + 1 := ⟨k - 1, by omega⟩
      have hlt : i < b.length := by omega
      rw [spec_l3names.l0, if_pos (by omega), if_pos (by omega), rd_nat, getD_at b i hlt, List.drop_eq_getElem_cons hlt]
      by_cases hc : b[i] = 47
      · rw [if_pos hc, wrap_up i (by omega)]
        obtain ⟨o, ho'⟩ := ih1 k (i + 1) out [] (by omega) (by omega) (by simp) (by omega)
        refine ⟨o, ?_⟩
        rw [ho', R0, List.length_nil, R1_open, hc]
        simp
      · rw [if_neg hc]
        exact ⟨[], by rw [R0]; simp [hc]⟩
    refine ⟨z0, ?_⟩
    intro k i out nm hi ho hn hk
    obtain ⟨k, rfl⟩ : ∃ m, k = m + 2 := ⟨k - 2, by omega⟩
    have hlt : i < b.length := by omega
    rw [spec_l3names.l1, if_pos (by omega), if_pos (by omega), spec_l3names.j2, rd_nat, getD_at b i hlt]
    have ed := List.drop_eq_getElem_cons hlt
    by_cases hc : b[i] = 47
    · rw [if_neg (by simp [hc])]
      have ep : pieces (b.drop i) = [] :: pieces (b.drop (i + 1)) := by rw [ed, hc, pieces_slash]
      by_cases h1 : (nm.length : Int) < 1
      · rw [if_pos h1]
        refine ⟨[], ?_⟩
        rw [R1, ep]
        simp only [List.length_nil, Nat.add_zero]
        rw [decide_eq_false (show ¬ 1 ≤ nm.length by omega)]
        simp
      · rw [if_neg h1]
        by_cases h2 : (nm.length : Int) > 16
        · rw [if_pos h2]
          refine ⟨[], ?_⟩
          rw [R1, ep]
          simp only [List.length_nil, Nat.add_zero]
          rw [decide_eq_false (show ¬ nm.length ≤ 16 by omega)]
          simp
        · rw [if_neg h2, if_pos (by omega)]
          obtain ⟨o, ho'⟩ := z0 k i (out ++ [nm]) hi (by simp; omega) (by omega)
          refine ⟨o, ?_⟩
          rw [ho', R1, ep]
          rw [ed, R0, hc]
          simp only [List.length_nil, Nat.add_zero, List.length_append, List.length_singleton, List.all_nil, Bool.true_and, beq_self_eq_true]
          rw [decide_eq_true (show 1 ≤ nm.length by omega), decide_eq_true (show nm.length ≤ 16 by omega)]
          simp
    · rw [if_pos (by simp [hc]), if_pos (by omega), if_pos (by omega), nameByte_f, Option.bind_some]
      obtain ⟨p, ps, e1, e2⟩ := pieces_char b[i] (b.drop (i + 1)) hc
      rw [← ed] at e2
      cases hch : charB b[i] with
      | false =>
        rw [if_neg (by decide)]
        refine ⟨[], ?_⟩
        rw [R1, e2]
        simp [hch]
      | true =>
        rw [if_pos rfl, if_pos (by omega), wrap_up i (by omega)]
        obtain ⟨o, ho'⟩ := ih1 k (i + 1) out (nm ++ [b[i]]) (by omega) (by omega) (by simp; omega) (by omega)
        refine ⟨o, ?_⟩
        rw [ho', R1, R1, e1, e2]
        simp only [List.length_append, List.length_singleton, List.length_cons, List.all_cons, hch, Bool.true_and]
        rw [show nm.length + (([] : List Int).length + 1) + p.length = nm.length + (p.length + 1) by simp only [List.length_nil]; omega]
theorem validPath_f (b : List Int) (hb : b.length ≤ 2097152) (k : Nat) (hk : 3 * b.length + 1 ≤ k) : spec_ValidPath.f k b = some (pathB b) := by
  unfold spec_ValidPath.f spec_l3names.f
  obtain ⟨o, ho⟩ := (names_loop b hb b.length).1 k 0 [] (by omega) (by simp) (by omega)
  rw [show ((0 : Nat) : Int) = 0 from rfl] at ho
  rw [ho, Option.bind_some]
  cases b with
  | nil => rfl
  | cons c r =>
    simp only [List.drop_zero, R0, pathB, List.length_nil, Nat.zero_add]
end Go.Proofs.YtbgbocdohadhoaaDoor.Print
namespace Go.Proofs.YtbgbocdohadhoaaDoor.Print
open Go Go.RowKit Go.Proofs.YtbgbocdohadhoaaDoorW.PrintWords Go.Proofs.YtbgbocdohadhoaaDoorW.PrintLast Go.Proofs.YtbgbocdohadhoaaDoorW.PrintMore
set_option linter.unusedVariables false
set_option linter.unusedSimpArgs false
theorem char_cases (x : Int) : (charB x = true ∧ (decide (97 ≤ x) = true ∧ decide (x ≤ 122) = true)) ∨
    (charB x = true ∧ decide (97 ≤ x) = false ∧ decide (48 ≤ x) = true ∧ decide (x ≤ 57) = true) ∨
    (charB x = true ∧ x = 45) ∨ (charB x = true ∧ x = 95) ∨
    (charB x = false ∧ decide (97 ≤ x) = false ∧ decide (48 ≤ x) = false ∧ decide (x = 45) = false ∧ decide (x = 95) = false ∧ (x == 45) = false ∧ (x == 95) = false) ∨
    (charB x = false ∧ decide (97 ≤ x) = false ∧ decide (48 ≤ x) = true ∧ decide (x ≤ 57) = false ∧ decide (x = 45) = false ∧ decide (x = 95) = false ∧ (x == 45) = false ∧ (x == 95) = false) ∨
    (charB x = false ∧ decide (97 ≤ x) = true ∧ decide (x ≤ 122) = false ∧ decide (48 ≤ x) = true ∧ decide (x ≤ 57) = false ∧ decide (x = 45) = false ∧ decide (x = 95) = false ∧ (x == 45) = false ∧ (x == 95) = false) := by
  unfold charB
  by_cases h1 : 97 ≤ x
  · by_cases h2 : x ≤ 122
    · simp [h1, h2]
    · have h3 : 48 ≤ x := by omega
      have h4 : ¬ x ≤ 57 := by omega
      have h5 : ¬ x = 45 := by omega
      have h6 : ¬ x = 95 := by omega
      simp [h1, h2, h3, h4, h5, h6]
  · by_cases h3 : 48 ≤ x
    · by_cases h4 : x ≤ 57
      · simp [h1, h3, h4]
      · by_cases h6 : x = 95
        · simp [h6]
        · have h5 : ¬ x = 45 := by omega
          simp [h1, h3, h4, h5, h6]
    · by_cases h5 : x = 45
      · simp [h5]
      · have h6 : ¬ x = 95 := by omega
        simp [h1, h3, h5, h6]
theorem nameB_yes {l : List Int} (h1 : 1 ≤ l.length) (h2 : l.length ≤ 16) (h : ∀ j, j < l.length → charB (rd l (j : Nat)) = true) : nameB l = true := by
  unfold nameB
  simp only [Bool.and_eq_true, decide_eq_true_eq, List.all_eq_true]
  refine ⟨⟨h1, h2⟩, fun x hx => ?_⟩
  obtain ⟨j, hj, rfl⟩ := List.getElem_of_mem hx
  have := h j hj
  unfold rd at this
  simpa [List.getD_eq_getElem?_getD, hj] using this
theorem nameB_no {l : List Int} {j : Nat} (hj : j < l.length) (h : charB (rd l (j : Nat)) = false) : nameB l = false := by
  unfold nameB
  have : l.all charB = false := by
    rw [List.all_eq_false]
    refine ⟨l[j], List.getElem_mem hj, ?_⟩
    unfold rd at h
    simp [List.getD_eq_getElem?_getD, hj] at h
    simp [h]
  simp [this]
set_option maxHeartbeats 2000000 in
set_option maxRecDepth 100000 in
theorem nameOk_calls (A : Option Addr) (c : Nat) (l : List Int) (w : World) (h : Kd.C (Kd.int .u8) w A l.length l) (hc : l.length ≤ c) :
    Calls Tryd.prog 40 #[.slice A l.length c] w fun e w' => e = .returned (.bool (nameB l)) ∧ w' = w := by
  by_cases h1 : l.length < 1
  · have e : nameB l = false := by unfold nameB; rw [decide_eq_false (by omega)]; rfl
    have d1 : decide ((l.length : Int) < 1) = true := decide_eq_true (by omega)
    rw [e]
    clear e
    go_enter Tryd.func40, Tryd.ntmps40
    go_wp2
    go_ret
    exact ⟨rfl, rfl⟩
  by_cases h2 : 16 < l.length
  · have e : nameB l = false := by unfold nameB; rw [decide_eq_false (show ¬ l.length ≤ 16 by omega)]; simp
    have d1 : decide ((l.length : Int) < 1) = false := decide_eq_false (by omega)
    have d2 : decide ((16 : Int) < (l.length : Int)) = true := decide_eq_true (by omega)
    rw [e]
    clear e
    go_enter Tryd.func40, Tryd.ntmps40
    go_wp2
    go_ret
    exact ⟨rfl, rfl⟩
  have d1 : decide ((l.length : Int) < 1) = false := decide_eq_false (by omega)
  have d2 : decide ((16 : Int) < (l.length : Int)) = false := decide_eq_false (by omega)
  have HR := Aside0.mk h
  have HL := Aside0.mk (show 1 ≤ l.length ∧ l.length ≤ 16 by omega)
  clear h h1 h2
  go_enter Tryd.func40, Tryd.ntmps40
  go_wp2
  clear d1 d2
  go_loop [15] (fun v15 => ∃ i : Nat, v15 = .int .i64 i ∧ Aside0 (i ≤ l.length ∧ ∀ j, j < i → charB (rd l (j : Nat)) = true)) (fun v15 => l.length - (intOf v15).toNat)
  case atStart => exact ⟨0, rfl, ⟨⟨Nat.zero_le _, fun j hj => absurd hj (Nat.not_lt_zero _)⟩⟩⟩
  case round =>
    obtain ⟨i, rfl, HI⟩ := hrel
    by_cases hlt : i < l.length
    · have d3 : decide ((i : Int) < (l.length : Int)) = true := decide_eq_true (by omega)
      obtain ⟨ad, rfl, hx⟩ := Kd.at_int HR.out (i : Int) (by omega) (by omega)
      rw [Int.toNat_natCast] at hx
      have HX := Aside0.mk (show rd l (i : Nat) = rd l (i : Nat) from rfl)
      obtain ⟨x, hxx⟩ : ∃ x, rd l (i : Nat) = x := ⟨_, rfl⟩
      rw [hxx] at hx
      have HXX := Aside0.mk hxx
      have hi1 : (0 : Int) ≤ i := by omega
      have hi2 : (i : Int) < (l.length : Int) := by omega
      have hlen : l.length ≤ 16 := HL.out.2
      clear hxx HX
      rcases char_cases x with ⟨hb, q1, q2⟩ | ⟨hb, q1, q2, q3⟩ | ⟨hb, rfl⟩ | ⟨hb, rfl⟩ | ⟨hb, q1, q2, q3, q4, q5, q6⟩ | ⟨hb, q1, q2, q3, q4, q5, q6, q7⟩ | ⟨hb, q1, q2, q3, q4, q5, q6, q7, q8⟩
      · have HB := Aside0.mk hb
        clear hb
        go_wp2
        go_round
        case rel => exact ⟨i + 1, by go_num, ⟨⟨by omega, fun j hj => by
          by_cases e : j = i
          · rw [e, HXX.out]; exact HB.out
          · exact HI.out.2 j (by omega)⟩⟩⟩
        case measure => simp [intOf]; omega
      · have HB := Aside0.mk hb
        clear hb
        go_wp2
        go_round
        case rel => exact ⟨i + 1, by go_num, ⟨⟨by omega, fun j hj => by
          by_cases e : j = i
          · rw [e, HXX.out]; exact HB.out
          · exact HI.out.2 j (by omega)⟩⟩⟩
        case measure => simp [intOf]; omega
      · have HB := Aside0.mk hb
        clear hb
        go_wp2
        go_round
        case rel => exact ⟨i + 1, by go_num, ⟨⟨by omega, fun j hj => by
          by_cases e : j = i
          · rw [e, HXX.out]; exact HB.out
          · exact HI.out.2 j (by omega)⟩⟩⟩
        case measure => simp [intOf]; omega
      · have HB := Aside0.mk hb
        clear hb
        go_wp2
        go_round
        case rel => exact ⟨i + 1, by go_num, ⟨⟨by omega, fun j hj => by
          by_cases e : j = i
          · rw [e, HXX.out]; exact HB.out
          · exact HI.out.2 j (by omega)⟩⟩⟩
        case measure => simp [intOf]; omega
      all_goals
        have HB := Aside0.mk hb
        clear hb
        go_wp2
        go_ret
        rw [nameB_no hlt (by rw [HXX.out]; exact HB.out)]
        exact ⟨rfl, rfl⟩
    · have d3 : decide ((i : Int) < (l.length : Int)) = false := decide_eq_false (by omega)
      obtain rfl : i = l.length := by have := HI.out.1; omega
      go_wp2
      go_ret
      rw [nameB_yes HL.out.1 HL.out.2 HI.out.2]
      exact ⟨rfl, rfl⟩
set_option maxHeartbeats 2000000 in
set_option maxRecDepth 100000 in
theorem nameNot_calls (A : Option Addr) (c : Nat) (l : List Int) (w : World) (h : Kd.C (Kd.int .u8) w A l.length l) (hc : l.length ≤ c) :
    Calls Tryd.prog 39 #[.slice A l.length c] w fun e w' => e = .returned (.bool (!nameB l)) ∧ w' = w := by
  go_enter Tryd.func39, Tryd.ntmps39
  go_wp2_with (go_at_call 40; refine (nameOk_calls A c l w h hc).mono ?_; rintro e w' ⟨rfl, rfl⟩)
  go_ret
  exact ⟨rfl, rfl⟩
end Go.Proofs.YtbgbocdohadhoaaDoor.Print
namespace Go.Proofs
open Go.Shelf
def Tryd.laysSplit_ren : Go.Shelf.Ren := ⟨fun | 7 => 37 | 11 => 87 | 14 => 119 | 15 => 120 | 16 => 121 | 17 => 139 | 19 => 140 | 20 => 141 | 21 => 142 | 22 => 72 | 23 => 143 | 24 => 144 | 25 => 145 | 26 => 165 | 29 => 149 | 30 => 166 | 31 => 167 | n => n, fun | 22 => 22 | 23 => 57 | 3 => 3 | 4 => 4 | 0 => 0 | 34 => 169 | 21 => 21 | 5 => 5 | 45 => 146 | 9 => 9 | 58 => 190 | 38 => 189 | 28 => 199 | 62 => 202 | 61 => 201 | n => n, fun | 2 => 0 | 3 => 1 | 4 => 2 | n => n⟩
theorem Tryd.laysSplit : Go.Proofs.SlLaysP.n7 Tryd.prog Tryd.laysSplit_ren := {
  mixed := by kernel_rfl
  f7 := Tryd.func37.trans (congrArg some (by kernel_rfl))
  f11 := Tryd.func87.trans (congrArg some (by kernel_rfl))
  f15 := Tryd.func120.trans (congrArg some (by kernel_rfl))
  f16 := Tryd.func121.trans (congrArg some (by kernel_rfl))
  f20 := Tryd.func141.trans (congrArg some (by kernel_rfl))
  f21 := Tryd.func142.trans (congrArg some (by kernel_rfl))
  f22 := Tryd.func72.trans (congrArg some (by kernel_rfl))
  f23 := Tryd.func143.trans (congrArg some (by kernel_rfl))
  f24 := Tryd.func144.trans (congrArg some (by kernel_rfl))
  f25 := Tryd.func145.trans (congrArg some (by kernel_rfl))
  f30 := Tryd.func166.trans (congrArg some (by kernel_rfl))
  f31 := Tryd.func167.trans (congrArg some (by kernel_rfl))
  t0 := Tryd.underlying0
  a0 := Tryd.isAgg0
  z0 := Tryd.sizeOf0
  v0 := Tryd.zeroValue0
  t3 := Tryd.underlying3
  a3 := Tryd.isAgg3
  z3 := Tryd.sizeOf3
  v3 := Tryd.zeroValue3
  t4 := Tryd.underlying4
  a4 := Tryd.isAgg4
  z4 := Tryd.sizeOf4
  v4 := Tryd.zeroValue4
  t5 := Tryd.underlying5
  a5 := Tryd.isAgg5
  z5 := Tryd.sizeOf5
  v5 := Tryd.zeroValue5
  t9 := Tryd.underlying9
  a9 := Tryd.isAgg9
  z9 := Tryd.sizeOf9
  v9 := Tryd.zeroValue9
  t22 := Tryd.underlying22
  a22 := Tryd.isAgg22
  z22 := Tryd.sizeOf22
  v22 := Tryd.zeroValue22
  t23 := Tryd.underlying57
  a23 := Tryd.isAgg57
  z23 := Tryd.sizeOf57
  v23 := Tryd.zeroValue57
  t38 := Tryd.underlying189
  a38 := Tryd.isAgg189
  z38 := Tryd.sizeOf189
  v38 := Tryd.zeroValue189
  t45 := Tryd.underlying146
  a45 := Tryd.isAgg146
  z45 := Tryd.sizeOf146
  v45 := Tryd.zeroValue146
  t58 := Tryd.underlying190
  a58 := Tryd.isAgg190
  z58 := Tryd.sizeOf190
  v58 := Tryd.zeroValue190
  g2 := by kernel_rfl
  i22 := by kernel_rfl }
def Tryd.laysCF_ren : Go.Shelf.Ren := ⟨fun | 8 => 38 | 6 => 88 | n => n, fun | 22 => 57 | 23 => 22 | 25 => 23 | 4 => 4 | 3 => 3 | 0 => 0 | n => n, fun | n => n⟩
theorem Tryd.laysCF : Go.Proofs.SlLaysH.n8 Tryd.prog Tryd.laysCF_ren := {
  mixed := by kernel_rfl
  f6 := ⟨Tryd.f88.name, by decide, Tryd.func88.trans (congrArg some (by kernel_rfl))⟩
  f8 := ⟨Tryd.f38.name, by decide, Tryd.func38.trans (congrArg some (by kernel_rfl))⟩
  t0 := Tryd.underlying0
  a0 := Tryd.isAgg0
  z0 := Tryd.sizeOf0
  v0 := Tryd.zeroValue0
  t3 := Tryd.underlying3
  a3 := Tryd.isAgg3
  z3 := Tryd.sizeOf3
  v3 := Tryd.zeroValue3
  t4 := Tryd.underlying4
  a4 := Tryd.isAgg4
  z4 := Tryd.sizeOf4
  v4 := Tryd.zeroValue4
  t22 := Tryd.underlying57
  a22 := Tryd.isAgg57
  z22 := Tryd.sizeOf57
  v22 := Tryd.zeroValue57
  a23 := Tryd.isAgg22
  z23 := Tryd.sizeOf22
  t25 := Tryd.underlying23
  a25 := Tryd.isAgg23
  z25 := Tryd.sizeOf23
  v25 := Tryd.zeroValue23 }
end Go.Proofs
namespace Go.Proofs.YtbgbocdohadhoaaDoor.Print
open Go Go.Shelf Go.RowKit Go.Proofs.YtbgbocdohadhoaaDoorW.PrintWords Go.Proofs.YtbgbocdohadhoaaDoorW.PrintLast Go.Proofs.YtbgbocdohadhoaaDoorW.PrintMore
set_option linter.unusedVariables false
set_option linter.unusedSimpArgs false
def PV (w : World) (v : Value) (p : List Int) : Prop := ∃ A c, v = .slice A p.length c ∧ p.length ≤ c ∧ Kd.C (Kd.int .u8) w A p.length p
def PVs (w : World) (vs : List Value) (ps : List (List Int)) : Prop := vs.length = ps.length ∧ ∀ (j : Nat) v p, vs[j]? = some v → ps[j]? = some p → PV w v p
theorem PVs.snoc {w : World} {vs : List Value} {ps : List (List Int)} {v : Value} {p : List Int} (h : PVs w vs ps) (hv : PV w v p) : PVs w (vs ++ [v]) (ps ++ [p]) := by
  refine ⟨by simp [h.1], fun j u q h1 h2 => ?_⟩
  rcases Nat.lt_or_ge j vs.length with hj | hj
  · rw [List.getElem?_append_left hj] at h1
    rw [List.getElem?_append_left (by rw [← h.1]; exact hj)] at h2
    exact h.2 j u q h1 h2
  · rw [List.getElem?_append_right hj] at h1
    rw [List.getElem?_append_right (by rw [← h.1]; exact hj), ← h.1] at h2
    cases hk : j - vs.length with
    | zero =>
      rw [hk] at h1 h2
      simp only [List.getElem?_cons_zero, Option.some.injEq] at h1 h2
      rw [← h1, ← h2]
      exact hv
    | succ k =>
      rw [hk] at h1
      simp at h1
theorem PV.of {w : World} {a : Addr} {p : List Int} {n c : Nat} (hn : p.length = n) (hl : n ≤ c) (hb : n ≤ 1000) (h : ∀ j, j < n → w.cell? (a.add j) = some (.int .u8 (p.getD j 0))) : PV w (.slice (some a) n c) p := by
  subst hn
  exact ⟨some a, c, rfl, hl, Kd.C_of_reads (d := (0 : Int)) (h1 := fun _ => rfl) ⟨rfl, by omega, fun _ => ⟨a, rfl, h⟩⟩⟩
theorem add_add_ (a : Addr) (i j : Nat) : (a.add (i + 1)).add j = a.add (i + 1 + j) := by
  unfold Addr.add
  by_cases hj : j = 0
  · subst hj; simp
  · simp [hj]; omega
theorem count_bytes : ∀ (l : List Int), (∀ x ∈ l, 0 ≤ x ∧ x < 256) → Lib.countByte (Lib.bytesOf l) 47 = l.count 47
  | [], _ => rfl
  | c :: l, hr => by
    have ih := count_bytes l (fun x hx => hr x (by simp [hx]))
    have hc := hr c (by simp)
    unfold Lib.countByte at ih ⊢
    rw [show Lib.bytesOf (c :: l) = UInt8.ofNat c.toNat :: Lib.bytesOf l from rfl]
    by_cases h : c = 47
    · rw [(byte_eq hc).2 h, List.count_cons_self, ih, h, List.count_cons_self]
    · rw [List.count_cons_of_ne (fun e => h ((byte_eq hc).1 e)), ih, List.count_cons_of_ne (fun e => h e)]
theorem pieces_count : ∀ (l : List Int), (pieces l).length = l.count 47 + 1
  | [] => rfl
  | c :: l => by
    have ih := pieces_count l
    by_cases h : c = 47
    · rw [h, pieces_slash, List.length_cons, ih, List.count_cons_self]
    · obtain ⟨a, t, e, e'⟩ := pieces_char c l h
      rw [e', List.count_cons_of_ne (fun e => h e), ← ih, e]
      rfl
theorem pieces_none : ∀ (l : List Int), l.count 47 = 0 → pieces l = [l]
  | [], _ => rfl
  | c :: l, h => by
    by_cases hc : c = 47
    · rw [hc, List.count_cons_self] at h
      omega
    · rw [List.count_cons_of_ne (fun e => hc e)] at h
      obtain ⟨a, t, e, e'⟩ := pieces_char c l hc
      rw [pieces_none l h] at e
      simp only [List.cons.injEq] at e
      rw [e', ← e.1, ← e.2]
theorem pieces_hit : ∀ (l : List Int), (∀ x ∈ l, 0 ≤ x ∧ x < 256) → 0 < l.count 47 → ∃ i : Nat, Lib.indexByte (Lib.bytesOf l) 47 = i ∧ i < l.length ∧ pieces l = l.take i :: pieces (l.drop (i + 1)) ∧ (l.drop (i + 1)).count 47 + 1 = l.count 47
  | [], _, h => by simp at h
  | c :: l, hr, h => by
    have hc := hr c (by simp)
    have e0 : Lib.bytesOf (c :: l) = UInt8.ofNat c.toNat :: Lib.bytesOf l := rfl
    by_cases hcc : c = 47
    · refine ⟨0, ?_, by simp, ?_, ?_⟩
      · rw [e0, (byte_eq hc).2 hcc, Lib.indexByte, if_pos (by rfl)]
        rfl
      · rw [hcc, pieces_slash]
        rfl
      · rw [hcc, List.count_cons_self]
        rfl
    · rw [List.count_cons_of_ne (fun e => hcc e)] at h
      obtain ⟨i, h1, h2, h3, h4⟩ := pieces_hit l (fun x hx => hr x (by simp [hx])) h
      obtain ⟨a, t, e, e'⟩ := pieces_char c l hcc
      refine ⟨i + 1, ?_, by simp; omega, ?_, ?_⟩
      · rw [e0, Lib.indexByte, if_neg (by simp only [beq_iff_eq]; exact fun q => hcc ((byte_eq hc).1 q)), h1, if_neg (by simp only [beq_iff_eq]; omega)]
        omega
      · rw [h3] at e
        simp only [List.cons.injEq] at e
        rw [e', ← e.1, ← e.2]
        rfl
      · rw [List.count_cons_of_ne (fun e => hcc e), ← h4]
        rfl
theorem lays11 : SlLaysP.n11 Tryd.prog Tryd.laysSplit_ren := { Tryd.laysSplit with }
theorem index_calls (a : Addr) (n c b2 d : Nat) (xs : List Int) (w : World) (hx : xs.length = n) (hc : ∀ i, i < n → w.cell? (a.add i) = some (.int .u8 (xs.getD i 0))) (hc2 : w.cell? ⟨b2, 0, none⟩ = some (.int .u8 47)) :
    Calls Tryd.prog 121 #[.slice (some a) n c, .slice (some ⟨b2, 0, none⟩) 1 d] w fun e w' => e = .returned (.int .i64 (Lib.indexByte (Lib.bytesOf xs) 47)) ∧ w' = w :=
  Any.bytes_Index_one_at lays11.index a n c b2 0 d xs 47 w hx hc hc2
theorem count_calls (a : Addr) (n c b2 d : Nat) (xs : List Int) (w : World) (hx : xs.length = n) (hc : ∀ i, i < n → w.cell? (a.add i) = some (.int .u8 (xs.getD i 0))) (hc2 : w.cell? ⟨b2, 0, none⟩ = some (.int .u8 47)) :
    Calls Tryd.prog 120 #[.slice (some a) n c, .slice (some ⟨b2, 0, none⟩) 1 d] w fun e w' => e = .returned (.int .i64 (Lib.countByte (Lib.bytesOf xs) 47)) ∧ w' = w :=
  Any.bytes_Count_one_at (SlLaysC.n13.small lays11.count) a n c b2 0 d xs 47 w hx hc hc2
set_option maxHeartbeats 4000000 in
set_option maxRecDepth 100000 in
theorem genSplit_calls (a : Addr) (c b2 d : Nat) (xs : List Int) (w : World) (hr : ∀ x ∈ xs, 0 ≤ x ∧ x < 256) (hc : ∀ i, i < xs.length → w.cell? (a.add i) = some (.int .u8 (xs.getD i 0))) (hcap : xs.length ≤ c) (hn : xs.length ≤ 1000) (hc2 : w.cell? ⟨b2, 0, none⟩ = some (.int .u8 47)) :
    Calls Tryd.prog 87 #[.slice (some a) xs.length c, .slice (some ⟨b2, 0, none⟩) 1 d, .int .i64 0, .int .i64 (-1)] w fun e w' => ∃ vs, e = .returned (.slice (some ⟨w.heap.size, 0, none⟩) vs.length vs.length) ∧ PVs w vs (pieces xs) ∧ w' = w.alloc (.cells vs.toArray 22) := by
  have HC := Aside0.mk (count_calls a xs.length c b2 d xs w rfl hc hc2)
  have hcnt := count_bytes xs hr
  have hcl : xs.count 47 ≤ xs.length := List.count_le_length
  have hpc := pieces_count xs
  rw [hcnt] at HC
  obtain ⟨N, hN⟩ : ∃ N, xs.count 47 = N := ⟨_, rfl⟩
  rw [hN] at HC hcl hpc
  have e1 : min ((N : Int) + 1) ((xs.length : Int) + 1) = (N : Int) + 1 := by omega
  have hmk := run_make_row' (P := Tryd.prog) 57 22 (.slice none 0 0) 24 lays11.t23 lays11.i22 rfl .i64 .i64 (N + 1) (by omega) (by omega)
  have e2 : (((N + 1 : Nat) : Int)) = (N : Int) + 1 := by omega
  rw [e2] at hmk
  have HR := Aside0.mk hr
  have HA := Aside0.mk hc
  have HN := Aside0.mk (And.intro hN (And.intro hcl (And.intro hpc (And.intro hcap hn))))
  clear hr hc hcnt hN hpc
  go_enter Tryd.func87, Tryd.ntmps87
  go_wp2_with fail
  refine HC.out.mono ?_
  rintro e w' ⟨rfl, hww⟩
  obtain rfl : w = w' := hww.symm
  clear HC
  go_wp2_with fail
  clear hmk e1 e2
  go_loopg [0, 10] (N + 1) (fun gg s0 s10 wr => ∃ (done : List Value) (ps : List (List Int)) (ad : Addr) (zs : List Int) (cap : Nat), s0 = .slice (some ad) zs.length cap ∧ s10 = .int .i64 done.length ∧ wr = w.alloc (.cells (Lib.cellsOfV done (N + 1)) 22) ∧
    Aside0 (gg + done.length = N + 1 ∧ done.length ≤ N ∧ zs.length ≤ cap ∧ zs.length ≤ xs.length ∧ zs.count 47 + done.length = N ∧ (∀ x ∈ zs, 0 ≤ x ∧ x < 256)) ∧ Aside0 (∀ i, i < zs.length → w.cell? (ad.add i) = some (.int .u8 (zs.getD i 0))) ∧ Aside0 (PVs w done ps ∧ pieces xs = ps ++ pieces zs))
  case atStart =>
    have h := HN.out
    exact ⟨[], [], a, xs, c, rfl, rfl, by rw [Lib.cellsOfV_nil], ⟨⟨by simp, by simp, h.2.2.2.1, Nat.le_refl _, by simp [h.1], HR.out⟩⟩, HA, ⟨⟨⟨rfl, fun j v p h => by simp at h⟩, rfl⟩⟩⟩
  case round =>
    obtain ⟨done, ps, ad, zs, cap, rfl, rfl, rfl, HZ, HB, HP⟩ := hrel
    have hz := HZ.out
    have hnn := HN.out.2.2.2.2
    have hnext := Lib.cellsOfV_next (done := done) (N := N + 1) (by omega)
    by_cases hlt : done.length < N
    · obtain ⟨i, k1, k2, k3, k4⟩ := pieces_hit zs hz.2.2.2.2.2 (by omega)
      have hd1 : decide ((done.length : Int) < (N : Int)) = true := decide_eq_true (by omega)
      have hd2 : ((done.length : Int) < (N : Int) + 1 - 1) := by omega
      have HI := Aside0.mk (index_calls ad zs.length cap b2 d zs (w.alloc (.cells (Lib.cellsOfV done (N + 1)) 22)) rfl (fun j hj => Lib.cell?_alloc_marked _ (HB.out j hj)) (Lib.cell?_alloc_marked _ hc2))
      rw [k1] at HI
      have c0 : ¬ ((i : Int) < 0) := by omega
      have c1 : (0 : Int) ≤ (i : Int) := by omega
      have c2 : (i : Int) ≤ (cap : Int) := by omega
      have c3 : (0 : Int) ≤ (i : Int) + 1 := by omega
      have c4 : (i : Int) + 1 ≤ (zs.length : Int) := by omega
      have c5 : zs.length ≤ 1000 := by omega
      have KK := Aside0.mk (And.intro k1 (And.intro k2 (And.intro k3 k4)))
      clear k1 k2 k3 k4
      go_wp2_with fail
      refine HI.out.mono ?_
      rintro e w' ⟨rfl, hww⟩
      subst hww
      clear HI
      by_cases hce : cap = i + 1
      · subst hce
        go_wp2_with fail
        have kk := KK.out
        go_roundg (N - done.length)
        case measure => omega
        case rel =>
          refine ⟨done ++ [.slice (some ad) i i], ps ++ [zs.take i], ad, zs.drop (i + 1), 0, by simp; omega, by simp, by rw [Lib.cellsOfV_set (by omega)], ⟨⟨by simp; omega, by simp; omega, by simp; omega, by simp; omega, by simp; omega, fun x hx => hz.2.2.2.2.2 x (List.mem_of_mem_drop hx)⟩⟩, ⟨fun j hj => ?_⟩, ⟨⟨PVs.snoc HP.out.1 (PV.of (by simp; omega) (Nat.le_refl _) (by omega) (fun j hj => by rw [HB.out j (by omega)]; simp [List.getD, List.getElem?_take, hj])), ?_⟩⟩⟩
          · rw [List.length_drop] at hj; omega
          · rw [HP.out.2, kk.2.2.1]
            simp
      · go_wp2_with fail
        have kk := KK.out
        go_roundg (N - done.length)
        case measure => omega
        case rel =>
          refine ⟨done ++ [.slice (some ad) i i], ps ++ [zs.take i], ad.add (i + 1), zs.drop (i + 1), cap - (i + 1), by simp [Addr.add], by simp, by rw [Lib.cellsOfV_set (by omega)], ⟨⟨by simp; omega, by simp; omega, by simp; omega, by simp; omega, by simp; omega, fun x hx => hz.2.2.2.2.2 x (List.mem_of_mem_drop hx)⟩⟩, ⟨fun j hj => ?_⟩, ⟨⟨PVs.snoc HP.out.1 (PV.of (by simp; omega) (Nat.le_refl _) (by omega) (fun j hj => by rw [HB.out j (by omega)]; simp [List.getD, List.getElem?_take, hj])), ?_⟩⟩⟩
          · rw [List.length_drop] at hj; rw [add_add_, HB.out (i + 1 + j) (by omega)]; simp [List.getD, List.getElem?_drop]
          · rw [HP.out.2, kk.2.2.1]
            simp
    · have hd1 : decide ((done.length : Int) < (N : Int)) = false := decide_eq_false (by omega)
      go_wp2_with fail
      go_ret
      have hdn : done.length = N := by omega
      have hvl : (done ++ [Value.slice (some ad) zs.length cap]).length = N + 1 := by simp [hdn]
      refine ⟨done ++ [.slice (some ad) zs.length cap], ?_, ?_, ?_⟩
      · rw [hvl, hdn]
        rfl
      · have h1 := PVs.snoc HP.out.1 (PV.of (w := w) (a := ad) (p := zs) (c := cap) rfl hz.2.2.1 (by omega) HB.out)
        rw [HP.out.2, pieces_none zs (by omega)]
        exact h1
      · rw [Lib.cellsOfV_set (by omega), ← hvl, Lib.cellsOfV_full]
set_option maxHeartbeats 4000000 in
set_option maxRecDepth 100000 in
theorem split_calls (a : Addr) (c b2 d : Nat) (xs : List Int) (w : World) (hr : ∀ x ∈ xs, 0 ≤ x ∧ x < 256) (hc : ∀ i, i < xs.length → w.cell? (a.add i) = some (.int .u8 (xs.getD i 0))) (hcap : xs.length ≤ c) (hn : xs.length ≤ 1000) (hc2 : w.cell? ⟨b2, 0, none⟩ = some (.int .u8 47)) :
    Calls Tryd.prog 37 #[.slice (some a) xs.length c, .slice (some ⟨b2, 0, none⟩) 1 d] w fun e w' => ∃ vs, e = .returned (.slice (some ⟨w.heap.size, 0, none⟩) vs.length vs.length) ∧ PVs w vs (pieces xs) ∧ w' = w.alloc (.cells vs.toArray 22) := by
  have HC := Aside0.mk (genSplit_calls a c b2 d xs w hr hc hcap hn hc2)
  clear hr hc hcap hn hc2
  go_enter Tryd.func37, Tryd.ntmps37
  go_wp2_with fail
  refine HC.out.mono ?_
  rintro e w' ⟨vs, rfl, h1, rfl⟩
  go_wp2_with fail
  go_ret
  exact ⟨vs, rfl, h1, rfl⟩
end Go.Proofs.YtbgbocdohadhoaaDoor.Print
namespace Go.Proofs.YtbgbocdohadhoaaDoor.Print
open Go Go.Shelf Go.RowKit Go.Proofs.YtbgbocdohadhoaaDoorW.PrintWords Go.Proofs.YtbgbocdohadhoaaDoorW.PrintLast Go.Proofs.YtbgbocdohadhoaaDoorW.PrintMore
set_option linter.unusedVariables false
set_option linter.unusedSimpArgs false
theorem containsFunc_calls (vs : List Value) (ps : List (List Int)) (B : Nat) (w : World) (h : PVs w vs ps) (hl : vs.length ≤ 1000) (hb : w.heap[B]? = some (.cells vs.toArray 22 (0, 0))) :
    Calls Tryd.prog 38 #[.slice (some ⟨B, 0, none⟩) vs.length vs.length, .func (.func 39) #[] #[]] w fun e w' => e = .returned (.bool (ps.any fun p => !nameB p)) ∧ Below w.heap.size w w' := by
  let α := { x : Value × List Int // PV w x.1 x.2 }
  have hz : PV w (.slice none 0 0) [] := ⟨none, 0, rfl, Nat.le_refl _, Kd.C_of_reads (d := (0 : Int)) (h1 := fun _ => rfl) (ReadsInt.nil _ _)⟩
  haveI : Inhabited α := ⟨⟨(.slice none 0 0, []), hz⟩⟩
  have H : ∀ x ∈ vs.zip ps, PV w x.1 x.2 := by
    intro x hx
    obtain ⟨j, hj, rfl⟩ := List.getElem_of_mem hx
    have h1 : j < vs.length := by simp at hj; omega
    have h2 : j < ps.length := by simp at hj; omega
    have := h.2 j vs[j] ps[j] (List.getElem?_eq_getElem h1) (List.getElem?_eq_getElem h2)
    simpa using this
  let zs : List α := (vs.zip ps).pmap (fun x hx => (⟨x, hx⟩ : α)) H
  have hzl : zs.length = vs.length := by simp [zs, h.1]
  have hat : ∀ j, (hj : j < zs.length) → (zs[j]!).1.1 = vs[j]'(by omega) ∧ (zs[j]!).1.2 = ps[j]'(by have := h.1; omega) := by
    intro j hj
    rw [getElem!_pos zs j hj]
    simp [zs]
  have hp : PredAt Tryd.prog 39 #[] (fun x : α => x.1.1) (fun x : α => !nameB x.1.2) w := by
    intro W x hW
    obtain ⟨A, c, e, hc, hr⟩ := x.2
    show Calls Tryd.prog 39 (#[x.1.1] ++ #[]) W _
    rw [e]
    refine (nameNot_calls A c x.1.2 W (Kd.C_below hr hW) hc).mono ?_
    rintro e w' ⟨rfl, hw⟩
    exact ⟨rfl, 0, hw⟩
  have eg : ∀ args W, (callFunc 39 args).run Tryd.prog W = .ok (.enter 39 args) W := enters_of Tryd.func39 (by kernel_rfl) rfl
  have hc : ∀ j, j < zs.length → w.cell? ⟨B, 0 + j, none⟩ = some ((fun x : α => x.1.1) zs[j]!) := by
    intro j hj
    have := blk_cell hb j
    simp only [Nat.zero_add]
    rw [this, (hat j hj).1]
    simp [List.getElem?_eq_getElem (show j < vs.length by omega)]
  refine (AnyE.slices_ContainsFunc Tryd.laysCF (fun x : α => x.1.1) (fun x : α => !nameB x.1.2) 39 #[] eg B 0 vs.length vs.length zs w hp (by omega) (by omega) hc).mono ?_
  rintro e w' ⟨rfl, q, rfl⟩
  refine ⟨?_, pw_below_drewN (Below.refl _ _) q⟩
  have e1 : zs.take vs.length = zs := by rw [← hzl, List.take_length]
  rw [e1]
  have e2 : ps.any (fun p => !nameB p) = zs.any (fun x => !nameB x.1.2) := by
    have e3 : ps = zs.map (fun x => x.1.2) := by
      apply List.ext_getElem
      · rw [List.length_map, hzl, h.1]
      · intro j h1 h2
        rw [List.getElem_map]
        simp [zs]
    conv => lhs; rw [e3]
    rw [List.any_map]
    rfl
  rw [e2]
def bytesB (l : List Int) : Bool := l.all fun x => decide (0 ≤ x) && decide (x < 256)
theorem bytesB_iff {l : List Int} : bytesB l = true ↔ ∀ x ∈ l, 0 ≤ x ∧ x < 256 := by
  unfold bytesB
  simp [List.all_eq_true]
def impl_ValidPath.f (l : List Int) : Option Bool := if bytesB l then some (pathB l) else none
set_option maxHeartbeats 4000000 in
set_option maxRecDepth 100000 in
theorem impl_ValidPath_calls (A : Option Addr) (c : Nat) (l : List Int) (w : World) (h : Kd.C (Kd.int .u8) w A l.length l) (hc : l.length ≤ c) (hr : ∀ x ∈ l, 0 ≤ x ∧ x < 256) :
    Calls Tryd.prog 11 #[.slice A l.length c] w fun e w' => e = .returned (.bool (pathB l)) ∧ Below w.heap.size w w' := by
  by_cases h2 : l.length < 2
  · have e : pathB l = false := Bool.eq_false_iff.2 fun h => by have := (pathB_len l h).1; omega
    have d1 : decide ((l.length : Int) < 2) = true := decide_eq_true (by omega)
    rw [e]
    clear e h hr
    go_enter Tryd.func11, Tryd.ntmps11
    go_wp2_with fail
    go_ret
    exact ⟨rfl, Below.refl _ _⟩
  obtain ⟨x, r, rfl⟩ : ∃ x r, l = x :: r := by cases l with | nil => simp at h2 | cons x r => exact ⟨x, r, rfl⟩
  obtain ⟨ad, rfl, hx⟩ := Kd.at_int h 0 (by omega) (by simp only [List.length_cons]; omega)
  replace hx : w.cell? ad = some (.int .u8 x) := hx
  have HX := Aside0.mk (show x = x from rfl)
  by_cases h47 : x = 47
  case neg =>
    have e : pathB (x :: r) = false := by unfold pathB; simp [h47]
    rw [e]
    have hlen : ¬ ((x :: r).length < 2) := h2
    generalize (x :: r).length = L at *
    have d1 : decide ((L : Int) < 2) = false := decide_eq_false (by omega)
    have d2 : decide (x = 47) = false := decide_eq_false h47
    have d3 : (x != 47) = true := by simpa using h47
    have d4 : (0 : Int) < (L : Int) := by omega
    clear e hr h h47 HX hlen h2
    go_enter Tryd.func11, Tryd.ntmps11
    go_wp2_with fail
    go_ret
    exact ⟨rfl, Below.refl _ _⟩
  subst h47
  by_cases h136 : 136 < (47 :: r : List Int).length
  · have e : pathB (47 :: r) = false := Bool.eq_false_iff.2 fun h => by have := (pathB_len _ h).2; omega
    rw [e]
    generalize (47 :: r : List Int).length = L at *
    have d1 : decide ((L : Int) < 2) = false := decide_eq_false (by omega)
    have d2 : decide ((136 : Int) < (L : Int)) = true := decide_eq_true (by omega)
    have d4 : (0 : Int) < (L : Int) := by omega
    clear e hr h HX h2
    go_enter Tryd.func11, Tryd.ntmps11
    go_wp2_with fail
    go_ret
    exact ⟨rfl, Below.refl _ _⟩
  obtain ⟨i0, hi0, _, hsz0, _⟩ := info_parts info5
  obtain ⟨A6, hcut6, hA6, hC6⟩ := print_drop_of (P := Tryd.prog) (Value.int .u8) 0 22 5 .i64 Tryd.underlying22 hi0 hsz0 (some ad) c (47 :: r) 1 (by omega) (by simp only [List.length_cons]; omega) hc
  have hrd := hA6 _ (Kd.reads_of_C h)
  have e1 : (47 :: r : List Int).drop (1 : Int).toNat = r := rfl
  rw [e1] at hcut6 hrd hC6
  rw [show (1 : Int).toNat = 1 from rfl] at hcut6 hC6
  have hrl : 0 < r.length := by simp only [List.length_cons] at h2; omega
  have hr136 : r.length ≤ 1000 := by simp only [List.length_cons] at h136; omega
  obtain ⟨a6, rfl, hcell6⟩ := hrd.2.2 hrl
  have HR := Aside0.mk (show ∀ x ∈ r, 0 ≤ x ∧ x < 256 from fun x hx => hr x (by simp [hx]))
  have HC6 := Aside0.mk hC6
  have HCE := Aside0.mk hcell6
  have HLL := Aside0.mk (And.intro hrl hr136)
  have kc := fun (w : World) (C : Array Value) (n c : Nat) => Lib.run_convert_bytes_const (P := Tryd.prog) w 22 5 C n c Tryd.underlying22 Tryd.underlying5
  obtain ⟨L, hL⟩ : ∃ L, (47 :: r : List Int).length = L := ⟨_, rfl⟩
  rw [hL] at hcut6 h2 h136 ⊢
  have d1 : decide ((L : Int) < 2) = false := decide_eq_false (by omega)
  have d2 : decide ((136 : Int) < (L : Int)) = false := decide_eq_false (by omega)
  have d4 : (0 : Int) < (L : Int) := by omega
  have hPB : Aside0 (pathB (47 :: r) = (decide ((pieces r).length ≤ 8) && (pieces r).all nameB)) := ⟨rfl⟩
  clear h hr hc hi0 hsz0 hA6 hrd hL hC6 hcell6 hrl hr136 h2 h136 e1 HX
  go_enter Tryd.func11, Tryd.ntmps11
  go_wp2_with fail
  have hbA : Below w.heap.size w (w.alloc (.cells #[.int .u8 47] 5 (1, 2))) := (Below.refl _ w).alloc (Nat.le_refl _) _
  refine (split_calls a6 (c - 1) w.heap.size 1 r _ HR.out (fun i hi => Lib.cell?_alloc_marked _ (HCE.out i hi)) HC6.out HLL.out.2 (World.cell?_alloc_mark w #[.int .u8 47] 5 (1, 2) 0)).mono ?_
  rintro e w1 ⟨vs, rfl, hv, hw1⟩
  subst hw1
  have hbB := below_alloc (Below.refl (w.alloc (.cells #[.int .u8 47] 5 (1, 2))).heap.size (w.alloc (.cells #[.int .u8 47] 5 (1, 2)))) (.cells vs.toArray 22)
  have hb1 := below_step hbA hbB
  have hvl : vs.length = (pieces r).length := hv.1
  have hpl : (pieces r).length ≤ 1001 := by
    have h1 := pieces_count r
    have h2 : r.count 47 ≤ r.length := List.count_le_length
    have := HLL.out.2
    omega
  obtain ⟨n, hn⟩ : ∃ n, vs.length = n := ⟨_, rfl⟩
  by_cases h8 : 8 < n
  · have e : pathB (47 :: r) = false := by rw [hPB.out, decide_eq_false (show ¬ (pieces r).length ≤ 8 by omega)]; rfl
    have d5 : decide ((n : Int) ≤ 8) = false := decide_eq_false (by omega)
    have HE := Aside0.mk e
    rw [hn]
    clear e hv hvl hpl h8 d1 d2 d4
    go_wp2_with fail
    go_ret
    rw [HE.out]
    exact ⟨rfl, hb1⟩
  · have d5 : decide ((n : Int) ≤ 8) = true := decide_eq_true (by omega)
    have hbl : (((w.alloc (.cells #[.int .u8 47] 5 (1, 2))).alloc (.cells vs.toArray 22))).heap[w.heap.size + 1]? = some (.cells vs.toArray 22 (0, 0)) := by
      have := blk_new (w.alloc (.cells #[.int .u8 47] 5 (1, 2))) (.cells vs.toArray 22)
      simpa using this
    have HCF := Aside0.mk (containsFunc_calls vs (pieces r) (w.heap.size + 1) _ (show PVs ((w.alloc (.cells #[.int .u8 47] 5 (1, 2))).alloc (.cells vs.toArray 22)) vs (pieces r) from ⟨hv.1, fun j v p h1 h2 => by obtain ⟨A, c, e, hc, hr⟩ := hv.2 j v p h1 h2; exact ⟨A, c, e, hc, Kd.C_below hr hbB⟩⟩) (by omega) hbl)
    have hPB2 := Aside0.mk (show pathB (47 :: r) = !((pieces r).any fun p => !nameB p) by
      rw [hPB.out, decide_eq_true (show (pieces r).length ≤ 8 by omega), Bool.true_and]
      simp [List.all_eq_not_any_not])
    rw [hn] at HCF ⊢
    clear hv hvl hpl h8 d1 d2 d4 hPB hbl
    generalize ((pieces r).any fun p => !nameB p) = ab at *
    go_wp2_with fail
    refine HCF.out.mono ?_
    rintro e w2 ⟨rfl, hb2⟩
    have hb3 := below_step hb1 hb2
    go_wp2_with fail
    go_ret
    rw [hPB2.out]
    exact ⟨rfl, hb3⟩
theorem impl_ValidPath.calls (A0 : Option Addr) (c0 : Nat) (l0 : List Int) (r : Bool) (w : World) (hr0 : Kd.C (Kd.int .u8) w A0 l0.length l0) (hc0 : l0.length ≤ c0) (h : impl_ValidPath.f l0 = some r) :
    Calls Tryd.prog 11 #[.slice A0 l0.length c0] w fun e w' => e = .returned (.bool r) ∧ Below w.heap.size w w' := by
  unfold impl_ValidPath.f at h
  split at h
  · rename_i hb
    have := Option.some.inj h
    subst this
    exact impl_ValidPath_calls A0 c0 l0 w hr0 hc0 (bytesB_iff.1 hb)
  · cases h
end Go.Proofs.YtbgbocdohadhoaaDoor.Print
namespace Go.Proofs.YtbgbocdohadhoaaDoor.Print
open Go.RowKit Go.Proofs.YtbgbocdohadhoaaDoorW.PrintWords Go.Proofs.YtbgbocdohadhoaaDoorW.PrintLast Go.Proofs.YtbgbocdohadhoaaDoorW.PrintMore
attribute [local go_sem] max2_int min2_int max_two min_two max_three min_three max_four min_four
set_option linter.unusedVariables false
set_option linter.unusedSimpArgs false
def laws_FnExactValidPath.f (k : Nat) (l0 : List Int) : Option (Bool) := if (l0.length : Int) > 1048576 then (some true) else ((laws_toByteS.f k l0).bind fun t123 => ((spec_ValidPath.f k t123).bind fun t126 => ((laws_toByteS.f k l0).bind fun t127 => ((impl_ValidPath.f t127).bind fun t130 => (if (t130 != t126) = true then (some false) else ((laws_toByteS.f k l0).bind fun t131 => ((laws_eqByteS.f k t127 t131).bind fun t134 => (if t134 = true then (some true) else (some false)))))))))
set_option maxHeartbeats 8000000 in
set_option maxRecDepth 100000 in
theorem laws_FnExactValidPath.calls (k : Nat) (A0 : Option Addr) (c0 : Nat) (l0 : List Int) (w : World) (hr0 : Kd.C (Kd.int .u8) w A0 l0.length l0) (hc0 : l0.length ≤ c0) (h : laws_FnExactValidPath.f k l0 = some true) :
    Calls Tryd.prog 3 #[.slice A0 l0.length c0] w fun e w' => e = .returned (.bool true) ∧ Below w.heap.size w w' := by
  have HR0 := Aside0.mk hr0
  have HC0 := Aside0.mk hc0
  clear hr0 hc0
  have HB := Aside0.mk (Below.refl w.heap.size w)
  have H : (if (l0.length : Int) > 1048576 then (some true) else ((laws_toByteS.f k l0).bind fun t123 => ((spec_ValidPath.f k t123).bind fun t126 => ((laws_toByteS.f k l0).bind fun t127 => ((impl_ValidPath.f t127).bind fun t130 => (if (t130 != t126) = true then (some false) else ((laws_toByteS.f k l0).bind fun t131 => ((laws_eqByteS.f k t127 t131).bind fun t134 => (if t134 = true then (some true) else (some false)))))))))) = some true := h
  clear h
  by_cases c2 : (l0.length : Int) > 1048576
  · rw [if_pos c2] at H
    have c2b0 : decide (1048576 < (l0.length : Int)) = true := decide_eq_true c2
    have c2b1 : decide (1048576 < l0.length) = true := decide_eq_true (by omega)
    clear c2
    first | obtain rfl := Option.some.inj H | have HRv := Option.some.inj H
    go_enter Tryd.func3, Tryd.ntmps3
    go_wp2
    go_ret
    exact ⟨by first | rfl | (simp [errW_none, errW_some] <;> rfl) | (simp [*, errW_none, errW_some] <;> rfl), by repeat (first | (with_reducible first | exact HB.out | apply below_alloc | apply pw_below_drewN | apply below_drew1) | exact HB.out)⟩
  · rw [if_neg c2] at H
    have c2b0 : decide (1048576 < (l0.length : Int)) = false := decide_eq_false c2
    have c2b1 : decide (1048576 < l0.length) = false := decide_eq_false (by omega)
    clear c2
    replace H := Option.bind_eq_some_iff.mp H
    obtain ⟨t123, A30, H⟩ := H
    replace H : ((spec_ValidPath.f k t123).bind fun t126 => ((laws_toByteS.f k l0).bind fun t127 => ((impl_ValidPath.f t127).bind fun t130 => (if (t130 != t126) = true then (some false) else ((laws_toByteS.f k l0).bind fun t131 => ((laws_eqByteS.f k t127 t131).bind fun t134 => (if t134 = true then (some true) else (some false)))))))) = some true := H
    have A3 := Aside0.mk A30
    clear A30
    replace H := Option.bind_eq_some_iff.mp H
    obtain ⟨t126, A40, H⟩ := H
    replace H : ((laws_toByteS.f k l0).bind fun t127 => ((impl_ValidPath.f t127).bind fun t130 => (if (t130 != t126) = true then (some false) else ((laws_toByteS.f k l0).bind fun t131 => ((laws_eqByteS.f k t127 t131).bind fun t134 => (if t134 = true then (some true) else (some false))))))) = some true := H
    have A4 := Aside0.mk A40
    clear A40
    replace H := Option.bind_eq_some_iff.mp H
    obtain ⟨t127, A50, H⟩ := H
    replace H : ((impl_ValidPath.f t127).bind fun t130 => (if (t130 != t126) = true then (some false) else ((laws_toByteS.f k l0).bind fun t131 => ((laws_eqByteS.f k t127 t131).bind fun t134 => (if t134 = true then (some true) else (some false)))))) = some true := H
    have A5 := Aside0.mk A50
    clear A50
    replace H := Option.bind_eq_some_iff.mp H
    obtain ⟨t130, A60, H⟩ := H
    replace H : (if (t130 != t126) = true then (some false) else ((laws_toByteS.f k l0).bind fun t131 => ((laws_eqByteS.f k t127 t131).bind fun t134 => (if t134 = true then (some true) else (some false))))) = some true := H
    have A6 := Aside0.mk A60
    clear A60
    by_cases c7 : (t130 != t126) = true
    · rw [if_pos c7] at H
      have c7b0 : (t130 != t126) = true := c7
      (try (have c7b1 : decide (t130 = t126) = false := by simpa using c7))
      (try (have c7b2 : (t130 == t126) = false := by simpa using c7))
      (try (have c7b3 : ¬ (t130 = t126) := by simpa using c7))
      clear c7
      exact absurd H (by simp)
    · rw [if_neg c7] at H
      have c7b0 : (t130 != t126) = false := by simpa using c7
      (try (have c7b1 : decide (t130 = t126) = true := by simpa using c7))
      (try (have c7b2 : (t130 == t126) = true := by simpa using c7))
      clear c7
      replace H := Option.bind_eq_some_iff.mp H
      obtain ⟨t131, A80, H⟩ := H
      replace H : ((laws_eqByteS.f k t127 t131).bind fun t134 => (if t134 = true then (some true) else (some false))) = some true := H
      have A8 := Aside0.mk A80
      clear A80
      replace H := Option.bind_eq_some_iff.mp H
      obtain ⟨t134, A90, H⟩ := H
      replace H : (if t134 = true then (some true) else (some false)) = some true := H
      have A9 := Aside0.mk A90
      clear A90
      by_cases c10 : t134 = true
      · subst c10
        have H1 : (some true) = some true := by first | rfl | (rw [if_pos rfl] at H; exact H)
        clear H
        have H := H1
        clear H1
        first | obtain rfl := Option.some.inj H | have HRv := Option.some.inj H
        go_enter Tryd.func3, Tryd.ntmps3
        go_wp2_with (first | ((with_reducible refine gate_callee (f := 10) rfl ?_); refine goesL_ (some 10) rfl rfl Tryd.func10 (by kernel_rfl) rfl #[.slice A0 l0.length c0] rfl (by (try simp only [List.map_toArray, List.map_cons, List.map_nil]); first | done | rfl | (simp only [List.length_drop, List.length_take]; rfl)) ?_; (with_reducible refine (laws_toByteS.calls k _ _ l0 t123 _ ?side1 ?side2 A3.out).mono ?_); (case side1 => repeat (first | exact HR0.out | (with_reducible refine Kd.C_alloc ?_ _) | (with_reducible refine Kd.C_drewN ?_ _) | (with_reducible refine Kd.C_drew ?_))); (case side2 => exact HC0.out); rintro e w11 ⟨v124, rfl, ho0, hb⟩; refine ⟨_, rfl, ?_⟩; have n0_ := Aside0.mk (Kd.R_lower ho0 (below_size (by repeat (first | (with_reducible first | exact HB.out | apply below_alloc | apply pw_below_drewN | apply below_drew1) | exact HB.out)))); have n1_ := Aside0.mk (below_step (by repeat (first | (with_reducible first | exact HB.out | apply below_alloc | apply pw_below_drewN | apply below_drew1) | exact HB.out)) hb); clear HB; have HO125 := n0_; have HB := n1_; clear n0_ n1_; (try clear hb); (try clear hb2); (try clear hk); (try clear hi); (try clear ho0); obtain ⟨Ao12, co12, eo12⟩ := Kd.R_slice HO125.out; subst eo12) | ((with_reducible refine gate_callee (f := 9) rfl ?_); refine goesL_ (some 11) rfl rfl Tryd.func9 (by kernel_rfl) rfl #[.slice Ao12 t123.length co12] rfl (by (try simp only [List.map_toArray, List.map_cons, List.map_nil]); first | done | rfl | (simp only [List.length_drop, List.length_take]; rfl)) ?_; (with_reducible refine (spec_ValidPath.calls k _ _ t123 t126 _ ?side1 ?side2 A4.out).mono ?_); (case side1 => repeat (first | exact (Kd.R_reads' HO125.out).2.2 | (with_reducible refine Kd.C_alloc ?_ _) | (with_reducible refine Kd.C_drewN ?_ _) | (with_reducible refine Kd.C_drew ?_))); (case side2 => exact (Kd.R_reads' HO125.out).2.1); rintro e w13 ⟨rfl, hb⟩; refine ⟨_, rfl, ?_⟩; have n0_ := Aside0.mk (Kd.R_below (by (with_reducible repeat (first | apply Kd.R_alloc | apply Kd.R_drewN | apply Kd.R_drew)); exact HO125.out) hb); have n1_ := Aside0.mk (below_step (by repeat (first | (with_reducible first | exact HB.out | apply below_alloc | apply pw_below_drewN | apply below_drew1) | exact HB.out)) hb); clear HO125; clear HB; have HO125 := n0_; have HB := n1_; clear n0_ n1_; (try clear hb); (try clear hb2); (try clear hk); (try clear hi)) | ((with_reducible refine gate_callee (f := 10) rfl ?_); refine goesL_ (some 13) rfl rfl Tryd.func10 (by kernel_rfl) rfl #[.slice A0 l0.length c0] rfl (by (try simp only [List.map_toArray, List.map_cons, List.map_nil]); first | done | rfl | (simp only [List.length_drop, List.length_take]; rfl)) ?_; (with_reducible refine (laws_toByteS.calls k _ _ l0 t127 _ ?side1 ?side2 A5.out).mono ?_); (case side1 => repeat (first | exact (Kd.C_below HR0.out HB.out) | (with_reducible refine Kd.C_alloc ?_ _) | (with_reducible refine Kd.C_drewN ?_ _) | (with_reducible refine Kd.C_drew ?_))); (case side2 => exact HC0.out); rintro e w14 ⟨v128, rfl, ho0, hb⟩; refine ⟨_, rfl, ?_⟩; have n0_ := Aside0.mk (Kd.R_elder' (by (with_reducible repeat (first | apply Kd.R_alloc | apply Kd.R_drewN | apply Kd.R_drew)); exact HO125.out) (Kd.R_base ho0) hb); have n1_ := Aside0.mk (Kd.R_lower (Kd.R_new' ho0 (Kd.R_lt (by (with_reducible repeat (first | apply Kd.R_alloc | apply Kd.R_drewN | apply Kd.R_drew)); exact HO125.out))) (below_size (by repeat (first | (with_reducible first | exact HB.out | apply below_alloc | apply pw_below_drewN | apply below_drew1) | exact HB.out)))); have n2_ := Aside0.mk (below_step (by repeat (first | (with_reducible first | exact HB.out | apply below_alloc | apply pw_below_drewN | apply below_drew1) | exact HB.out)) hb); clear HO125; clear HB; have HO125 := n0_; have HO129 := n1_; have HB := n2_; clear n0_ n1_ n2_; (try clear hb); (try clear hb2); (try clear hk); (try clear hi); (try clear ho0); obtain ⟨Ao15, co15, eo15⟩ := Kd.R_slice HO129.out; subst eo15) | ((with_reducible refine gate_callee (f := 11) rfl ?_); refine goesL_ (some 15) rfl rfl Tryd.func11 (by kernel_rfl) rfl #[.slice Ao15 t127.length co15] rfl (by (try simp only [List.map_toArray, List.map_cons, List.map_nil]); first | done | rfl | (simp only [List.length_drop, List.length_take]; rfl)) ?_; (with_reducible refine (impl_ValidPath.calls _ _ t127 t130 _ ?side1 ?side2 A6.out).mono ?_); (case side1 => repeat (first | exact (Kd.R_reads' HO129.out).2.2 | (with_reducible refine Kd.C_alloc ?_ _) | (with_reducible refine Kd.C_drewN ?_ _) | (with_reducible refine Kd.C_drew ?_))); (case side2 => exact (Kd.R_reads' HO129.out).2.1); rintro e w16 ⟨rfl, hb⟩; refine ⟨_, rfl, ?_⟩; have n0_ := Aside0.mk (Kd.R_below (by (with_reducible repeat (first | apply Kd.R_alloc | apply Kd.R_drewN | apply Kd.R_drew)); exact HO125.out) hb); have n1_ := Aside0.mk (Kd.R_below (by (with_reducible repeat (first | apply Kd.R_alloc | apply Kd.R_drewN | apply Kd.R_drew)); exact HO129.out) hb); have n2_ := Aside0.mk (below_step (by repeat (first | (with_reducible first | exact HB.out | apply below_alloc | apply pw_below_drewN | apply below_drew1) | exact HB.out)) hb); clear HO125; clear HO129; clear HB; have HO125 := n0_; have HO129 := n1_; have HB := n2_; clear n0_ n1_ n2_; (try clear hb); (try clear hb2); (try clear hk); (try clear hi)) | ((with_reducible refine gate_callee (f := 10) rfl ?_); refine goesL_ (some 21) rfl rfl Tryd.func10 (by kernel_rfl) rfl #[.slice A0 l0.length c0] rfl (by (try simp only [List.map_toArray, List.map_cons, List.map_nil]); first | done | rfl | (simp only [List.length_drop, List.length_take]; rfl)) ?_; (with_reducible refine (laws_toByteS.calls k _ _ l0 t131 _ ?side1 ?side2 A8.out).mono ?_); (case side1 => repeat (first | exact (Kd.C_below HR0.out HB.out) | (with_reducible refine Kd.C_alloc ?_ _) | (with_reducible refine Kd.C_drewN ?_ _) | (with_reducible refine Kd.C_drew ?_))); (case side2 => exact HC0.out); rintro e w17 ⟨v132, rfl, ho0, hb⟩; refine ⟨_, rfl, ?_⟩; have n0_ := Aside0.mk (Kd.R_elder' (by (with_reducible repeat (first | apply Kd.R_alloc | apply Kd.R_drewN | apply Kd.R_drew)); exact HO125.out) (Kd.R_base ho0) hb); have n1_ := Aside0.mk (Kd.R_elder' (by (with_reducible repeat (first | apply Kd.R_alloc | apply Kd.R_drewN | apply Kd.R_drew)); exact HO129.out) (Kd.R_base ho0) hb); have n2_ := Aside0.mk (Kd.R_lower (Kd.R_new' (Kd.R_new' ho0 (Kd.R_lt (by (with_reducible repeat (first | apply Kd.R_alloc | apply Kd.R_drewN | apply Kd.R_drew)); exact HO125.out))) (Kd.R_lt (by (with_reducible repeat (first | apply Kd.R_alloc | apply Kd.R_drewN | apply Kd.R_drew)); exact HO129.out))) (below_size (by repeat (first | (with_reducible first | exact HB.out | apply below_alloc | apply pw_below_drewN | apply below_drew1) | exact HB.out)))); have n3_ := Aside0.mk (below_step (by repeat (first | (with_reducible first | exact HB.out | apply below_alloc | apply pw_below_drewN | apply below_drew1) | exact HB.out)) hb); clear HO125; clear HO129; clear HB; have HO125 := n0_; have HO129 := n1_; have HO133 := n2_; have HB := n3_; clear n0_ n1_ n2_ n3_; (try clear hb); (try clear hb2); (try clear hk); (try clear hi); (try clear ho0); obtain ⟨Ao18, co18, eo18⟩ := Kd.R_slice HO133.out; subst eo18) | ((with_reducible refine gate_callee (f := 12) rfl ?_); refine goesL_ (some 22) rfl rfl Tryd.func12 (by kernel_rfl) rfl #[.slice Ao15 t127.length co15, .slice Ao18 t131.length co18] rfl (by (try simp only [List.map_toArray, List.map_cons, List.map_nil]); first | done | rfl | (simp only [List.length_drop, List.length_take]; rfl)) ?_; (with_reducible refine (laws_eqByteS.calls k _ _ t127 _ _ t131 true _ ?side1 ?side2 ?side3 ?side4 A9.out).mono ?_); (case side1 => repeat (first | exact (Kd.R_reads' HO129.out).2.2 | (with_reducible refine Kd.C_alloc ?_ _) | (with_reducible refine Kd.C_drewN ?_ _) | (with_reducible refine Kd.C_drew ?_))); (case side2 => exact (Kd.R_reads' HO129.out).2.1); (case side3 => repeat (first | exact (Kd.R_reads' HO133.out).2.2 | (with_reducible refine Kd.C_alloc ?_ _) | (with_reducible refine Kd.C_drewN ?_ _) | (with_reducible refine Kd.C_drew ?_))); (case side4 => exact (Kd.R_reads' HO133.out).2.1); rintro e w' ⟨rfl, ⟨nd, rfl⟩⟩; refine ⟨_, rfl, ?_⟩))
        go_ret
        exact ⟨by first | rfl | (simp [errW_none, errW_some] <;> rfl) | (simp [*, errW_none, errW_some] <;> rfl), by repeat (first | (with_reducible first | exact HB.out | apply below_alloc | apply pw_below_drewN | apply below_drew1) | exact HB.out)⟩
      · replace c10 := Bool.eq_false_iff.mpr c10
        subst c10
        have H1 : (some false) = some true := by first | rfl | (rw [if_neg (show ¬ (false = true) by decide)] at H; exact H)
        clear H
        have H := H1
        clear H1
        exact absurd H (by simp)
end Go.Proofs.YtbgbocdohadhoaaDoor.Print
namespace Go.Proofs.YtbgbocdohadhoaaDoor.Print
open Go Go.RowKit Go.Proofs.YtbgbocdohadhoaaDoorW.PrintWords Go.Proofs.YtbgbocdohadhoaaDoorW.PrintLast Go.Proofs.YtbgbocdohadhoaaDoorW.PrintMore
set_option linter.unusedVariables false
set_option linter.unusedSimpArgs false
theorem pure_validPath (l : List Int) (hr : ∀ x ∈ l, 0 ≤ x ∧ x < 256) : laws_FnExactValidPath.f 10000000 l = some true := by
  unfold laws_FnExactValidPath.f
  by_cases h : (l.length : Int) > 1048576
  · rw [if_pos h]
  · rw [if_neg h, toByteS_f l (by omega) _ (by omega), Option.bind_some, validPath_f l (by omega) _ (by omega), Option.bind_some]
    unfold impl_ValidPath.f
    rw [Option.bind_some, if_pos (bytesB_iff.2 hr), Option.bind_some, if_neg (by simp), Option.bind_some, eqByteS_self l (by omega) _ (by omega), Option.bind_some, if_pos rfl]
end Go.Proofs.YtbgbocdohadhoaaDoor.Print
namespace Go.Proofs.YtbgbocdohadhoaaDoor.fnExactValidPath
open Go.ChangeShapes Go.WideShapes Go.ChangeAt Go.RowKit Print
open Go.ChangeMaps (open_string shut_string)
open Go.Proofs.YtbgbocdohadhoaaDoorW.PrintWords Go.Proofs.YtbgbocdohadhoaaDoorW.PrintLast Go.Proofs.YtbgbocdohadhoaaDoorW.PrintMore
set_option linter.unusedVariables false
theorem own : ownKnob Tryd.prog.godebug = none := by kernel_rfl
theorem laidOut : laidOutB Tryd.prog = true := by kernel_rfl
set_option maxRecDepth 100000 in
theorem lifted (os : Os) (started : os.Started) (H : Type) (enc : TypeId × Value → H) :
    ReturnsInHanded {} Tryd.checked os 3 .any (fun w args => (Rows.fnExactValidPathSpec.pre enc Tryd.prog Tryd.f3 Rows.fnExactValidPathRow.domain false w args ∧ laidMetH Tryd.prog Rows.fnExactValidPathRow.laid w) ∧ sizedMet enc Tryd.prog Tryd.f3 (OpenSpec.ofChange Rows.fnExactValidPathSpec) false w args) (Rows.fnExactValidPathSpec.post enc Tryd.prog Tryd.f3 false true false false) := by
  refine returnsInHanded_of_change_and (C := Tryd.checked) (X := fun w _ => laidMetH Tryd.prog Rows.fnExactValidPathRow.laid w) (fun _ _ _ hh h => h.of_heap hh) own started (by kernel_rfl) Tryd.func3
    (ChangeSpec.witness_shaped (enc := enc) (C := Tryd.checked) (os := os) (X := fun w _ => laidMetH Tryd.prog Rows.fnExactValidPathRow.laid w) false (World.laidAll Tryd.prog os Rows.fnExactValidPathRow.laid) #[.slice none 0 0] 8 (World.laidAll_os _ _ _)
      (World.shaped_of_ZipB (by kernel_rfl) (by kernel_rfl)) (by kernel_rfl) (by kernel_rfl) (by kernel_rfl)
      (by rw [MakeChecks.laidMetH_plain _ _ _ (by kernel_rfl)]; exact laidMet_laidAll _ (by kernel_rfl) (by kernel_rfl))) ?_
  intro W base args ds gs before hval0 hW hcnd hsz0 hL _
  have hsz : (DataW.weightsEach Tryd.prog (Tryd.f3.params.toList ++ Rows.fnExactValidPathSpec.plain.varTypes Tryd.prog) (ds ++ gs)).all (· ≤ reachBytes) = true := hsz0
  have hval : ∀ (j : Nat) t v, Tryd.f3.params[j]? = some t → args[j]? = some v → Value.okWide Tryd.prog W .any base t v := hval0
  have hW' := hW
  obtain ⟨p, q, hA0, hV, rfl, hfz, hnd⟩ := hW
  have hA : DataW.TrodAll enc Tryd.prog W 0 (fun _ => true) true Tryd.f3.params.toList args.toList ds p := hA0
  rw [Tryd.params3] at hA hval hsz
  obtain ⟨v0, vs0, d0, ds0, p0, q0, hargs, rfl, rfl, h0, r0⟩ := trodAll_cons hA
  obtain ⟨rfl, rfl, rfl⟩ := trodAll_nil r0
  obtain rfl : args = #[v0] := by cases args; simp_all
  obtain ⟨rfl, rfl⟩ := trodVars_none hV
  have k0 := h0
  have lt0 : ∀ x ∈ p0, x.block < W.heap.size := by obtain ⟨m, hm⟩ := k0; exact DataW.trod_lt m _ _ _ hm
  obtain ⟨A0, c0, l0, rfl, hd0, hc0, g0, w0⟩ := bytes_open hsz (j := 0) rfl rfl (hval 0 22 v0 rfl rfl) h0
  clear hA0 hval0 hsz0 hsz
  refine (laws_FnExactValidPath.calls 10000000 A0 c0 l0 W hd0 hc0 (pure_validPath l0 (byte_range w0))).mono fun e W' ⟨he, bel⟩ => ?_
  subst he
  exact ⟨_, rfl, _, _, _, [], _, [], hW', trodAll_mk1 (shut_bool Tryd.underlying4 _), (trodAll_cons_mk (Below.trod laidOut (by kernel_rfl) (of_decide_eq_true (by kernel_rfl)) k0 bel lt0) trodAll_mk0), rfl, bel.frame _, fun h => by cases h⟩
theorem over : Rows.fnExactValidPathRow.holds Tryd.pinned (OpenSpec.ofChange Rows.fnExactValidPathSpec) :=
  OpenClaim.holds_of_wide 3 Tryd.f3 rfl rfl rfl rfl rfl rfl rfl ⟨rfl, rfl, rfl, rfl, rfl⟩ rfl rfl rfl rfl rfl (by kernel_rfl) Tryd.func3 (by kernel_rfl)
    (of_decide_eq_true (by kernel_rfl)) (by unfold Func.isWrapper; first | (rw [if_pos (by decide +kernel)]; kernel_rfl) | (rw [if_neg (by decide +kernel)]; exact ⟨rfl, rfl⟩))
    (fun os started H enc _ => lifted os started H enc)
theorem card : Rows.FnExactValidPathCardSaid :=
  Claim7.holds_tied_plain_at .later [] [.data, .pinned] true (true, "315b13090ccdb0a690506cc700d9df368a48c098d999642fff85f69f6bfec662") true over (fun _ h => by cases h) (by kernel_rfl) (fun _ h => by cases h) fnExactValidPath_row_tie rfl ⟨rfl, rfl⟩ (by kernel_rfl) rfl
    (fun f fn hf hfn => by
      obtain rfl : f = 3 := Option.some.inj ((show Tryd.prog.funcNamed "loop.example/s02132/laws.FnExactValidPath" = some 3 by kernel_rfl).symm.trans hf) |>.symm
      obtain rfl : fn = Tryd.f3 := (Option.some.inj (Tryd.func3.symm.trans hfn)).symm
      exact ⟨by kernel_rfl, fun j t ht => by
        rw [Tryd.params3] at ht
        have hm : t ∈ [22] := by simpa using Array.mem_of_getElem? ht
        have hall : ([22].all fun u => !Tryd.prog.wantsStandIn u) = true := by kernel_rfl
        exact (show Tryd.prog.wantsStandIn t = false by simpa using List.all_eq_true.1 hall t hm)⟩)
    (by kernel_rfl)
end Go.Proofs.YtbgbocdohadhoaaDoor.fnExactValidPath
namespace Go.Proofs.YtbgbocdohadhoaaDoor
theorem fnExactValidPath_holds : Rows.FnExactValidPathCardSaid := fnExactValidPath.card
end Go.Proofs.YtbgbocdohadhoaaDoor
