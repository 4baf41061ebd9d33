/- The plain part of the law on EncodeSnapshot. -/
import Derived.Test.YtbapokpkgonjkaaHPureSum
import Derived.Test.YtbapokpkgonjkaaFlawsFnExactEncodeSnapshot
namespace Go.Proofs.Ytbapokpkgonjkaa.Print
open Go.RowKit Go.Proofs.YtbapokpkgonjkaaW.PrintWords Go.Proofs.YtbapokpkgonjkaaW.PrintLast Go.Proofs.YtbapokpkgonjkaaW.PrintMore
set_option linter.unusedVariables false
set_option linter.unusedSimpArgs false
/-- A snapshot's bytes. -/
def snapB (a : Int) (l : List Int) : List Int := ([76, 72, 83, 49] ++ leB a 8 ++ leB (l.length : Int) 4 ++ l) ++ leB (sumB ([76, 72, 83, 49] ++ leB a 8 ++ leB (l.length : Int) 4 ++ l)) 4
theorem snapB_length (a : Int) (l : List Int) : (snapB a l).length = l.length + 20 := by simp [snapB, leB_length]; omega
theorem snap_range (a : Int) (l : List Int) (hb : ∀ x ∈ l, 0 ≤ x ∧ x < 256) : ∀ x ∈ [76, 72, 83, 49] ++ leB a 8 ++ leB (l.length : Int) 4 ++ l, 0 ≤ x ∧ x < 256 := by
  intro x hx
  simp only [List.mem_append] at hx
  rcases hx with ((hx | hx) | hx) | hx
  · simp at hx; omega
  · exact leB_range _ _ x hx
  · exact leB_range _ _ x hx
  · exact hb x hx
theorem spec_snap_f (a : Int) (l : List Int) (ha : 0 ≤ a) (ha1 : a < 18446744073709551616) (hl : l.length ≤ 140737488350000) (hb : ∀ x ∈ l, 0 ≤ x ∧ x < 256) (k : Nat) (hk : l.length + 100 < k) : spec_EncodeSnapshot.f k a l = some (snapB a l) := by
  unfold spec_EncodeSnapshot.f
  simp only [Option.bind_some]
  rw [show spec_l2little.f k a 8 = some (leB a 8) from little_f 8 k a (by omega) ha ha1 (by omega)]
  simp only [Option.bind_some]
  rw [if_pos (by simp [leB_length]), u64_of _ (by omega) (by omega), show spec_l2little.f k (l.length : Int) 4 = some (leB (l.length : Int) 4) from little_f 4 k _ (by omega) (by omega) (by omega) (by omega)]
  simp only [Option.bind_some]
  rw [if_pos (by simp [leB_length]), if_pos (by simp [leB_length]; omega), spec_summed_f _ (by simp [leB_length]; omega) (snap_range a l hb) k (by simp [leB_length]; omega)]
  rfl
theorem impl_snap_f (a : Int) (l : List Int) (ha : 0 ≤ a) (ha1 : a < 18446744073709551616) (hl : l.length ≤ 140737488350000) (hb : ∀ x ∈ l, 0 ≤ x ∧ x < 256) (k : Nat) (hk : l.length + 100 < k) : impl_EncodeSnapshot.f k a l = some (snapB a l) := by
  unfold impl_EncodeSnapshot.f impl_lowFirst.f
  rw [if_pos (by omega), Option.bind_some, if_pos (by omega), Option.bind_some, u64_of _ (by omega) (by omega)]
  have e : ([([76, 72, 83, 49] : List Int), leB a (8 : Int).toNat, leB (l.length : Int) (4 : Int).toNat, l] : List (List Int)).flatten = [76, 72, 83, 49] ++ leB a 8 ++ leB (l.length : Int) 4 ++ l := by simp
  rw [impl_summed_f _ (by rw [e]; simp [leB_length]; omega) (by rw [e]; exact snap_range a l hb) k (by rw [e]; simp [leB_length]; omega), e]
  rfl
theorem EncodeSnapshot_pure : laws_FnExactEncodeSnapshot.Pure := by
  intro a l ha hm hs hw
  by_cases hc : (l.length : Int) > 1048576
  · exact ⟨0, by unfold laws_FnExactEncodeSnapshot.f; rw [if_pos hc]⟩
  have hb : ∀ x ∈ l, 0 ≤ x ∧ x < 256 := by
    intro x hx
    have := hw x hx
    simp [Lit.wf, IntKind.min, IntKind.max, IntKind.bits, IntKind.signed] at this
    omega
  have ha' : 0 ≤ a ∧ a < 18446744073709551616 := by
    simp [Lit.wf, IntKind.min, IntKind.max, IntKind.bits, IntKind.signed] at ha
    omega
  refine ⟨3000000, ?_⟩
  have s1 := spec_snap_f a l ha'.1 ha'.2 (by omega) hb 3000000 (by omega)
  have i1 := impl_snap_f a l ha'.1 ha'.2 (by omega) hb 3000000 (by omega)
  have hn := snapB_length a l
  have t1 := toByteS_f l (by omega) 3000000 (by omega)
  have q1 := eqByteS_self (snapB a l) (by omega) 3000000 (by omega)
  have q2 := eqByteS_self l (by omega) 3000000 (by omega)
  have m1 : laws_markByteS.f 3000000 l 1 = some (((1 + l.length : Nat) : Int), marksB l.length 1) := markByteS_f l 1 (by omega) 3000000 (by omega)
  have m2 : laws_markByteS.f 3000000 (snapB a l) 1 = some (((1 + (snapB a l).length : Nat) : Int), marksB (snapB a l).length 1) := markByteS_f _ 1 (by omega) 3000000 (by omega)
  have h2 : laws_heldByteS.f 3000000 (marksB (snapB a l).length 1) 1 = some (((1 + (snapB a l).length : Nat) : Int)) := heldByteS_f _ 1 (by omega) 3000000 (by omega)
  unfold laws_FnExactEncodeSnapshot.f
  rw [if_neg hc]
  simp only [t1, s1, i1, q1, q2, m1, m2, h2, Option.bind_some, if_true]
  repeat first
    | rfl
    | rw [if_neg (by omega)]
theorem rowEncodeSnapshot (a : Int) (A : Option Addr) (c : Nat) (l : List Int) (w : World) (ha : (Lit.int .u64 a).wf = true) (hr : Kd.C (Kd.int .u8) w A l.length l) (hc : l.length ≤ c) (hl : l.length ≤ 140737488351232) (hw : ∀ n ∈ l, (Lit.int .u8 n).wf = true) :
    Calls Try.prog 4 #[.int .u64 a, .slice A l.length c] w fun e w' => e = .returned (.bool true) ∧ Below w.heap.size w w' := by
  obtain ⟨k, h⟩ := EncodeSnapshot_pure a l ha (by simp [maxLen]; omega) (by omega) hw
  exact laws_FnExactEncodeSnapshot.calls k a A c l w hr hc h
end Go.Proofs.Ytbapokpkgonjkaa.Print
