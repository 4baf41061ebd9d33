/- The program's Checksum answers as the reference's for every list of at most 1048576 bytes, and its argument is unchanged: the law answers true for every argument. No condition. -/
import Derived.Test.YtloeobcedhnmfaaPFnExactChecksumx1
import Derived.Laws.BitsAllLaws
namespace Go.Proofs.Ytloeobcedhnmfaa.Pure
open Go.RowKit Go.Proofs.Ytloeobcedhnmfaa.PFnExactChecksum Go.Proofs.YtloeobcedhnmfaaW.PrintWords Go.Proofs.YtloeobcedhnmfaaW.PrintLast

theorem wrap_up (i : Nat) (h : i ≤ 140737488355328) : wrap64 ((i : Int) + 1) = ((i + 1 : Nat) : Int) := by
  unfold wrap64; omega

theorem rd_nat (l : List Int) (i : Nat) : rd l (i : Int) = l.getD i 0 := by
  unfold rd; rw [Int.toNat_natCast]

theorem toByteS_loop (l : List Int) (hl : l.length ≤ 140737488351232) (d : Nat) : ∀ (k i : Nat) (x : List Int), x.length = l.length → i + d = l.length → d < k →
    (∀ j, j < i → x[j]? = l[j]?) → laws_toByteS.l0 k l x (i : Int) = some l := by
  induction d with
  | zero =>
    intro k i x hx hi hk hj
    obtain ⟨k, rfl⟩ : ∃ m, k = m + 1 := ⟨k - 1, by omega⟩
    simp only [laws_toByteS.l0]
    rw [if_neg (by omega)]
    congr 1
    apply List.ext_getElem?
    intro j
    rcases Nat.lt_or_ge j i with h | h
    · exact hj j h
    · rw [List.getElem?_eq_none (by omega), List.getElem?_eq_none (by omega)]
  | succ d ih =>
    intro k i x hx hi hk hj
    obtain ⟨k, rfl⟩ : ∃ m, k = m + 1 := ⟨k - 1, by omega⟩
    simp only [laws_toByteS.l0]
    rw [if_pos (by omega), if_pos (by omega), if_pos (by omega), wrap_up i (by omega)]
    refine ih k (i + 1) _ (by rw [List.length_set]; exact hx) (by omega) (by omega) ?_
    intro j h
    rw [Int.toNat_natCast, List.getElem?_set]
    by_cases e : i = j
    · subst e
      rw [if_pos rfl, if_pos (by omega), rd_nat, List.getD_eq_getElem?_getD, List.getElem?_eq_getElem (by omega)]
      rfl
    · rw [if_neg e]
      exact hj j (by omega)

theorem toByteS_f (l : List Int) (hl : l.length ≤ 140737488351232) (k : Nat) (hk : l.length < k) : laws_toByteS.f k l = some l := by
  unfold laws_toByteS.f
  rw [if_pos (by omega), if_pos (by omega)]
  exact toByteS_loop l hl l.length k 0 _ (by rw [List.length_replicate]; omega) (by omega) hk (fun j h => absurd h (by omega))

theorem eqByteS_loop (l : List Int) (hl : l.length ≤ 140737488351232) (d : Nat) : ∀ (k i : Nat), i + d = l.length → d < k → laws_eqByteS.l0 k l l (i : Int) = some true := by
  induction d with
  | zero =>
    intro k i hi hk
    obtain ⟨k, rfl⟩ : ∃ m, k = m + 1 := ⟨k - 1, by omega⟩
    simp only [laws_eqByteS.l0]
    rw [if_neg (by omega)]
  | succ d ih =>
    intro k i hi hk
    obtain ⟨k, rfl⟩ : ∃ m, k = m + 1 := ⟨k - 1, by omega⟩
    simp only [laws_eqByteS.l0]
    rw [if_pos (by omega), if_pos (by omega), if_pos (by omega), if_pos trivial, wrap_up i (by omega)]
    exact ih k (i + 1) (by omega) (by omega)

theorem eqByteS_self (l : List Int) (hl : l.length ≤ 140737488351232) (k : Nat) (hk : l.length < k) : laws_eqByteS.f k l l = some true := by
  unfold laws_eqByteS.f
  rw [if_pos rfl]
  exact eqByteS_loop l hl l.length k 0 (by omega) hk

/-- One step of the sum, as both sides make it. -/
theorem step_same (h b : Int) (h0 : 0 ≤ h) (h1 : h < 4294967296) (b0 : 0 ≤ b) (b1 : b < 256) :
    Int.tmod (IntKind.u64.wrap ((Go.bits .xor .u64 h (IntKind.u64.wrap b)) * 16777619)) 4294967296 = ((Go.bits .xor .u32 h (b % 4294967296)) * 16777619) % 4294967296 := by
  have e1 : IntKind.u64.wrap b = b := by simp [IntKind.wrap, IntKind.bits, IntKind.signed]; omega
  have e2 : b % 4294967296 = b := by omega
  rw [e1, e2, u64_xor h b h0 (by omega) b0 (by omega), u32_xor h b h0 (by omega) b0 (by omega)]
  have hx : h.toNat ^^^ b.toNat < 2 ^ 32 := Nat.xor_lt_two_pow (by omega) (by omega)
  generalize h.toNat ^^^ b.toNat = x at *
  have e3 : IntKind.u64.wrap ((x : Int) * 16777619) = (x : Int) * 16777619 := by simp [IntKind.wrap, IntKind.bits, IntKind.signed]; omega
  rw [e3, Int.tmod_eq_emod_of_nonneg (by omega)]

theorem step_range (h b : Int) : 0 ≤ ((Go.bits .xor .u32 h (b % 4294967296)) * 16777619) % 4294967296 ∧ ((Go.bits .xor .u32 h (b % 4294967296)) * 16777619) % 4294967296 < 4294967296 :=
  ⟨Int.emod_nonneg _ (by decide), Int.emod_lt_of_pos _ (by decide)⟩

theorem sum_loop (l : List Int) (hl : l.length ≤ 140737488351232) (hb : ∀ x ∈ l, 0 ≤ x ∧ x < 256) (d : Nat) : ∀ (k i : Nat) (h : Int), i + d = l.length → d < k → 0 ≤ h → h < 4294967296 →
    ∃ r, spec_Checksum.l0 k l h (i : Int) = some r ∧ impl_Checksum.l0 k h l (l.length : Int) (i : Int) = some r := by
  induction d with
  | zero =>
    intro k i h hi hk h0 h1
    obtain ⟨k, rfl⟩ : ∃ m, k = m + 1 := ⟨k - 1, by omega⟩
    refine ⟨h, ?_, ?_⟩
    · simp only [spec_Checksum.l0]
      rw [if_neg (by omega)]
      congr 1
      omega
    · simp only [impl_Checksum.l0]
      rw [if_neg (by omega)]
  | succ d ih =>
    intro k i h hi hk h0 h1
    obtain ⟨k, rfl⟩ : ∃ m, k = m + 1 := ⟨k - 1, by omega⟩
    have hm : l.getD i 0 ∈ l := by
      rw [List.getD_eq_getElem?_getD, List.getElem?_eq_getElem (by omega)]
      exact List.getElem_mem _
    obtain ⟨b0, b1⟩ := hb _ hm
    obtain ⟨r0, r1⟩ := step_range h (l.getD i 0)
    obtain ⟨r, e1, e2⟩ := ih k (i + 1) _ (by omega) (by omega) r0 r1
    refine ⟨r, ?_, ?_⟩
    · simp only [spec_Checksum.l0]
      rw [if_pos (by omega), if_pos (by omega), wrap_up i (by omega), rd_nat, step_same h _ h0 h1 b0 b1]
      exact e1
    · simp only [impl_Checksum.l0]
      rw [if_pos (by omega), if_pos (by omega), if_pos (by omega), wrap_up i (by omega), rd_nat]
      exact e2

theorem FnExactChecksum : laws_FnExactChecksum.Pure := by
  intro l hm hs hw
  by_cases hc : (l.length : Int) > 1048576
  · exact ⟨0, by unfold laws_FnExactChecksum.f; rw [if_pos hc]⟩
  have hl : l.length ≤ 140737488351232 := by omega
  have hb : ∀ x ∈ l, 0 ≤ x ∧ x < 256 := by
    intro x hx
    have := hw x hx
    simp [Lit.wf, IntKind.min, IntKind.max, IntKind.bits, IntKind.signed] at this
    omega
  obtain ⟨r, e1, e2⟩ := sum_loop l hl hb l.length (l.length + 1) 0 2166136261 (by omega) (by omega) (by omega) (by omega)
  refine ⟨l.length + 1, ?_⟩
  unfold laws_FnExactChecksum.f spec_Checksum.f impl_Checksum.f
  rw [if_neg hc, toByteS_f l hl _ (by omega)]
  simp only [Option.bind_some]
  have e1' : spec_Checksum.l0 (l.length + 1) l 2166136261 0 = some r := e1
  have e2' : impl_Checksum.l0 (l.length + 1) 2166136261 l (l.length : Int) 0 = some r := e2
  rw [e1']
  simp only [Option.bind_some]
  rw [e2']
  simp only [Option.bind_some]
  rw [if_pos trivial, eqByteS_self l hl _ (by omega)]
  rfl

end Go.Proofs.Ytloeobcedhnmfaa.Pure
