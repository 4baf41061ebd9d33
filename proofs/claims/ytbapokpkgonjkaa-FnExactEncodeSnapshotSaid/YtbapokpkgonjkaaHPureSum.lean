/- Sums and little-endian rows: the program's and the reference's are the same. -/
import Derived.Test.YtbapokpkgonjkaaHPureBytes
import Derived.Test.YtbapokpkgonjkaaHLow
import Derived.Test.YtbapokpkgonjkaaHConcat
import Derived.Test.YtbapokpkgonjkaaFspecl2summed
import Derived.Test.YtbapokpkgonjkaaFimplsummed
import Derived.Laws.BitsAllLaws
namespace Go.Proofs.Ytbapokpkgonjkaa.Print
open Go.RowKit Go.Proofs.YtbapokpkgonjkaaW.PrintWords Go.Proofs.YtbapokpkgonjkaaW.PrintLast Go.Proofs.YtbapokpkgonjkaaW.PrintMore
set_option linter.unusedVariables false
set_option linter.unusedSimpArgs false

/-- One step of the sum, as both sides make it. -/
theorem step_same (h b : Int) (h0 : 0 ≤ h) (h1 : h < 4294967296) (b0 : 0 ≤ b) (b1 : b < 256) :
    Int.tmod (IntKind.u64.wrap ((Go.bits .xor .u64 h (IntKind.u64.wrap b)) * 16777619)) 4294967296 = ((Go.bits .xor .u32 h (b % 4294967296)) * 16777619) % 4294967296 := by
  have e1 : IntKind.u64.wrap b = b := by simp [IntKind.wrap, IntKind.bits, IntKind.signed]; omega
  have e2 : b % 4294967296 = b := by omega
  rw [e1, e2, u64_xor h b h0 (by omega) b0 (by omega), u32_xor h b h0 (by omega) b0 (by omega)]
  have hx : h.toNat ^^^ b.toNat < 2 ^ 32 := Nat.xor_lt_two_pow (by omega) (by omega)
  generalize h.toNat ^^^ b.toNat = x at *
  have e3 : IntKind.u64.wrap ((x : Int) * 16777619) = (x : Int) * 16777619 := by simp [IntKind.wrap, IntKind.bits, IntKind.signed]; omega
  rw [e3, Int.tmod_eq_emod_of_nonneg (by omega)]

theorem step_range (h b : Int) : 0 ≤ ((Go.bits .xor .u32 h (b % 4294967296)) * 16777619) % 4294967296 ∧ ((Go.bits .xor .u32 h (b % 4294967296)) * 16777619) % 4294967296 < 4294967296 :=
  ⟨Int.emod_nonneg _ (by decide), Int.emod_lt_of_pos _ (by decide)⟩

theorem sum_loop (l : List Int) (hl : l.length ≤ 140737488351232) (hb : ∀ x ∈ l, 0 ≤ x ∧ x < 256) (d : Nat) : ∀ (k i : Nat) (h : Int), i + d = l.length → d < k → 0 ≤ h → h < 4294967296 →
    ∃ r, spec_Checksum.l0 k l h (i : Int) = some r ∧ impl_Checksum.l0 k h l (l.length : Int) (i : Int) = some r ∧ 0 ≤ r ∧ r < 4294967296 := by
  induction d with
  | zero =>
    intro k i h hi hk h0 h1
    obtain ⟨k, rfl⟩ : ∃ m, k = m + 1 := ⟨k - 1, by omega⟩
    refine ⟨h, ?_, ?_, h0, h1⟩
    · simp only [spec_Checksum.l0]
      rw [if_neg (by omega)]
      congr 1
      omega
    · simp only [impl_Checksum.l0]
      rw [if_neg (by omega)]
  | succ d ih =>
    intro k i h hi hk h0 h1
    obtain ⟨k, rfl⟩ : ∃ m, k = m + 1 := ⟨k - 1, by omega⟩
    have hm : l.getD i 0 ∈ l := by
      rw [List.getD_eq_getElem?_getD, List.getElem?_eq_getElem (by omega)]
      exact List.getElem_mem _
    obtain ⟨b0, b1⟩ := hb _ hm
    obtain ⟨r0, r1⟩ := step_range h (l.getD i 0)
    obtain ⟨r, e1, e2, e3⟩ := ih k (i + 1) _ (by omega) (by omega) r0 r1
    refine ⟨r, ?_, ?_, e3⟩
    · simp only [spec_Checksum.l0]
      rw [if_pos (by omega), if_pos (by omega), wrap_up i (by omega), rd_nat, step_same h _ h0 h1 b0 b1]
      exact e1
    · simp only [impl_Checksum.l0]
      rw [if_pos (by omega), if_pos (by omega), if_pos (by omega), wrap_up i (by omega), rd_nat]
      exact e2


/-- The sum of a row of bytes. -/
def sumB (l : List Int) : Int := (impl_Checksum.f (l.length + 1) l).getD 0
theorem sum_f (l : List Int) (hl : l.length ≤ 140737488351232) (hb : ∀ x ∈ l, 0 ≤ x ∧ x < 256) (k : Nat) (hk : l.length < k) : spec_Checksum.f k l = some (sumB l) ∧ impl_Checksum.f k l = some (sumB l) ∧ 0 ≤ sumB l ∧ sumB l < 4294967296 := by
  obtain ⟨r, e1, e2, e3⟩ := sum_loop l hl hb l.length k 0 2166136261 (by omega) hk (by omega) (by omega)
  obtain ⟨r', _, e2', _⟩ := sum_loop l hl hb l.length (l.length + 1) 0 2166136261 (by omega) (by omega) (by omega) (by omega)
  have hr : r = r' := by
    obtain ⟨d, rfl⟩ : ∃ d, k = l.length + 1 + d := ⟨k - (l.length + 1), by omega⟩
    have : ∀ d, impl_Checksum.l0 (l.length + 1 + d) 2166136261 l (l.length : Int) 0 = some r' := by
      intro d
      induction d with
      | zero => exact e2'
      | succ d ih => exact impl_Checksum.mono_l (l.length + 1 + d) _ _ _ _ _ ih
    have h := this d
    have e2b : impl_Checksum.l0 (l.length + 1 + d) 2166136261 l (l.length : Int) 0 = some r := e2
    rw [h] at e2b
    exact (Option.some.inj e2b).symm
  subst hr
  have hs : sumB l = r := by
    unfold sumB impl_Checksum.f
    have : impl_Checksum.l0 (l.length + 1) 2166136261 l (l.length : Int) 0 = some r := e2'
    rw [this]
    rfl
  rw [hs]
  exact ⟨e1, e2, e3⟩

theorem leB_cons (v : Int) (n : Nat) (hv : 0 ≤ v) : leB v (n + 1) = v % 256 :: leB (v / 256) n := by
  unfold leB
  rw [List.range_succ_eq_map, List.map_cons, List.map_map]
  congr 1
  · simp
  · apply List.map_congr_left
    intro i _
    simp only [Function.comp]
    rw [show 8 * (i + 1) = 8 + 8 * i by omega, Int.pow_add, ← Int.ediv_ediv_of_nonneg (by decide)]
    rfl
theorem little_f (n : Nat) : ∀ (k : Nat) (v : Int), n ≤ 8 → 0 ≤ v → v < 18446744073709551616 → n < k → spec_l2little.f k v (n : Int) = some (leB v n) := by
  induction n with
  | zero =>
    intro k v _ _ _ hk
    obtain ⟨k, rfl⟩ : ∃ m, k = m + 1 := ⟨k - 1, by omega⟩
    simp only [spec_l2little.f]
    rw [if_pos (by omega)]
    simp [leB]
  | succ n ih =>
    intro k v hn h0 h1 hk
    obtain ⟨k, rfl⟩ : ∃ m, k = m + 1 := ⟨k - 1, by omega⟩
    simp only [spec_l2little.f]
    rw [if_neg (by omega)]
    have e1 : IntKind.u64.wrap (Int.tdiv v 256) = v / 256 := by
      rw [Int.tdiv_eq_ediv_of_nonneg h0]
      simp [IntKind.wrap, IntKind.bits, IntKind.signed]
      omega
    have e2 : wrap64 (((n + 1 : Nat) : Int) - 1) = (n : Int) := by unfold wrap64; omega
    rw [e1, e2, ih k (v / 256) (by omega) (by omega) (by omega) (by omega)]
    simp only [Option.bind_some]
    rw [if_pos (by simp [leB_length]; omega), leB_cons v n h0]
    congr 2
    rw [Int.tmod_eq_emod_of_nonneg h0]
    simp
theorem leB_range (v : Int) (n : Nat) : ∀ x ∈ leB v n, 0 ≤ x ∧ x < 256 := by
  intro x hx
  simp only [leB, List.mem_map] at hx
  obtain ⟨i, _, rfl⟩ := hx
  exact ⟨Int.emod_nonneg _ (by decide), Int.emod_lt_of_pos _ (by decide)⟩
theorem u64_of (v : Int) (h0 : 0 ≤ v) (h1 : v < 18446744073709551616) : IntKind.u64.wrap v = v := by
  simp [IntKind.wrap, IntKind.bits, IntKind.signed]
  omega
theorem spec_summed_f (l : List Int) (hl : l.length ≤ 140737488351000) (hb : ∀ x ∈ l, 0 ≤ x ∧ x < 256) (k : Nat) (hk : l.length + 10 < k) : spec_l2summed.f k l = some (l ++ leB (sumB l) 4) := by
  unfold spec_l2summed.f spec_l1copy.f
  obtain ⟨e1, _, e2, e3⟩ := sum_f l (by omega) hb k (by omega)
  rw [if_pos (by simp; omega), Option.bind_some, e1, Option.bind_some, u64_of _ e2 (by omega), show spec_l2little.f k (sumB l) 4 = some (leB (sumB l) 4) from little_f 4 k _ (by omega) e2 (by omega) (by omega), Option.bind_some, if_pos (by simp [leB_length]; omega)]
  simp
theorem impl_summed_f (ls : List (List Int)) (hl : ls.flatten.length ≤ 140737488351000) (hb : ∀ x ∈ ls.flatten, 0 ≤ x ∧ x < 256) (k : Nat) (hk : ls.flatten.length + 10 < k) : impl_summed.f k ls = some (ls.flatten ++ leB (sumB ls.flatten) 4) := by
  unfold impl_summed.f slices_Concat_byte_byte.f
  have hs : sumLen ls = ls.flatten.length := by simp [sumLen, List.length_flatten]
  obtain ⟨_, e1, e2, e3⟩ := sum_f ls.flatten (by omega) hb k (by omega)
  rw [if_pos (by omega), Option.bind_some, e1, Option.bind_some, u64_of _ e2 (by omega), impl_lowFirst.f, if_pos (by omega), Option.bind_some]
  rw [if_pos (by simp only [leB_length]; omega)]
  rfl
end Go.Proofs.Ytbapokpkgonjkaa.Print
