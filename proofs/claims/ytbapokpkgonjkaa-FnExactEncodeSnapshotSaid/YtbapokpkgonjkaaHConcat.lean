/- slices.Concat at []byte: the answer is new memory that holds the bytes of all parts, one part behind the other. Condition: fewer than 2^47 bytes in all. -/
import Derived.Test.YtbapokpkgonjkaaPrint0
namespace Go.Proofs.Ytbapokpkgonjkaa.Print
open Go.RowKit Go.Proofs.YtbapokpkgonjkaaW.PrintWords Go.Proofs.YtbapokpkgonjkaaW.PrintLast Go.Proofs.YtbapokpkgonjkaaW.PrintMore
set_option linter.unusedVariables false
set_option linter.unusedSimpArgs false

set_option maxHeartbeats 400000 in
set_option maxRecDepth 100000 in
/-- slices.Grow of nil: an empty row with room. -/
theorem grow_nil (n : Int) (w : World) (h0 : 0 ≤ n) (hn : n ≤ 140737488355327) :
    Calls Try.prog 106 #[.slice none 0 0, .int .i64 n] w fun e w' => ∃ v0_ : Value, e = .returned (v0_) ∧ Kd.R (Kd.int .u8) 5 w' w.heap.size (fun _ => True) v0_ [] ∧ Below w.heap.size w w' := by
  obtain ⟨i0, hi0, _⟩ := Option.map_eq_some_iff.1 info5
  by_cases hp : 0 < n
  · go_enter Try.func106, Try.ntmps106
    go_wp2_with ((with_reducible refine gate_builtin (b := .append) (xs := #[.tmp 20, .tmp 21]) rfl ?_); refine Kd.R_append_zeros (Kd.int .u8) (w0 := w) w.heap.size rfl (.tmp 20) (.tmp 21) 22 3 5 (.int .u8 0) 1 rfl Try.underlying22 Try.underlying3 info5 rfl (by decide) (by omega) (.slice none 0 0) ([] : List Int) 0 n (fun _ => True) rfl rfl rfl (fun _ _ => trivial) (Kd.R_nil _ _ _ _ _) (by omega) (Below.refl _ _) (Nat.le_refl _) (by simp only [List.length_nil]; omega) ?_; intro v1 w1 ho hb hg hat; obtain ⟨A1, c1, rfl, hc1, _⟩ := Kd.R_reads ho; have hk := cut_to (P := Try.prog) 22 5 .i64 Try.underlying22 hi0 A1 (List.replicate n.toNat (0 : Int)).length c1 0 (by omega) (by omega) hc1)
    go_ret
    exact ⟨_, rfl, Kd.R_take (m := 0) ho (Nat.zero_le _), hb⟩
  · obtain rfl : n = 0 := by omega
    go_enter Try.func106, Try.ntmps106
    go_wp2_with fail
    go_ret
    exact ⟨_, rfl, Kd.R_nil _ _ _ _ _, Below.refl _ _⟩

def sumLen (ls : List (List Int)) : Nat := (ls.map List.length).sum
theorem sumLen_take (ls : List (List Int)) (k : Nat) (hk : k < ls.length) : sumLen (ls.take (k + 1)) = sumLen (ls.take k) + (rd_L1 ls (k : Int)).length := by
  have e : rd_L1 ls (k : Int) = ls[k] := by unfold rd_L1; rw [Int.toNat_natCast, List.getD_eq_getElem?_getD, List.getElem?_eq_getElem hk]; rfl
  rw [e, List.take_succ_eq_append_getElem hk]
  simp only [sumLen, List.map_append, List.map_cons, List.map_nil, List.sum_append, List.sum_cons, List.sum_nil, Nat.add_zero]
theorem sumLen_le (ls : List (List Int)) (k : Nat) : sumLen (ls.take k) ≤ sumLen ls := by
  conv => rhs; rw [← List.take_append_drop k ls]
  simp only [sumLen, List.map_append, List.sum_append]
  omega
theorem flat_take (ls : List (List Int)) (k : Nat) (hk : k < ls.length) : (ls.take (k + 1)).flatten = (ls.take k).flatten ++ rd_L1 ls (k : Int) := by
  have e : rd_L1 ls (k : Int) = ls[k] := by unfold rd_L1; rw [Int.toNat_natCast, List.getD_eq_getElem?_getD, List.getElem?_eq_getElem hk]; rfl
  rw [e, List.take_succ_eq_append_getElem hk]
  simp only [List.flatten_append, List.flatten_cons, List.flatten_nil, List.append_nil]
theorem flat_len (ls : List (List Int)) : ls.flatten.length = sumLen ls := by simp [sumLen, List.length_flatten]

def slices_Concat_byte_byte.f (l0 : List (List Int)) : Option (List Int) := if sumLen l0 < 140737488355328 then some l0.flatten else none
set_option maxHeartbeats 400000 in
set_option maxRecDepth 100000 in
theorem slices_Concat_byte_byte.calls (A0 : Option Addr) (c0 : Nat) (l0 : List (List Int)) (r : List Int) (w : World) (hr0 : Kd.C (Kd.slice 5 (Kd.int .u8)) w A0 l0.length l0) (hc0 : l0.length ≤ c0) (h : slices_Concat_byte_byte.f l0 = some r) :
    Calls Try.prog 100 #[.slice A0 l0.length c0] w fun e w' => ∃ v0_ : Value, e = .returned (v0_) ∧ Kd.R (Kd.int .u8) 5 w' w.heap.size (fun _ => True) v0_ r ∧ Below w.heap.size w w' := by
  unfold slices_Concat_byte_byte.f at h
  split at h
  case isFalse => cases h
  rename_i hl0
  have hl : sumLen l0 ≤ 140737488355327 := by omega
  obtain rfl := Option.some.inj h
  clear h hl0
  have hn : l0.length ≤ 9223372036854775807 := hr0.2.1
  have HR := Aside0.mk hr0
  clear hr0
  go_enter Try.func100, Try.ntmps100
  go_wp2_with fail
  go_loop [3, 11] (fun v3 v11 => ∃ k : Nat, k ≤ l0.length ∧ v11 = .int .i64 k ∧ v3 = .int .i64 (sumLen (l0.take k))) (fun _ v11 => l0.length - (intOf v11).toNat)
  case atStart => exact ⟨0, Nat.zero_le _, rfl, rfl⟩
  case round =>
    obtain ⟨k, hk, rfl, rfl⟩ := hrel
    by_cases hlt : k < l0.length
    · obtain ⟨ad, A1, c1, rfl, hcell, hc1, _⟩ := at_L1 HR.out k (by omega) (by omega)
      have hs := sumLen_le l0 (k + 1)
      have HS := Aside0.mk (sumLen_take l0 k hlt)
      have hs2 : sumLen (l0.take k) + (rd_L1 l0 (k : Int)).length ≤ 140737488355327 := by rw [← HS.out]; omega
      rw [Int.toNat_natCast] at hcell
      have hge : ¬ ((sumLen (l0.take k) : Int) + ((rd_L1 l0 (k : Int)).length : Int) < 0) := by omega
      go_wp2_with fail
      go_round
      case rel => exact ⟨k + 1, by omega, by go_num, by rw [HS.out]; go_num⟩
      case measure => simp [intOf]; omega
    · obtain rfl : k = l0.length := by omega
      rw [List.take_length]
      go_wp2_with (go_at_call 106; refine (grow_nil _ _ (by omega) (by omega)).mono ?_; rintro e w1 ⟨v0, rfl, ho, hb⟩)
      have HO := Aside0.mk ho
      have HB := Aside0.mk hb
      clear ho hb
      go_loopw [6, 27] (fun v6 v27 wr => ∃ k : Nat, k ≤ l0.length ∧ v27 = .int .i64 k ∧ Aside0 (Kd.R (Kd.int .u8) 5 wr w.heap.size (fun _ => True) v6 (l0.take k).flatten) ∧ Aside0 (Below w.heap.size w wr)) (fun _ v27 _ => l0.length - (intOf v27).toNat)
      case atStart => exact ⟨0, Nat.zero_le _, rfl, HO, HB⟩
      case round =>
        obtain ⟨k, hk2, rfl, HO, HB⟩ := hrel
        by_cases hlt : k < l0.length
        · obtain ⟨ad, A1, c1, rfl, hcell, hc1, hC⟩ := at_L1 (Kd.C_below HR.out HB.out) k (by omega) (by omega)
          have HC := Aside0.mk hC
          clear hC
          have hs := sumLen_le l0 (k + 1)
          have HS := Aside0.mk (sumLen_take l0 k hlt)
          have HF := Aside0.mk (flat_take l0 k hlt)
          have hs2 : (l0.take k).flatten.length + (rd_L1 l0 (k : Int)).length ≤ 140737488355327 := by rw [flat_len, ← HS.out]; omega
          rw [Int.toNat_natCast] at hcell
          obtain ⟨A2, c2, rfl⟩ := Kd.R_slice HO.out
          go_wp2_with ((with_reducible refine gate_builtin (b := .append) (xs := #[.tmp 31, .tmp 32]) rfl ?_); at_builtin; refine Kd.R_append_rows (Kd.int .u8) (w0 := w) w.heap.size rfl (.tmp 31) (.tmp 32) 22 5 (.int .u8 0) 1 rfl Try.underlying22 info5 rfl (by decide) (by omega) (.slice A2 (l0.take k).flatten.length c2) (l0.take k).flatten (rd_L1 l0 (k : Int)) _ _ _ (fun _ => True) (fun _ => False) rfl rfl HO.out HC.out (fun _ _ h => h) (fun _ h => h.elim) (fun _ _ => trivial) HB.out (below_size HB.out) (by omega) ?_; intro v1 w2 ho hb hg hat; rw [← HF.out] at ho; have HO1 := Aside0.mk ho; have HB1 := Aside0.mk hb; clear ho hb hg hat HO HB HC hcell)
          go_roundw
          case rel => exact ⟨k + 1, by omega, by go_num, HO1, HB1⟩
          case measure => simp [intOf]; omega
        · obtain rfl : k = l0.length := by omega
          rw [List.take_length] at HO
          go_wp2_with fail
          go_ret
          exact ⟨_, rfl, HO.out, HB.out⟩

end Go.Proofs.Ytbapokpkgonjkaa.Print
