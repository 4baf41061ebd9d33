/- Texts of this session, joined by its own program. -/
import Derived.Test.YtbapokpkgonjkaaCFD0
import Derived.WalkSpells
import Derived.LoopN
import Derived.RegionTactic
import Derived.BigRegion
import Derived.Test.YtbapokpkgonjkaaCFD2
/- slices.Clone[[]byte,byte] and slices.Clone at []byte: the answer is new memory that holds the same bytes. Condition: fewer than 2^47 bytes. -/
namespace Go.Proofs.Ytbapokpkgonjkaa.Print
open Go.RowKit Go.Proofs.YtbapokpkgonjkaaW.PrintWords Go.Proofs.YtbapokpkgonjkaaW.PrintLast Go.Proofs.YtbapokpkgonjkaaW.PrintMore
set_option linter.unusedVariables false
set_option linter.unusedSimpArgs false

theorem readsNone2 {α : Type} {R : α → List Value → Prop} {size : Nat} {w : World} {n : Nat} {l : List α} (h : ReadsRow R size w none n l) : l = [] := by
  rcases Nat.eq_zero_or_pos n with h0 | h0
  · exact List.eq_nil_of_length_eq_zero (by rw [h.1, h0])
  · obtain ⟨ad, e, _⟩ := h.2.2 h0
    cases e

theorem lit_empty2 (w : World) : Kd.R (Kd.int .u8) 5 (w.alloc (.cells #[] 5)) w.heap.size (fun _ => True) (.slice (some ⟨w.heap.size, 0, none⟩) 0 0) [] :=
  ⟨fun _ _ => trivial, [], own_lit w w.heap.size 5 .u8 [] (Nat.le_refl _) (by decide), ⟨rfl, fun j p h => by simp at h⟩⟩

def slices_Clone_byte_byte.f (l0 : List Int) : Option (List Int) := if l0.length < 140737488355328 then some l0 else none
set_option maxHeartbeats 400000 in
set_option maxRecDepth 100000 in
theorem slices_Clone_byte_byte.calls (A0 : Option Addr) (c0 : Nat) (l0 : List Int) (r : List Int) (w : World) (hr0 : Kd.C (Kd.int .u8) w A0 l0.length l0) (hc0 : l0.length ≤ c0) (h : slices_Clone_byte_byte.f l0 = some r) :
    Calls Try.prog 103 #[.slice A0 l0.length c0] w fun e w' => ∃ v0_ : Value, e = .returned (v0_) ∧ Kd.R (Kd.int .u8) 5 w' w.heap.size (fun _ => True) v0_ r ∧ Below w.heap.size w w' := by
  unfold slices_Clone_byte_byte.f at h
  split at h
  case isFalse => cases h
  rename_i hl0
  have HL := Aside0.mk hl0
  clear hl0
  obtain rfl := Option.some.inj h
  clear h
  have HR := Aside0.mk hr0
  clear hr0
  have ke : ∀ (a : Option Addr) (n c : Nat) (W : World), (binOp .eql 22 (.slice a n c) (.slice none 0 0)).run Try.prog W = .ok (.bool a.isNone) W := fun a n c W => Lib.run_eql_slice_nil W 22 5 a n c 0 0 Try.underlying22
  rcases A0 with _ | ad
  · obtain rfl := readsNone2 HR.out
    go_enter Try.func103, Try.ntmps103
    go_wp2_with fail
    go_ret
    exact ⟨_, rfl, Kd.R_nil _ _ _ _ _, Below.refl _ _⟩
  · go_enter Try.func103, Try.ntmps103
    go_wp2_with ((with_reducible refine gate_builtin (b := .append) (xs := #[.tmp 5, .tmp 6]) rfl ?_); at_builtin; refine Kd.R_append_rows (Kd.int .u8) (w0 := w) w.heap.size rfl (.tmp 5) (.tmp 6) 22 5 (.int .u8 0) 1 rfl Try.underlying22 info5 rfl (by decide) (by omega) (.slice (some ⟨w.heap.size, 0, none⟩) 0 0) ([] : List Int) l0 _ _ _ (fun _ => True) (fun _ => False) rfl rfl (lit_empty2 w) (Kd.C_alloc HR.out _) (fun _ _ h => h) (fun _ h => h.elim) (fun _ _ => trivial) (below_alloc (Below.refl _ _) _) (below_size (below_alloc (Below.refl _ _) _)) (by have := HL.out; simp only [List.length_nil]; omega) ?_; intro v1 w1 ho hb hg hat)
    go_ret
    exact ⟨_, rfl, ho, hb⟩

end Go.Proofs.Ytbapokpkgonjkaa.Print

/- slices.Concat at []byte: the answer is new memory that holds the bytes of all parts, one part behind the other. Condition: fewer than 2^47 bytes in all. -/
namespace Go.Proofs.Ytbapokpkgonjkaa.Print
open Go.RowKit Go.Proofs.YtbapokpkgonjkaaW.PrintWords Go.Proofs.YtbapokpkgonjkaaW.PrintLast Go.Proofs.YtbapokpkgonjkaaW.PrintMore
set_option linter.unusedVariables false
set_option linter.unusedSimpArgs false

set_option maxHeartbeats 400000 in
set_option maxRecDepth 100000 in
/-- slices.Grow of nil: an empty row with room. -/
theorem grow_nil (n : Int) (w : World) (h0 : 0 ≤ n) (hn : n ≤ 140737488355327) :
    Calls Try.prog 106 #[.slice none 0 0, .int .i64 n] w fun e w' => ∃ v0_ : Value, e = .returned (v0_) ∧ Kd.R (Kd.int .u8) 5 w' w.heap.size (fun _ => True) v0_ [] ∧ Below w.heap.size w w' := by
  obtain ⟨i0, hi0, _⟩ := Option.map_eq_some_iff.1 info5
  by_cases hp : 0 < n
  · go_enter Try.func106, Try.ntmps106
    go_wp2_with ((with_reducible refine gate_builtin (b := .append) (xs := #[.tmp 20, .tmp 21]) rfl ?_); refine Kd.R_append_zeros (Kd.int .u8) (w0 := w) w.heap.size rfl (.tmp 20) (.tmp 21) 22 3 5 (.int .u8 0) 1 rfl Try.underlying22 Try.underlying3 info5 rfl (by decide) (by omega) (.slice none 0 0) ([] : List Int) 0 n (fun _ => True) rfl rfl rfl (fun _ _ => trivial) (Kd.R_nil _ _ _ _ _) (by omega) (Below.refl _ _) (Nat.le_refl _) (by simp only [List.length_nil]; omega) ?_; intro v1 w1 ho hb hg hat; obtain ⟨A1, c1, rfl, hc1, _⟩ := Kd.R_reads ho; have hk := cut_to (P := Try.prog) 22 5 .i64 Try.underlying22 hi0 A1 (List.replicate n.toNat (0 : Int)).length c1 0 (by omega) (by omega) hc1)
    go_ret
    exact ⟨_, rfl, Kd.R_take (m := 0) ho (Nat.zero_le _), hb⟩
  · obtain rfl : n = 0 := by omega
    go_enter Try.func106, Try.ntmps106
    go_wp2_with fail
    go_ret
    exact ⟨_, rfl, Kd.R_nil _ _ _ _ _, Below.refl _ _⟩

def sumLen (ls : List (List Int)) : Nat := (ls.map List.length).sum
theorem sumLen_take (ls : List (List Int)) (k : Nat) (hk : k < ls.length) : sumLen (ls.take (k + 1)) = sumLen (ls.take k) + (rd_L1 ls (k : Int)).length := by
  have e : rd_L1 ls (k : Int) = ls[k] := by unfold rd_L1; rw [Int.toNat_natCast, List.getD_eq_getElem?_getD, List.getElem?_eq_getElem hk]; rfl
  rw [e, List.take_succ_eq_append_getElem hk]
  simp only [sumLen, List.map_append, List.map_cons, List.map_nil, List.sum_append, List.sum_cons, List.sum_nil, Nat.add_zero]
theorem sumLen_le (ls : List (List Int)) (k : Nat) : sumLen (ls.take k) ≤ sumLen ls := by
  conv => rhs; rw [← List.take_append_drop k ls]
  simp only [sumLen, List.map_append, List.sum_append]
  omega
theorem flat_take (ls : List (List Int)) (k : Nat) (hk : k < ls.length) : (ls.take (k + 1)).flatten = (ls.take k).flatten ++ rd_L1 ls (k : Int) := by
  have e : rd_L1 ls (k : Int) = ls[k] := by unfold rd_L1; rw [Int.toNat_natCast, List.getD_eq_getElem?_getD, List.getElem?_eq_getElem hk]; rfl
  rw [e, List.take_succ_eq_append_getElem hk]
  simp only [List.flatten_append, List.flatten_cons, List.flatten_nil, List.append_nil]
theorem flat_len (ls : List (List Int)) : ls.flatten.length = sumLen ls := by simp [sumLen, List.length_flatten]

def slices_Concat_byte_byte.f (l0 : List (List Int)) : Option (List Int) := if sumLen l0 < 140737488355328 then some l0.flatten else none
set_option maxHeartbeats 400000 in
set_option maxRecDepth 100000 in
theorem slices_Concat_byte_byte.calls (A0 : Option Addr) (c0 : Nat) (l0 : List (List Int)) (r : List Int) (w : World) (hr0 : Kd.C (Kd.slice 5 (Kd.int .u8)) w A0 l0.length l0) (hc0 : l0.length ≤ c0) (h : slices_Concat_byte_byte.f l0 = some r) :
    Calls Try.prog 100 #[.slice A0 l0.length c0] w fun e w' => ∃ v0_ : Value, e = .returned (v0_) ∧ Kd.R (Kd.int .u8) 5 w' w.heap.size (fun _ => True) v0_ r ∧ Below w.heap.size w w' := by
  unfold slices_Concat_byte_byte.f at h
  split at h
  case isFalse => cases h
  rename_i hl0
  have hl : sumLen l0 ≤ 140737488355327 := by omega
  obtain rfl := Option.some.inj h
  clear h hl0
  have hn : l0.length ≤ 9223372036854775807 := hr0.2.1
  have HR := Aside0.mk hr0
  clear hr0
  go_enter Try.func100, Try.ntmps100
  go_wp2_with fail
  go_loop [3, 11] (fun v3 v11 => ∃ k : Nat, k ≤ l0.length ∧ v11 = .int .i64 k ∧ v3 = .int .i64 (sumLen (l0.take k))) (fun _ v11 => l0.length - (intOf v11).toNat)
  case atStart => exact ⟨0, Nat.zero_le _, rfl, rfl⟩
  case round =>
    obtain ⟨k, hk, rfl, rfl⟩ := hrel
    by_cases hlt : k < l0.length
    · obtain ⟨ad, A1, c1, rfl, hcell, hc1, _⟩ := at_L1 HR.out k (by omega) (by omega)
      have hs := sumLen_le l0 (k + 1)
      have HS := Aside0.mk (sumLen_take l0 k hlt)
      have hs2 : sumLen (l0.take k) + (rd_L1 l0 (k : Int)).length ≤ 140737488355327 := by rw [← HS.out]; omega
      rw [Int.toNat_natCast] at hcell
      have hge : ¬ ((sumLen (l0.take k) : Int) + ((rd_L1 l0 (k : Int)).length : Int) < 0) := by omega
      go_wp2_with fail
      go_round
      case rel => exact ⟨k + 1, by omega, by go_num, by rw [HS.out]; go_num⟩
      case measure => simp [intOf]; omega
    · obtain rfl : k = l0.length := by omega
      rw [List.take_length]
      go_wp2_with (go_at_call 106; refine (grow_nil _ _ (by omega) (by omega)).mono ?_; rintro e w1 ⟨v0, rfl, ho, hb⟩)
      have HO := Aside0.mk ho
      have HB := Aside0.mk hb
      clear ho hb
      go_loopw [6, 27] (fun v6 v27 wr => ∃ k : Nat, k ≤ l0.length ∧ v27 = .int .i64 k ∧ Aside0 (Kd.R (Kd.int .u8) 5 wr w.heap.size (fun _ => True) v6 (l0.take k).flatten) ∧ Aside0 (Below w.heap.size w wr)) (fun _ v27 _ => l0.length - (intOf v27).toNat)
      case atStart => exact ⟨0, Nat.zero_le _, rfl, HO, HB⟩
      case round =>
        obtain ⟨k, hk2, rfl, HO, HB⟩ := hrel
        by_cases hlt : k < l0.length
        · obtain ⟨ad, A1, c1, rfl, hcell, hc1, hC⟩ := at_L1 (Kd.C_below HR.out HB.out) k (by omega) (by omega)
          have HC := Aside0.mk hC
          clear hC
          have hs := sumLen_le l0 (k + 1)
          have HS := Aside0.mk (sumLen_take l0 k hlt)
          have HF := Aside0.mk (flat_take l0 k hlt)
          have hs2 : (l0.take k).flatten.length + (rd_L1 l0 (k : Int)).length ≤ 140737488355327 := by rw [flat_len, ← HS.out]; omega
          rw [Int.toNat_natCast] at hcell
          obtain ⟨A2, c2, rfl⟩ := Kd.R_slice HO.out
          go_wp2_with ((with_reducible refine gate_builtin (b := .append) (xs := #[.tmp 31, .tmp 32]) rfl ?_); at_builtin; refine Kd.R_append_rows (Kd.int .u8) (w0 := w) w.heap.size rfl (.tmp 31) (.tmp 32) 22 5 (.int .u8 0) 1 rfl Try.underlying22 info5 rfl (by decide) (by omega) (.slice A2 (l0.take k).flatten.length c2) (l0.take k).flatten (rd_L1 l0 (k : Int)) _ _ _ (fun _ => True) (fun _ => False) rfl rfl HO.out HC.out (fun _ _ h => h) (fun _ h => h.elim) (fun _ _ => trivial) HB.out (below_size HB.out) (by omega) ?_; intro v1 w2 ho hb hg hat; rw [← HF.out] at ho; have HO1 := Aside0.mk ho; have HB1 := Aside0.mk hb; clear ho hb hg hat HO HB HC hcell)
          go_roundw
          case rel => exact ⟨k + 1, by omega, by go_num, HO1, HB1⟩
          case measure => simp [intOf]; omega
        · obtain rfl : k = l0.length := by omega
          rw [List.take_length] at HO
          go_wp2_with fail
          go_ret
          exact ⟨_, rfl, HO.out, HB.out⟩

end Go.Proofs.Ytbapokpkgonjkaa.Print

/- The disk's files at work: reset, sync, append, crash of a file in a block of memory. -/
namespace Go.Proofs.Ytbapokpkgonjkaa.Print
open Go.RowKit Go.Proofs.YtbapokpkgonjkaaW.PrintWords Go.Proofs.YtbapokpkgonjkaaW.PrintLast Go.Proofs.YtbapokpkgonjkaaW.PrintMore
set_option linter.unusedVariables false
set_option linter.unusedSimpArgs false

set_option maxHeartbeats 400000 in
set_option maxRecDepth 100000 in
theorem file_reset (g o : Nat) (u v : Value) (w : World) (h0 : w.cell? ⟨g, o, none⟩ = some u) (h1 : w.cell? ⟨g, o + 1, none⟩ = some v) (f0 : w.frozen? ⟨g, o, none⟩ = false) (f1 : w.frozen? ⟨g, o + 1, none⟩ = false) :
    Calls Try.prog 85 #[.pointer (some ⟨g, o, none⟩)] w fun e w' => e = .returned (.tuple #[]) ∧ w' = (w.setCell ⟨g, o, none⟩ (.slice none 0 0)).setCell ⟨g, o + 1, none⟩ (.int .i64 0) := by
  go_enter Try.func85, Try.ntmps85
  go_wp2_with fail
  go_end0
  exact ⟨rfl, rfl⟩

set_option maxHeartbeats 400000 in
set_option maxRecDepth 100000 in
theorem file_sync (g o n c : Nat) (A : Option Addr) (s : Int) (w : World) (h0 : w.cell? ⟨g, o, none⟩ = some (.slice A n c)) (h1 : w.cell? ⟨g, o + 1, none⟩ = some (.int .i64 s)) (f1 : w.frozen? ⟨g, o + 1, none⟩ = false) :
    Calls Try.prog 88 #[.pointer (some ⟨g, o, none⟩)] w fun e w' => e = .returned (.tuple #[]) ∧ w' = w.setCell ⟨g, o + 1, none⟩ (.int .i64 n) := by
  go_enter Try.func88, Try.ntmps88
  go_wp2_with fail
  go_end0
  exact ⟨rfl, rfl⟩

/-- A row's world may be stored into below the row's base. -/
theorem R_store {α : Type} {d : Kd α} {e base : Nat} {ok : Nat → Prop} {w : World} {v : Value} {xs : List α} (h : d.R e w base ok v xs) (g j : Nat) (u : Value) (hg : g < base) : d.R e (w.setCell ⟨g, j, none⟩ u) base ok v xs :=
  Kd.R_mono (Kd.R_move (Kd.R_bound h) (fun k hk => Below.heap_setCell w ⟨g, j, none⟩ u k (fun e => by have := hk.2.1; simp at e; omega))) (fun k hk => hk.1)

set_option maxHeartbeats 400000 in
set_option maxRecDepth 100000 in
/-- append to a file: it doesn't fit. -/
theorem file_append_no (g o n c m cb : Nat) (A B : Option Addr) (w : World) (h0 : w.cell? ⟨g, o, none⟩ = some (.slice A n c)) (hn : n ≤ 140737488355328) (hm : m ≤ 140737488355328) (hx : 200000 < n + m) :
    Calls Try.prog 91 #[.pointer (some ⟨g, o, none⟩), .slice B m cb] w fun e w' => e = .returned (.bool false) ∧ w' = w := by
  have k1 : (200000 : Int) < (n : Int) + (m : Int) := by omega
  go_enter Try.func91, Try.ntmps91
  go_wp2_with fail
  go_ret
  exact ⟨rfl, rfl⟩

theorem C_two (w : World) (A B : Option Addr) (c cb : Nat) (l b : List Int) (hl : Kd.C (Kd.int .u8) w A l.length l) (hc : l.length ≤ c) (hb : Kd.C (Kd.int .u8) w B b.length b) (hcb : b.length ≤ cb) :
    Kd.C (Kd.slice 5 (Kd.int .u8)) (w.alloc (.cells #[.slice A l.length c, .slice B b.length cb] 22)) (some ⟨w.heap.size, 0, none⟩) 2 [l, b] := by
  refine ⟨rfl, by decide, fun _ => ⟨_, rfl, fun j p hj => ?_⟩⟩
  match j, hj with
  | 0, hj =>
    obtain rfl : l = p := by simpa using hj
    refine ⟨[.slice A l.length c], rfl, ⟨A, c, rfl, hc, Kd.C_alloc hl _⟩, fun i u hu => ?_⟩
    cases i with
    | zero =>
      obtain rfl : Value.slice A l.length c = u := by simpa using hu
      go_simp
    | succ i => simp at hu
  | 1, hj =>
    obtain rfl : b = p := by simpa using hj
    refine ⟨[.slice B b.length cb], rfl, ⟨B, cb, rfl, hcb, Kd.C_alloc hb _⟩, fun i u hu => ?_⟩
    cases i with
    | zero =>
      obtain rfl : Value.slice B b.length cb = u := by simpa using hu
      rw [add_plain]
      go_simp
      rfl
    | succ i => simp at hu
  | j + 2, hj => simp at hj

set_option maxHeartbeats 400000 in
set_option maxRecDepth 100000 in
/-- append to a file: it fits: the file's bytes lie in new memory. -/
theorem file_append_yes (g o c cb : Nat) (A B : Option Addr) (l b : List Int) (w : World) (hg : g < w.heap.size) (h0 : w.cell? ⟨g, o, none⟩ = some (.slice A l.length c)) (f0 : w.frozen? ⟨g, o, none⟩ = false) (hl : Kd.C (Kd.int .u8) w A l.length l) (hc : l.length ≤ c) (hb : Kd.C (Kd.int .u8) w B b.length b) (hcb : b.length ≤ cb) (hx : l.length + b.length ≤ 200000) :
    Calls Try.prog 91 #[.pointer (some ⟨g, o, none⟩), .slice B b.length cb] w fun e w' => e = .returned (.bool true) ∧ ∃ v0 w1, w' = w1.setCell ⟨g, o, none⟩ v0 ∧ Below w.heap.size w w1 ∧ Kd.R (Kd.int .u8) 5 w1 w.heap.size (fun _ => True) v0 (l ++ b) := by
  have k1 : ¬ (200000 : Int) < (l.length : Int) + (b.length : Int) := by omega
  have k2 : l.length ≤ 200000 := by omega
  have k3 : b.length ≤ 200000 := by omega
  have HL := Aside0.mk hl
  have HB := Aside0.mk hb
  clear hl hb
  go_enter Try.func91, Try.ntmps91
  go_wp2_with fail
  have hcat : slices_Concat_byte_byte.f [l, b] = some (l ++ b) := by
    unfold slices_Concat_byte_byte.f
    have e : sumLen [l, b] = l.length + b.length := by simp [sumLen]
    rw [if_pos (by rw [e]; omega)]
    simp
  refine (slices_Concat_byte_byte.calls _ 2 [l, b] (l ++ b) _ (C_two w A B c cb l b HL.out hc HB.out hcb) (Nat.le_refl _) hcat).mono ?_
  rintro e w1 ⟨v0, rfl, ho, hb⟩
  obtain ⟨A1, c1, rfl⟩ := Kd.R_slice ho
  have hb' := below_then (below_alloc (Below.refl w.heap.size w) (.cells #[.slice A l.length c, .slice B b.length cb] 22)) (by simp) hb
  have HO := Aside0.mk (Kd.R_lower ho (by simp : w.heap.size ≤ _))
  have HB' := Aside0.mk hb'
  have hc1 : w1.cell? ⟨g, o, none⟩ = some (.slice A l.length c) := (hb'.cell (p := ⟨g, o, none⟩) hg).trans h0
  have hf1 : w1.frozen? ⟨g, o, none⟩ = false := (hb'.frozen (p := ⟨g, o, none⟩) hg).trans f0
  clear ho hb hb' hcat
  go_wp2_with fail
  go_ret
  exact ⟨rfl, _, w1, rfl, HB'.out, by have z := HO.out; rw [List.length_append] at z; exact z⟩

/-- what stays of a file -/
def keptLen (n : Nat) (s keep : Int) : Int := s + mn keep ((n : Int) - s)

set_option maxHeartbeats 1000000 in
set_option maxRecDepth 100000 in
/-- crash of a file. -/
theorem file_crash (g o n c : Nat) (A : Option Addr) (s keep : Int) (w : World) (h0 : w.cell? ⟨g, o, none⟩ = some (.slice A n c)) (h1 : w.cell? ⟨g, o + 1, none⟩ = some (.int .i64 s)) (f0 : w.frozen? ⟨g, o, none⟩ = false) (f1 : w.frozen? ⟨g, o + 1, none⟩ = false) (hn : n ≤ 200000) (hs : 0 ≤ s) (hsn : s ≤ (n : Int)) (hk : 0 ≤ keep) (hc : n ≤ c) :
    Calls Try.prog 104 #[.pointer (some ⟨g, o, none⟩), .int .i64 keep] w fun e w' => e = .returned (.tuple #[]) ∧ Drawn0 ((w.setCell ⟨g, o, none⟩ (.slice A (keptLen n s keep).toNat c)).setCell ⟨g, o + 1, none⟩ (.int .i64 (keptLen n s keep))) w' := by
  obtain ⟨i0, hi0, _⟩ := Option.map_eq_some_iff.1 info5
  by_cases hm : (n : Int) - s < keep
  · have e : keptLen n s keep = (n : Int) := by unfold keptLen mn; rw [if_pos hm]; omega
    have HE := Aside0.mk e
    clear e
    go_enter Try.func104, Try.ntmps104
    go_wp2_with fail
    go_region
    go_wp2_with fail
    go_end0
    rw [HE.out, show s + ((n : Int) - s) = (n : Int) by omega, show max (n : Int) 0 = (n : Int) by omega]
    exact ⟨rfl, ⟨1, rfl⟩⟩
  · have e : keptLen n s keep = s + keep := by unfold keptLen mn; rw [if_neg hm]
    have HE := Aside0.mk e
    clear e
    go_enter Try.func104, Try.ntmps104
    go_wp2_with fail
    go_region
    go_wp2_with fail
    go_end0
    rw [HE.out, show max (s + keep) 0 = s + keep by omega]
    exact ⟨rfl, ⟨1, rfl⟩⟩

end Go.Proofs.Ytbapokpkgonjkaa.Print

/- The drive: driveOf and disk. -/
namespace Go.Proofs.Ytbapokpkgonjkaa.Print
open Go.RowKit Go.Proofs.YtbapokpkgonjkaaW.PrintWords Go.Proofs.YtbapokpkgonjkaaW.PrintLast Go.Proofs.YtbapokpkgonjkaaW.PrintMore
set_option linter.unusedVariables false
set_option linter.unusedSimpArgs false

theorem bcell {B : Nat} {W w1 : World} (hb : Below B W w1) : (∀ b o, b < B → w1.cell? ⟨b, o, none⟩ = W.cell? ⟨b, o, none⟩) ∧ (∀ b o, b < B → w1.frozen? ⟨b, o, none⟩ = W.frozen? ⟨b, o, none⟩) :=
  ⟨fun b o h => hb.cell (p := ⟨b, o, none⟩) h, fun b o h => hb.frozen (p := ⟨b, o, none⟩) h⟩

set_option maxHeartbeats 400000 in
set_option maxRecDepth 100000 in
theorem drive_disk (A0 A2 A4 : Option Addr) (n0 c0 n2 c2 n4 c4 : Nat) (s1 s3 s5 : Int) (w : World) :
    Calls Try.prog 76 #[.agg #[.slice A0 n0 c0, .int .i64 s1, .slice A2 n2 c2, .int .i64 s3, .slice A4 n4 c4, .int .i64 s5]] w fun e w' => e = .returned (.agg #[.slice A0 n0 c0, .int .i64 s1, .slice A2 n2 c2, .int .i64 s3, .slice A4 n4 c4, .int .i64 s5]) ∧ Below w.heap.size w w' := by
  go_enter Try.func76, Try.ntmps76
  go_wp2_with fail
  refine bodyPost_ret (v := .agg #[.slice A0 n0 c0, .int .i64 s1, .slice A2 n2 c2, .int .i64 s3, .slice A4 n4 c4, .int .i64 s5]) (by simp [results, Try.results76, go_sem]) rfl ⟨rfl, ?_⟩
  exact below_alloc (below_alloc (Below.refl _ _) _) _

set_option maxHeartbeats 800000 in
set_option maxRecDepth 100000 in
theorem driveOf_any (A0 A2 A4 : Option Addr) (c0 c2 c4 : Nat) (l0 l2 l4 : List Int) (s1 s3 s5 : Int) (w : World) (hr0 : Kd.C (Kd.int .u8) w A0 l0.length l0) (hc0 : l0.length ≤ c0) (hr2 : Kd.C (Kd.int .u8) w A2 l2.length l2) (hc2 : l2.length ≤ c2) (hr4 : Kd.C (Kd.int .u8) w A4 l4.length l4) (hc4 : l4.length ≤ c4)
    (hb0 : l0.length ≤ 200000) (hb2 : l2.length ≤ 200000) (hb4 : l4.length ≤ 200000) :
    Calls Try.prog 74 #[.agg #[.slice A0 l0.length c0, .int .i64 s1, .slice A2 l2.length c2, .int .i64 s3, .slice A4 l4.length c4, .int .i64 s5]] w fun e w' => ∃ v0 v2 v4 : Value, e = .returned (.agg #[v0, .int .i64 s1, v2, .int .i64 s3, v4, .int .i64 s5]) ∧
      Kd.R (Kd.int .u8) 5 w' w.heap.size (fun k => some k ≠ v2.ownBlock ∧ some k ≠ v4.ownBlock) v0 l0 ∧ Kd.R (Kd.int .u8) 5 w' w.heap.size (fun k => some k ≠ v0.ownBlock ∧ some k ≠ v4.ownBlock) v2 l2 ∧ Kd.R (Kd.int .u8) 5 w' w.heap.size (fun k => some k ≠ v0.ownBlock ∧ some k ≠ v2.ownBlock) v4 l4 ∧ Below w.heap.size w w' := by
  have HR0 := Aside0.mk hr0
  have HR2 := Aside0.mk hr2
  have HR4 := Aside0.mk hr4
  clear hr0 hr2 hr4
  go_enter Try.func74, Try.ntmps74
  go_wp2_with fail
  have hcl : ∀ l : List Int, l.length ≤ 200000 → slices_Clone_byte_byte.f l = some l := fun l hl => by unfold slices_Clone_byte_byte.f; rw [if_pos (by omega)]
  refine wp_loop_rounds 4 ?_
  rw [rounds_succ]
  go_wp2_with fail
  refine (slices_Clone_byte_byte.calls A0 c0 l0 l0 _ (by repeat (first | exact HR0.out | refine Kd.C_alloc ?_ _)) hc0 (hcl _ hb0)).mono ?_
  rintro e w1 ⟨v0, rfl, ho0, hb⟩
  have hB1 : Below w.heap.size w w1 := below_then (by repeat (first | exact Below.refl _ _ | apply below_alloc)) (by simp; omega) hb
  have hz1 : w.heap.size + 1 + 1 < w1.heap.size := by have := hb.size; simp at this; omega
  have hy1 : w.heap.size + 1 < w1.heap.size := by omega
  have hx1 : w.heap.size < w1.heap.size := by omega
  obtain ⟨hc1, hf1⟩ := bcell hb
  obtain ⟨B0, d0, rfl, hd0, _⟩ := Kd.R_reads ho0
  have HO0 := Aside0.mk ho0
  have HB1 := Aside0.mk hB1
  clear ho0 hB1 hb
  go_wp2_with fail
  rw [rounds_succ]
  go_wp2_with fail
  refine (slices_Clone_byte_byte.calls A2 c2 l2 l2 _ (Kd.C_below HR2.out (HB1.out.setCell (by simp; omega) _)) hc2 (hcl _ hb2)).mono ?_
  rintro e w2 ⟨v2, rfl, ho2, hb⟩
  have hB2 : Below w.heap.size w w2 := below_then (HB1.out.setCell (by simp; omega) _) (by simp; omega) hb
  have hz2 : w.heap.size + 1 + 1 < w2.heap.size := by have := hb.size; simp at this; omega
  have hy2 : w.heap.size + 1 < w2.heap.size := by omega
  have hx2 : w.heap.size < w2.heap.size := by omega
  have HO0' := R_store HO0.out (w.heap.size + 1 + 1) 0 (.slice B0 l0.length d0) (by simp)
  have HO02 := Aside0.mk (Kd.R_elder' HO0' (Kd.R_base ho2) hb)
  have HO22 := Aside0.mk (Kd.R_new' ho2 (Kd.R_lt HO0'))
  clear HO0'
  obtain ⟨hc2', hf2'⟩ := bcell (hb.mono (by simp : w1.heap.size ≤ _))
  simp only [World.frozen?_setCell] at hf2'
  obtain ⟨B2, d2, rfl, hd2, _⟩ := Kd.R_reads ho2
  have HB2 := Aside0.mk hB2
  clear ho2 hB2 hb
  go_wp2_with fail
  rw [rounds_succ]
  go_wp2_with fail
  refine (slices_Clone_byte_byte.calls A4 c4 l4 l4 _ (Kd.C_below HR4.out (HB2.out.setCell (by simp; omega) _)) hc4 (hcl _ hb4)).mono ?_
  rintro e w3 ⟨v4, rfl, ho4, hb⟩
  have hB3 : Below w.heap.size w w3 := below_then (HB2.out.setCell (by simp; omega) _) (by simp; omega) hb
  have hz3 : w.heap.size + 1 + 1 < w3.heap.size := by have := hb.size; simp at this; omega
  have hy3 : w.heap.size + 1 < w3.heap.size := by omega
  have hx3 : w.heap.size < w3.heap.size := by omega
  have HO02' := R_store HO02.out (w.heap.size + 1 + 1) 2 (.slice B2 l2.length d2) (by simp)
  have HO22' := R_store HO22.out (w.heap.size + 1 + 1) 2 (.slice B2 l2.length d2) (by simp; omega)
  have HO03 := Aside0.mk (Kd.R_elder' HO02' (Kd.R_base ho4) hb)
  have HO23 := Aside0.mk (Kd.R_elder' HO22' (Kd.R_base ho4) hb)
  have HO43 := Aside0.mk (Kd.R_new' (Kd.R_new' ho4 (Kd.R_lt HO02')) (Kd.R_lt HO22'))
  clear HO02' HO22' HO02 HO22 HO0
  obtain ⟨hc3', hf3'⟩ := bcell (hb.mono (by simp : w2.heap.size ≤ _))
  simp only [World.frozen?_setCell] at hf3'
  obtain ⟨B4, d4, rfl, hd4, _⟩ := Kd.R_reads ho4
  have HB3 := Aside0.mk hB3
  clear ho4 hB3 hb
  go_wp2_with fail
  rw [rounds_succ]
  go_wp2_with fail
  refine bodyPost_ret (v := .agg #[.slice B0 l0.length d0, .int .i64 s1, .slice B2 l2.length d2, .int .i64 s3, .slice B4 l4.length d4, .int .i64 s5]) ?_ rfl ?_
  · simp [results, Try.results74, go_sem, hc3', hc2', hc1, hy1, hy2, hy3]
  · have fin : ∀ {base : Nat} {ok : Nat → Prop} {v : Value} {l : List Int} (a b c d e f g : Value), Kd.R (Kd.int .u8) 5 w3 base ok v l → w.heap.size + 1 + 1 < base → Kd.R (Kd.int .u8) 5 (((((((w3.setCell ⟨w.heap.size + 1 + 1, 4, none⟩ a).setCell ⟨w.heap.size + 1, 0, none⟩ b).setCell ⟨w.heap.size + 1, 1, none⟩ c).setCell ⟨w.heap.size + 1, 2, none⟩ d).setCell ⟨w.heap.size + 1, 3, none⟩ e).setCell ⟨w.heap.size + 1, 4, none⟩ f).setCell ⟨w.heap.size + 1, 5, none⟩ g) w.heap.size ok v l := fun _ _ _ _ _ _ _ h hb => Kd.R_lower (R_store (R_store (R_store (R_store (R_store (R_store (R_store h _ _ _ (by omega)) _ _ _ (by omega)) _ _ _ (by omega)) _ _ _ (by omega)) _ _ _ (by omega)) _ _ _ (by omega)) _ _ _ (by omega)) (by omega)
    refine ⟨_, _, _, rfl, ?_, ?_, ?_, ?_⟩
    · exact fin _ _ _ _ _ _ _ (Kd.R_mono HO03.out (fun k hk => ⟨hk.1.2, hk.2⟩)) (by simp)
    · exact fin _ _ _ _ _ _ _ (Kd.R_mono HO23.out (fun k hk => ⟨hk.1.2, hk.2⟩)) (by simp; omega)
    · exact fin _ _ _ _ _ _ _ (Kd.R_mono HO43.out (fun k hk => ⟨hk.1.2, hk.2⟩)) (by simp; omega)
    · exact ((((((HB3.out.setCell (by simp; omega) _).setCell (by simp) _).setCell (by simp) _).setCell (by simp) _).setCell (by simp) _).setCell (by simp) _).setCell (by simp) _

end Go.Proofs.Ytbapokpkgonjkaa.Print

/- The drive: crash and rename of the whole. -/
namespace Go.Proofs.Ytbapokpkgonjkaa.Print
open Go.RowKit Go.Proofs.YtbapokpkgonjkaaW.PrintWords Go.Proofs.YtbapokpkgonjkaaW.PrintLast Go.Proofs.YtbapokpkgonjkaaW.PrintMore
set_option linter.unusedVariables false
set_option linter.unusedSimpArgs false

theorem drawn0_belowN {B : Nat} {w w' : World} (h : Drawn0 w w') : Below B w w' := by
  obtain ⟨n, rfl⟩ := h
  exact pw_below_drewN (Below.refl _ _) n
theorem drawn0_blk {w w' : World} (h : Drawn0 w w') {g : Nat} {o : Obj} (hb : w.heap[g]? = some o) : w'.heap[g]? = some o := by
  obtain ⟨n, rfl⟩ := h
  exact blk_drewN hb n

/-- file.crash, told of the block. -/
theorem file_crash_blk (g o n c t : Nat) (A : Option Addr) (s keep : Int) (cs : Array Value) (w : World) (hb : w.heap[g]? = some (.cells cs t (0, 0))) (h0 : cs[o]? = some (.slice A n c)) (h1 : cs[o + 1]? = some (.int .i64 s)) (hn : n ≤ 200000) (hs : 0 ≤ s) (hsn : s ≤ (n : Int)) (hk : 0 ≤ keep) (hc : n ≤ c) :
    Calls Try.prog 104 #[.pointer (some ⟨g, o, none⟩), .int .i64 keep] w fun e w' => e = .returned (.tuple #[]) ∧ Below g w w' ∧ w'.heap[g]? = some (.cells ((cs.setIfInBounds o (.slice A (keptLen n s keep).toNat c)).setIfInBounds (o + 1) (.int .i64 (keptLen n s keep))) t (0, 0)) := by
  refine (file_crash g o n c A s keep w ((blk_cell hb o).trans h0) ((blk_cell hb (o + 1)).trans h1) (blk_frozen hb o) (blk_frozen hb (o + 1)) hn hs hsn hk hc).mono ?_
  rintro e w' ⟨rfl, hd⟩
  exact ⟨rfl, (((Below.refl g w).setCell (Nat.le_refl _) _).setCell (Nat.le_refl _) _).trans (drawn0_belowN hd), drawn0_blk hd (blk_set (blk_set hb o _) (o + 1) _)⟩

theorem file_reset_blk (g o t : Nat) (u v : Value) (cs : Array Value) (w : World) (hb : w.heap[g]? = some (.cells cs t (0, 0))) (h0 : cs[o]? = some u) (h1 : cs[o + 1]? = some v) :
    Calls Try.prog 85 #[.pointer (some ⟨g, o, none⟩)] w fun e w' => e = .returned (.tuple #[]) ∧ Below g w w' ∧ w'.heap[g]? = some (.cells ((cs.setIfInBounds o (.slice none 0 0)).setIfInBounds (o + 1) (.int .i64 0)) t (0, 0)) := by
  refine (file_reset g o u v w ((blk_cell hb o).trans h0) ((blk_cell hb (o + 1)).trans h1) (blk_frozen hb o) (blk_frozen hb (o + 1))).mono ?_
  rintro e w' ⟨rfl, rfl⟩
  exact ⟨rfl, ((Below.refl g w).setCell (Nat.le_refl _) _).setCell (Nat.le_refl _) _, blk_set (blk_set hb o _) (o + 1) _⟩

theorem file_sync_blk (g o n c t : Nat) (A : Option Addr) (s : Int) (cs : Array Value) (w : World) (hb : w.heap[g]? = some (.cells cs t (0, 0))) (h0 : cs[o]? = some (.slice A n c)) (h1 : cs[o + 1]? = some (.int .i64 s)) :
    Calls Try.prog 88 #[.pointer (some ⟨g, o, none⟩)] w fun e w' => e = .returned (.tuple #[]) ∧ Below g w w' ∧ w'.heap[g]? = some (.cells (cs.setIfInBounds (o + 1) (.int .i64 n)) t (0, 0)) := by
  refine (file_sync g o n c A s w ((blk_cell hb o).trans h0) ((blk_cell hb (o + 1)).trans h1) (blk_frozen hb (o + 1))).mono ?_
  rintro e w' ⟨rfl, rfl⟩
  exact ⟨rfl, (Below.refl g w).setCell (Nat.le_refl _) _, blk_set hb (o + 1) _⟩


set_option maxHeartbeats 400000 in
set_option maxRecDepth 100000 in
theorem drive_crash (g t : Nat) (A0 A2 A4 : Option Addr) (n0 c0 n2 c2 n4 c4 : Nat) (s1 s3 s5 keep : Int) (w : World) (hw : w.heap[g]? = some (.cells #[.slice A0 n0 c0, .int .i64 s1, .slice A2 n2 c2, .int .i64 s3, .slice A4 n4 c4, .int .i64 s5] t (0, 0)))
    (h0 : n0 ≤ 200000) (h1 : 0 ≤ s1) (h1' : s1 ≤ (n0 : Int)) (h0' : n0 ≤ c0) (h2 : n2 ≤ 200000) (h3 : 0 ≤ s3) (h3' : s3 ≤ (n2 : Int)) (h2' : n2 ≤ c2) (h4 : n4 ≤ 200000) (h5 : 0 ≤ s5) (h5' : s5 ≤ (n4 : Int)) (h4' : n4 ≤ c4) (hk : 0 ≤ keep) :
    Calls Try.prog 75 #[.pointer (some ⟨g, 0, none⟩), .int .i64 keep] w fun e w' => e = .returned (.tuple #[]) ∧ Below g w w' ∧ w'.heap[g]? = some (.cells #[.slice A0 (keptLen n0 s1 keep).toNat c0, .int .i64 (keptLen n0 s1 keep), .slice A2 (keptLen n2 s3 keep).toNat c2, .int .i64 (keptLen n2 s3 keep), .slice A4 (keptLen n4 s5 keep).toNat c4, .int .i64 (keptLen n4 s5 keep)] t (0, 0)) := by
  have HW := Aside0.mk hw
  clear hw
  go_enter Try.func75, Try.ntmps75
  go_wp2_with fail
  refine wp_loop_rounds 4 ?_
  rw [rounds_succ]
  go_wp2_with fail
  refine (file_crash_blk g 0 n0 c0 t A0 s1 keep _ w HW.out rfl rfl h0 h1 h1' hk h0').mono ?_
  rintro e w1 ⟨rfl, hB1, hb1⟩
  have HB1 := Aside0.mk hB1
  have HW1 := Aside0.mk hb1
  clear hB1 hb1
  go_wp2_with fail
  rw [rounds_succ]
  go_wp2_with fail
  refine (file_crash_blk g 2 n2 c2 t A2 s3 keep _ w1 HW1.out rfl rfl h2 h3 h3' hk h2').mono ?_
  rintro e w2 ⟨rfl, hB2, hb2⟩
  have HB2 := Aside0.mk (HB1.out.trans hB2)
  have HW2 := Aside0.mk hb2
  clear hB2 hb2
  go_wp2_with fail
  rw [rounds_succ]
  go_wp2_with fail
  refine (file_crash_blk g 4 n4 c4 t A4 s5 keep _ w2 HW2.out rfl rfl h4 h5 h5' hk h4').mono ?_
  rintro e w3 ⟨rfl, hB3, hb3⟩
  have HB3 := Aside0.mk (HB2.out.trans hB3)
  have HW3 := Aside0.mk hb3
  clear hB3 hb3
  go_wp2_with fail
  rw [rounds_succ]
  go_wp2_with fail
  go_end0
  exact ⟨rfl, HB3.out, HW3.out⟩

set_option maxHeartbeats 400000 in
set_option maxRecDepth 100000 in
theorem drive_rename (g t : Nat) (A0 A2 A4 : Option Addr) (n0 c0 n2 c2 n4 c4 : Nat) (s1 s3 s5 : Int) (w : World) (hw : w.heap[g]? = some (.cells #[.slice A0 n0 c0, .int .i64 s1, .slice A2 n2 c2, .int .i64 s3, .slice A4 n4 c4, .int .i64 s5] t (0, 0))) :
    Calls Try.prog 81 #[.pointer (some ⟨g, 0, none⟩)] w fun e w' => e = .returned (.tuple #[]) ∧ Below g w w' ∧ w'.heap[g]? = some (.cells #[.slice A0 n0 c0, .int .i64 s1, .slice A4 n4 c4, .int .i64 s5, .slice none 0 0, .int .i64 0] t (0, 0)) := by
  have k0 := blk_cell hw 0
  have k2 := blk_cell hw 2
  have k3 := blk_cell hw 3
  have k4 := blk_cell hw 4
  have k5 := blk_cell hw 5
  have kf : ∀ i, w.frozen? ⟨g, i, none⟩ = false := blk_frozen hw
  simp at k0 k2 k3 k4 k5
  have HW := Aside0.mk hw
  clear hw
  go_enter Try.func81, Try.ntmps81
  go_wp2_with fail
  go_region
  go_wp2_with fail
  have hb := blk_drew (blk_set (blk_set HW.out 2 (.slice A4 n4 c4)) 3 (.int .i64 s5))
  have hB := ((((Below.refl g w).setCell (p := ⟨g, 2, none⟩) (Nat.le_refl _) (.slice A4 n4 c4)).setCell (p := ⟨g, 3, none⟩) (Nat.le_refl _) (.int .i64 s5))).drew
  refine (file_reset_blk g 4 t _ _ _ _ hb rfl rfl).mono ?_
  rintro e w1 ⟨rfl, hB1, hb1⟩
  have HB1 := Aside0.mk (hB.trans hB1)
  have HW1 := Aside0.mk hb1
  clear hB1 hb1 hb hB
  go_wp2_with fail
  go_end0
  exact ⟨rfl, HB1.out, HW1.out⟩

end Go.Proofs.Ytbapokpkgonjkaa.Print

/- DiskCrash, DiskRename. -/
namespace Go.Proofs.Ytbapokpkgonjkaa.Print
open Go.RowKit Go.Proofs.YtbapokpkgonjkaaW.PrintWords Go.Proofs.YtbapokpkgonjkaaW.PrintLast Go.Proofs.YtbapokpkgonjkaaW.PrintMore
set_option linter.unusedVariables false
set_option linter.unusedSimpArgs false

def okDisk (l0_0 : List Int) (a0_1 : Int) (l0_2 : List Int) (a0_3 : Int) (l0_4 : List Int) (a0_5 : Int) : Bool := okFile l0_0.length a0_1 && (okFile l0_2.length a0_3 && okFile l0_4.length a0_5)
theorem okFile_iff {n : Nat} {s : Int} (h : okFile n s = true) : n ≤ 200000 ∧ 0 ≤ s ∧ s ≤ (n : Int) := by
  unfold okFile at h
  simp at h
  omega
theorem okDisk_iff {l0 l2 l4 : List Int} {a1 a3 a5 : Int} (h : okDisk l0 a1 l2 a3 l4 a5 = true) : (l0.length ≤ 200000 ∧ 0 ≤ a1 ∧ a1 ≤ (l0.length : Int)) ∧ (l2.length ≤ 200000 ∧ 0 ≤ a3 ∧ a3 ≤ (l2.length : Int)) ∧ (l4.length ≤ 200000 ∧ 0 ≤ a5 ∧ a5 ≤ (l4.length : Int)) := by
  unfold okDisk at h
  simp only [Bool.and_eq_true] at h
  exact ⟨okFile_iff h.1, okFile_iff h.2.1, okFile_iff h.2.2⟩

theorem R_store6 {w : World} {base lo : Nat} {ok ok' : Nat → Prop} {v : Value} {l : List Int} {rb : Nat} {a b c d e f : Value} (h : Kd.R (Kd.int .u8) 5 w base ok v l) (hok : ∀ k, ok k → ok' k) (hb : rb < base) (hl : lo ≤ base) : Kd.R (Kd.int .u8) 5 ((((((w.setCell ⟨rb, 0, none⟩ a).setCell ⟨rb, 1, none⟩ b).setCell ⟨rb, 2, none⟩ c).setCell ⟨rb, 3, none⟩ d).setCell ⟨rb, 4, none⟩ e).setCell ⟨rb, 5, none⟩ f) lo ok' v l :=
  Kd.R_mono (Kd.R_lower (R_store (R_store (R_store (R_store (R_store (R_store h _ _ _ hb) _ _ _ hb) _ _ _ hb) _ _ _ hb) _ _ _ hb) _ _ _ hb) hl) hok
theorem below_store6 {B : Nat} {w0 w : World} {rb : Nat} {a b c d e f : Value} (h : Below B w0 w) (hb : B ≤ rb) : Below B w0 ((((((w.setCell ⟨rb, 0, none⟩ a).setCell ⟨rb, 1, none⟩ b).setCell ⟨rb, 2, none⟩ c).setCell ⟨rb, 3, none⟩ d).setCell ⟨rb, 4, none⟩ e).setCell ⟨rb, 5, none⟩ f) :=
  (((((h.setCell hb _).setCell hb _).setCell hb _).setCell hb _).setCell hb _).setCell hb _
theorem ownB {A : Option Addr} {n m c : Nat} : (Value.slice A n c).ownBlock = (Value.slice A m c).ownBlock := by cases A <;> rfl
theorem kept_le {n : Nat} {s keep : Int} (hs : 0 ≤ s) (hsn : s ≤ (n : Int)) (hk : 0 ≤ keep) : 0 ≤ keptLen n s keep ∧ keptLen n s keep ≤ (n : Int) := by
  unfold keptLen mn
  split <;> omega

def impl_DiskCrash.f (l0_0 : List Int) (a0_1 : Int) (l0_2 : List Int) (a0_3 : Int) (l0_4 : List Int) (a0_5 : Int) (a1 : Int) : Option (List Int × Int × List Int × Int × List Int × Int × Int) :=
  if okDisk l0_0 a0_1 l0_2 a0_3 l0_4 a0_5 = true ∧ 0 ≤ a1 then some (l0_0.take (keptLen l0_0.length a0_1 a1).toNat, keptLen l0_0.length a0_1 a1, l0_2.take (keptLen l0_2.length a0_3 a1).toNat, keptLen l0_2.length a0_3 a1, l0_4.take (keptLen l0_4.length a0_5 a1).toNat, keptLen l0_4.length a0_5 a1, 0)
  else some ([], 0, [], 0, [], 0, 1)

set_option maxHeartbeats 400000 in
set_option maxRecDepth 100000 in
theorem impl_DiskCrash.calls (A0_0 : Option Addr) (c0_0 : Nat) (l0_0 : List Int) (a0_1 : Int) (A0_2 : Option Addr) (c0_2 : Nat) (l0_2 : List Int) (a0_3 : Int) (A0_4 : Option Addr) (c0_4 : Nat) (l0_4 : List Int) (a0_5 : Int) (a1 : Int) (r1 : List Int) (r2 : Int) (r3 : List Int) (r4 : Int) (r5 : List Int) (r6 : Int) (r7 : Int) (w : World) (hr0_0 : Kd.C (Kd.int .u8) w A0_0 l0_0.length l0_0) (hc0_0 : l0_0.length ≤ c0_0) (hr0_2 : Kd.C (Kd.int .u8) w A0_2 l0_2.length l0_2) (hc0_2 : l0_2.length ≤ c0_2) (hr0_4 : Kd.C (Kd.int .u8) w A0_4 l0_4.length l0_4) (hc0_4 : l0_4.length ≤ c0_4) (h : impl_DiskCrash.f l0_0 a0_1 l0_2 a0_3 l0_4 a0_5 a1 = some (r1, r2, r3, r4, r5, r6, r7)) :
    Calls Try.prog 40 #[.agg #[.slice A0_0 l0_0.length c0_0, .int .i64 a0_1, .slice A0_2 l0_2.length c0_2, .int .i64 a0_3, .slice A0_4 l0_4.length c0_4, .int .i64 a0_5], .int .i64 a1] w fun e w' => ∃ v0_ v2_ v4_ : Value, e = .returned (.tuple #[.agg #[v0_, .int .i64 r2, v2_, .int .i64 r4, v4_, .int .i64 r6], .int .i64 r7]) ∧ Kd.R (Kd.int .u8) 5 w' w.heap.size (fun k_ => some k_ ≠ (v2_ : Value).ownBlock ∧ some k_ ≠ (v4_ : Value).ownBlock) v0_ r1 ∧ Kd.R (Kd.int .u8) 5 w' w.heap.size (fun k_ => some k_ ≠ (v0_ : Value).ownBlock ∧ some k_ ≠ (v4_ : Value).ownBlock) v2_ r3 ∧ Kd.R (Kd.int .u8) 5 w' w.heap.size (fun k_ => some k_ ≠ (v0_ : Value).ownBlock ∧ some k_ ≠ (v2_ : Value).ownBlock) v4_ r5 ∧ Below w.heap.size w w' := by
  have HR0 := Aside0.mk hr0_0
  have HR2 := Aside0.mk hr0_2
  have HR4 := Aside0.mk hr0_4
  clear hr0_0 hr0_2 hr0_4
  rcases hv : okDisk l0_0 a0_1 l0_2 a0_3 l0_4 a0_5 with _ | _
  · have h' : impl_DiskCrash.f l0_0 a0_1 l0_2 a0_3 l0_4 a0_5 a1 = some ([], 0, [], 0, [], 0, 1) := if_neg (fun c => by rw [hv] at c; exact absurd c.1 (by decide))
    rw [h'] at h
    simp only [Option.some.injEq, Prod.mk.injEq] at h
    obtain ⟨rfl, rfl, rfl, rfl, rfl, rfl, rfl⟩ := h
    have HV := Aside0.mk hv
    clear h' hv
    go_enter Try.func40, Try.ntmps40
    go_wp2_with fail
    refine (validDisk_any _ _ _ _ _ _ _ _ _ _ _ _ _).mono ?_
    rintro e w1 ⟨rfl, hb⟩
    have hvv : (okFile l0_0.length a0_1 && (okFile l0_2.length a0_3 && okFile l0_4.length a0_5)) = false := HV.out
    rw [hvv]
    clear hvv
    have hB1 : Below w.heap.size w w1 := below_then (by repeat (first | exact Below.refl _ _ | apply below_alloc)) (by simp; omega) hb
    have hz1 : w.heap.size + 1 < w1.heap.size := by have := hb.size; simp at this; omega
    have hy1 : w.heap.size < w1.heap.size := by omega
    obtain ⟨hc1, hf1⟩ := bcell hb
    have HB1 := Aside0.mk hB1
    clear hB1 hb
    go_wp2_with fail
    refine bodyPost_ret (v := .tuple #[.agg #[.slice none 0 0, .int .i64 0, .slice none 0 0, .int .i64 0, .slice none 0 0, .int .i64 0], .int .i64 1]) ?_ rfl ?_
    · simp [results, Try.results40, go_sem, hc1, hy1, hz1]
    · exact ⟨_, _, _, rfl, Kd.R_nil _ _ _ _ _, Kd.R_nil _ _ _ _ _, Kd.R_nil _ _ _ _ _, below_store6 HB1.out (by omega)⟩
  · by_cases hk : 0 ≤ a1
    · obtain ⟨⟨x0, x1, x2⟩, ⟨y0, y1, y2⟩, ⟨z0, z1, z2⟩⟩ := okDisk_iff hv
      have h' : impl_DiskCrash.f l0_0 a0_1 l0_2 a0_3 l0_4 a0_5 a1 = _ := if_pos ⟨hv, hk⟩
      rw [h'] at h
      simp only [Option.some.injEq, Prod.mk.injEq] at h
      obtain ⟨rfl, rfl, rfl, rfl, rfl, rfl, rfl⟩ := h
      have HV := Aside0.mk hv
      clear h' hv
      have hneg : decide (a1 < 0) = false := by simp; omega
      go_enter Try.func40, Try.ntmps40
      go_wp2_with fail
      refine (validDisk_any _ _ _ _ _ _ _ _ _ _ _ _ _).mono ?_
      rintro e w1 ⟨rfl, hb⟩
      have hvv : (okFile l0_0.length a0_1 && (okFile l0_2.length a0_3 && okFile l0_4.length a0_5)) = true := HV.out
      rw [hvv]
      clear hvv
      have hB1 : Below w.heap.size w w1 := below_then (below_alloc (below_alloc (Below.refl _ _) _) _) (by simp; omega) hb
      have hz1 : w.heap.size + 1 < w1.heap.size := by have := hb.size; simp at this; omega
      have hy1 : w.heap.size < w1.heap.size := by omega
      obtain ⟨hc1, hf1⟩ := bcell hb
      have HB1 := Aside0.mk hB1
      clear hB1 hb
      go_wp2_with fail
      refine (driveOf_any A0_0 A0_2 A0_4 c0_0 c0_2 c0_4 l0_0 l0_2 l0_4 a0_1 a0_3 a0_5 w1 (Kd.C_below HR0.out HB1.out) hc0_0 (Kd.C_below HR2.out HB1.out) hc0_2 (Kd.C_below HR4.out HB1.out) hc0_4 x0 y0 z0).mono ?_
      rintro e w2 ⟨v0, v2, v4, rfl, ho0, ho2, ho4, hb⟩
      obtain ⟨B0, d0, rfl, hd0, _⟩ := Kd.R_reads ho0
      obtain ⟨B2, d2, rfl, hd2, _⟩ := Kd.R_reads ho2
      obtain ⟨B4, d4, rfl, hd4, _⟩ := Kd.R_reads ho4
      have hB2 : Below w.heap.size w w2 := below_then HB1.out (by omega) hb
      have hz2 : w.heap.size + 1 < w2.heap.size := by have := hb.size; omega
      have hy2 : w.heap.size < w2.heap.size := by omega
      obtain ⟨hc2, hf2⟩ := bcell hb
      have HB2 := Aside0.mk hB2
      have HO0 := Aside0.mk ho0
      have HO2 := Aside0.mk ho2
      have HO4 := Aside0.mk ho4
      clear hB2 hb ho0 ho2 ho4
      go_wp2_with fail
      refine (drive_crash w2.heap.size 75 B0 B2 B4 l0_0.length d0 l0_2.length d2 l0_4.length d4 a0_1 a0_3 a0_5 a1 _ (blk_new w2 _) x0 x1 x2 hd0 y0 y1 y2 hd2 z0 z1 z2 hd4 hk).mono ?_
      rintro e w3 ⟨rfl, hB3, hb3⟩
      have hb : Below w2.heap.size w2 w3 := (below_alloc (Below.refl _ _) _).trans hB3
      have hB3' : Below w.heap.size w w3 := below_then HB2.out (by omega) hb
      have hz3 : w.heap.size + 1 < w3.heap.size := by have := hb.size; omega
      have hy3 : w.heap.size < w3.heap.size := by omega
      obtain ⟨hc3, hf3⟩ := bcell hb
      have k0 := blk_cell hb3 0
      have k1 := blk_cell hb3 1
      have k2 := blk_cell hb3 2
      have k3 := blk_cell hb3 3
      have k4 := blk_cell hb3 4
      have k5 := blk_cell hb3 5
      simp at k0 k1 k2 k3 k4 k5
      have HB3 := Aside0.mk hB3'
      have HO0' := Aside0.mk (Kd.R_below HO0.out hb)
      have HO2' := Aside0.mk (Kd.R_below HO2.out hb)
      have HO4' := Aside0.mk (Kd.R_below HO4.out hb)
      clear hB3 hb3 hb hB3' HO0 HO2 HO4
      go_wp2_with fail
      refine (drive_disk _ _ _ _ _ _ _ _ _ _ _ _ _).mono ?_
      rintro e w4 ⟨rfl, hb⟩
      have hB4 : Below w.heap.size w w4 := below_then HB3.out (by omega) hb
      have hz4 : w.heap.size + 1 < w4.heap.size := by have := hb.size; omega
      have hy4 : w.heap.size < w4.heap.size := by omega
      obtain ⟨hc4, hf4⟩ := bcell hb
      have HB4 := Aside0.mk hB4
      have HO0 := Aside0.mk (Kd.R_below HO0'.out hb)
      have HO2 := Aside0.mk (Kd.R_below HO2'.out hb)
      have HO4 := Aside0.mk (Kd.R_below HO4'.out hb)
      clear hB4 hb HO0' HO2' HO4' k0 k1 k2 k3 k4 k5
      go_wp2_with fail
      obtain ⟨p0, p1⟩ := kept_le x1 x2 hk
      obtain ⟨q0, q1⟩ := kept_le y1 y2 hk
      obtain ⟨u0, u1⟩ := kept_le z1 z2 hk
      refine bodyPost_ret (v := .tuple #[.agg #[.slice B0 (keptLen l0_0.length a0_1 a1).toNat d0, .int .i64 (keptLen l0_0.length a0_1 a1), .slice B2 (keptLen l0_2.length a0_3 a1).toNat d2, .int .i64 (keptLen l0_2.length a0_3 a1), .slice B4 (keptLen l0_4.length a0_5 a1).toNat d4, .int .i64 (keptLen l0_4.length a0_5 a1)], .int .i64 0]) ?_ rfl ?_
      · simp [results, Try.results40, go_sem, hc4, hc3, hc2, hc1, hy1, hz1, hy2, hz2, hy3, hz3, hy4, hz4]
      · refine ⟨_, _, _, rfl, ?_, ?_, ?_, ?_⟩
        · exact R_store6 (Kd.R_take HO0.out (by omega)) (fun k hk => ⟨fun e => hk.1 (e.trans ownB), fun e => hk.2 (e.trans ownB)⟩) hz1 (by omega)
        · exact R_store6 (Kd.R_take HO2.out (by omega)) (fun k hk => ⟨fun e => hk.1 (e.trans ownB), fun e => hk.2 (e.trans ownB)⟩) hz1 (by omega)
        · exact R_store6 (Kd.R_take HO4.out (by omega)) (fun k hk => ⟨fun e => hk.1 (e.trans ownB), fun e => hk.2 (e.trans ownB)⟩) hz1 (by omega)
        · exact below_store6 HB4.out (by omega)
    · have h' : impl_DiskCrash.f l0_0 a0_1 l0_2 a0_3 l0_4 a0_5 a1 = some ([], 0, [], 0, [], 0, 1) := if_neg (fun c => hk c.2)
      rw [h'] at h
      simp only [Option.some.injEq, Prod.mk.injEq] at h
      obtain ⟨rfl, rfl, rfl, rfl, rfl, rfl, rfl⟩ := h
      have HV := Aside0.mk hv
      clear h' hv
      have hneg : decide (a1 < 0) = true := by simp; omega
      go_enter Try.func40, Try.ntmps40
      go_wp2_with fail
      refine (validDisk_any _ _ _ _ _ _ _ _ _ _ _ _ _).mono ?_
      rintro e w1 ⟨rfl, hb⟩
      have hvv : (okFile l0_0.length a0_1 && (okFile l0_2.length a0_3 && okFile l0_4.length a0_5)) = true := HV.out
      rw [hvv]
      clear hvv
      have hB1 : Below w.heap.size w w1 := below_then (by repeat (first | exact Below.refl _ _ | apply below_alloc)) (by simp; omega) hb
      have hz1 : w.heap.size + 1 < w1.heap.size := by have := hb.size; simp at this; omega
      have hy1 : w.heap.size < w1.heap.size := by omega
      obtain ⟨hc1, hf1⟩ := bcell hb
      have HB1 := Aside0.mk hB1
      clear hB1 hb
      go_wp2_with fail
      refine bodyPost_ret (v := .tuple #[.agg #[.slice none 0 0, .int .i64 0, .slice none 0 0, .int .i64 0, .slice none 0 0, .int .i64 0], .int .i64 1]) ?_ rfl ?_
      · simp [results, Try.results40, go_sem, hc1, hy1, hz1]
      · exact ⟨_, _, _, rfl, Kd.R_nil _ _ _ _ _, Kd.R_nil _ _ _ _ _, Kd.R_nil _ _ _ _ _, below_store6 HB1.out (by omega)⟩

def impl_DiskRename.f (l0_0 : List Int) (a0_1 : Int) (l0_2 : List Int) (a0_3 : Int) (l0_4 : List Int) (a0_5 : Int) : Option (List Int × Int × List Int × Int × List Int × Int × Int) :=
  if okDisk l0_0 a0_1 l0_2 a0_3 l0_4 a0_5 = true then some (l0_0, a0_1, l0_4, a0_5, [], 0, 0) else some ([], 0, [], 0, [], 0, 1)

set_option maxHeartbeats 400000 in
set_option maxRecDepth 100000 in
theorem impl_DiskRename.calls (A0_0 : Option Addr) (c0_0 : Nat) (l0_0 : List Int) (a0_1 : Int) (A0_2 : Option Addr) (c0_2 : Nat) (l0_2 : List Int) (a0_3 : Int) (A0_4 : Option Addr) (c0_4 : Nat) (l0_4 : List Int) (a0_5 : Int) (r1 : List Int) (r2 : Int) (r3 : List Int) (r4 : Int) (r5 : List Int) (r6 : Int) (r7 : Int) (w : World) (hr0_0 : Kd.C (Kd.int .u8) w A0_0 l0_0.length l0_0) (hc0_0 : l0_0.length ≤ c0_0) (hr0_2 : Kd.C (Kd.int .u8) w A0_2 l0_2.length l0_2) (hc0_2 : l0_2.length ≤ c0_2) (hr0_4 : Kd.C (Kd.int .u8) w A0_4 l0_4.length l0_4) (hc0_4 : l0_4.length ≤ c0_4) (h : impl_DiskRename.f l0_0 a0_1 l0_2 a0_3 l0_4 a0_5 = some (r1, r2, r3, r4, r5, r6, r7)) :
    Calls Try.prog 44 #[.agg #[.slice A0_0 l0_0.length c0_0, .int .i64 a0_1, .slice A0_2 l0_2.length c0_2, .int .i64 a0_3, .slice A0_4 l0_4.length c0_4, .int .i64 a0_5]] w fun e w' => ∃ v0_ v2_ v4_ : Value, e = .returned (.tuple #[.agg #[v0_, .int .i64 r2, v2_, .int .i64 r4, v4_, .int .i64 r6], .int .i64 r7]) ∧ Kd.R (Kd.int .u8) 5 w' w.heap.size (fun k_ => some k_ ≠ (v2_ : Value).ownBlock ∧ some k_ ≠ (v4_ : Value).ownBlock) v0_ r1 ∧ Kd.R (Kd.int .u8) 5 w' w.heap.size (fun k_ => some k_ ≠ (v0_ : Value).ownBlock ∧ some k_ ≠ (v4_ : Value).ownBlock) v2_ r3 ∧ Kd.R (Kd.int .u8) 5 w' w.heap.size (fun k_ => some k_ ≠ (v0_ : Value).ownBlock ∧ some k_ ≠ (v2_ : Value).ownBlock) v4_ r5 ∧ Below w.heap.size w w' := by
  have HR0 := Aside0.mk hr0_0
  have HR2 := Aside0.mk hr0_2
  have HR4 := Aside0.mk hr0_4
  clear hr0_0 hr0_2 hr0_4
  rcases hv : okDisk l0_0 a0_1 l0_2 a0_3 l0_4 a0_5 with _ | _
  · have h' : impl_DiskRename.f l0_0 a0_1 l0_2 a0_3 l0_4 a0_5 = some ([], 0, [], 0, [], 0, 1) := if_neg (fun c => by rw [hv] at c; exact absurd c (by decide))
    rw [h'] at h
    simp only [Option.some.injEq, Prod.mk.injEq] at h
    obtain ⟨rfl, rfl, rfl, rfl, rfl, rfl, rfl⟩ := h
    have HV := Aside0.mk hv
    clear h' hv
    go_enter Try.func44, Try.ntmps44
    go_wp2_with fail
    refine (validDisk_any _ _ _ _ _ _ _ _ _ _ _ _ _).mono ?_
    rintro e w1 ⟨rfl, hb⟩
    have hvv : (okFile l0_0.length a0_1 && (okFile l0_2.length a0_3 && okFile l0_4.length a0_5)) = false := HV.out
    rw [hvv]
    clear hvv
    have hB1 : Below w.heap.size w w1 := below_then (by repeat (first | exact Below.refl _ _ | apply below_alloc)) (by simp; omega) hb
    have hz1 : w.heap.size + 1 < w1.heap.size := by have := hb.size; simp at this; omega
    have hy1 : w.heap.size < w1.heap.size := by omega
    obtain ⟨hc1, hf1⟩ := bcell hb
    have HB1 := Aside0.mk hB1
    clear hB1 hb
    go_wp2_with fail
    refine bodyPost_ret (v := .tuple #[.agg #[.slice none 0 0, .int .i64 0, .slice none 0 0, .int .i64 0, .slice none 0 0, .int .i64 0], .int .i64 1]) ?_ rfl ?_
    · simp [results, Try.results44, go_sem, hc1, hy1, hz1]
    · exact ⟨_, _, _, rfl, Kd.R_nil _ _ _ _ _, Kd.R_nil _ _ _ _ _, Kd.R_nil _ _ _ _ _, below_store6 HB1.out (by omega)⟩
  · obtain ⟨⟨x0, x1, x2⟩, ⟨y0, y1, y2⟩, ⟨z0, z1, z2⟩⟩ := okDisk_iff hv
    have h' : impl_DiskRename.f l0_0 a0_1 l0_2 a0_3 l0_4 a0_5 = _ := if_pos hv
    rw [h'] at h
    simp only [Option.some.injEq, Prod.mk.injEq] at h
    obtain ⟨rfl, rfl, rfl, rfl, rfl, rfl, rfl⟩ := h
    have HV := Aside0.mk hv
    clear h' hv
    go_enter Try.func44, Try.ntmps44
    go_wp2_with fail
    refine (validDisk_any _ _ _ _ _ _ _ _ _ _ _ _ _).mono ?_
    rintro e w1 ⟨rfl, hb⟩
    have hvv : (okFile l0_0.length a0_1 && (okFile l0_2.length a0_3 && okFile l0_4.length a0_5)) = true := HV.out
    rw [hvv]
    clear hvv
    have hB1 : Below w.heap.size w w1 := below_then (below_alloc (below_alloc (Below.refl _ _) _) _) (by simp; omega) hb
    have hz1 : w.heap.size + 1 < w1.heap.size := by have := hb.size; simp at this; omega
    have hy1 : w.heap.size < w1.heap.size := by omega
    obtain ⟨hc1, hf1⟩ := bcell hb
    have HB1 := Aside0.mk hB1
    clear hB1 hb
    go_wp2_with fail
    refine (driveOf_any A0_0 A0_2 A0_4 c0_0 c0_2 c0_4 l0_0 l0_2 l0_4 a0_1 a0_3 a0_5 w1 (Kd.C_below HR0.out HB1.out) hc0_0 (Kd.C_below HR2.out HB1.out) hc0_2 (Kd.C_below HR4.out HB1.out) hc0_4 x0 y0 z0).mono ?_
    rintro e w2 ⟨v0, v2, v4, rfl, ho0, ho2, ho4, hb⟩
    obtain ⟨B0, d0, rfl, hd0, _⟩ := Kd.R_reads ho0
    obtain ⟨B2, d2, rfl, hd2, _⟩ := Kd.R_reads ho2
    obtain ⟨B4, d4, rfl, hd4, _⟩ := Kd.R_reads ho4
    have hB2 : Below w.heap.size w w2 := below_then HB1.out (by omega) hb
    have hz2 : w.heap.size + 1 < w2.heap.size := by have := hb.size; omega
    have hy2 : w.heap.size < w2.heap.size := by omega
    obtain ⟨hc2, hf2⟩ := bcell hb
    have HB2 := Aside0.mk hB2
    have HO0 := Aside0.mk ho0
    have HO2 := Aside0.mk ho2
    have HO4 := Aside0.mk ho4
    clear hB2 hb ho0 ho2 ho4
    go_wp2_with fail
    refine (drive_rename w2.heap.size 75 B0 B2 B4 l0_0.length d0 l0_2.length d2 l0_4.length d4 a0_1 a0_3 a0_5 _ (blk_new w2 _)).mono ?_
    rintro e w3 ⟨rfl, hB3, hb3⟩
    have hb : Below w2.heap.size w2 w3 := (below_alloc (Below.refl _ _) _).trans hB3
    have hB3' : Below w.heap.size w w3 := below_then HB2.out (by omega) hb
    have hz3 : w.heap.size + 1 < w3.heap.size := by have := hb.size; omega
    have hy3 : w.heap.size < w3.heap.size := by omega
    obtain ⟨hc3, hf3⟩ := bcell hb
    have k0 := blk_cell hb3 0
    have k1 := blk_cell hb3 1
    have k2 := blk_cell hb3 2
    have k3 := blk_cell hb3 3
    have k4 := blk_cell hb3 4
    have k5 := blk_cell hb3 5
    simp at k0 k1 k2 k3 k4 k5
    have HB3 := Aside0.mk hB3'
    have HO0' := Aside0.mk (Kd.R_below HO0.out hb)
    have HO2' := Aside0.mk (Kd.R_below HO2.out hb)
    have HO4' := Aside0.mk (Kd.R_below HO4.out hb)
    clear hB3 hb3 hb hB3' HO0 HO2 HO4
    go_wp2_with fail
    refine (drive_disk _ _ _ _ _ _ _ _ _ _ _ _ _).mono ?_
    rintro e w4 ⟨rfl, hb⟩
    have hB4 : Below w.heap.size w w4 := below_then HB3.out (by omega) hb
    have hz4 : w.heap.size + 1 < w4.heap.size := by have := hb.size; omega
    have hy4 : w.heap.size < w4.heap.size := by omega
    obtain ⟨hc4, hf4⟩ := bcell hb
    have HB4 := Aside0.mk hB4
    have HO0 := Aside0.mk (Kd.R_below HO0'.out hb)
    have HO2 := Aside0.mk (Kd.R_below HO2'.out hb)
    have HO4 := Aside0.mk (Kd.R_below HO4'.out hb)
    clear hB4 hb HO0' HO2' HO4' k0 k1 k2 k3 k4 k5
    go_wp2_with fail
    refine bodyPost_ret (v := .tuple #[.agg #[.slice B0 l0_0.length d0, .int .i64 a0_1, .slice B4 l0_4.length d4, .int .i64 a0_5, .slice none 0 0, .int .i64 0], .int .i64 0]) ?_ rfl ?_
    · simp [results, Try.results44, go_sem, hc4, hc3, hc2, hc1, hy1, hz1, hy2, hz2, hy3, hz3, hy4, hz4]
    · refine ⟨_, _, _, rfl, ?_, ?_, ?_, ?_⟩
      · exact R_store6 HO0.out (fun k hk => ⟨hk.2, fun e => by cases e⟩) hz1 (by omega)
      · exact R_store6 HO4.out (fun k hk => ⟨hk.1, fun e => by cases e⟩) hz1 (by omega)
      · exact Kd.R_nil _ _ _ _ _
      · exact below_store6 HB4.out (by omega)

end Go.Proofs.Ytbapokpkgonjkaa.Print

/- The machine's side of the statements: what a Go function comes to, as a Lean function, and that it does so (written by this session's own program over the kit's printer; Lean checks it). -/
namespace Go.Proofs.Ytbapokpkgonjkaa.Print
open Go.RowKit Go.Proofs.YtbapokpkgonjkaaW.PrintWords Go.Proofs.YtbapokpkgonjkaaW.PrintLast Go.Proofs.YtbapokpkgonjkaaW.PrintMore
attribute [local go_sem] max2_int min2_int max_two min_two max_three min_three max_four min_four   -- for this text's walks alone
set_option linter.unusedVariables false
set_option linter.unusedSimpArgs false

/-! ### spec_l1fileOK: function 58 -/
def spec_l1fileOK.f (l0_0 : List Int) (a0_1 : Int) : Option (Bool) := if (l0_0.length : Int) ≤ 200000 then (if a0_1 ≥ 0 then (some (decide (a0_1 ≤ (l0_0.length : Int)))) else (some false)) else (some false)
set_option maxHeartbeats 8000000 in
set_option maxRecDepth 100000 in
theorem spec_l1fileOK.calls (A0_0 : Option Addr) (c0_0 : Nat) (l0_0 : List Int) (a0_1 : Int) (r : Bool) (w : World) (hr0_0 : Kd.C (Kd.int .u8) w A0_0 l0_0.length l0_0) (hc0_0 : l0_0.length ≤ c0_0) (h : spec_l1fileOK.f l0_0 a0_1 = some r) :
    Calls Try.prog 58 #[.agg #[.slice A0_0 l0_0.length c0_0, .int .i64 a0_1]] w fun e w' => e = .returned (.bool r) ∧ Below w.heap.size w w' := by
  have hu29 := Try.underlying29
  have HR0_0 := Aside0.mk hr0_0
  have HC0_0 := Aside0.mk hc0_0
  clear hr0_0 hc0_0
  have HB := Aside0.mk (Below.refl w.heap.size w)
  have H : (if (l0_0.length : Int) ≤ 200000 then (if a0_1 ≥ 0 then (some (decide (a0_1 ≤ (l0_0.length : Int)))) else (some false)) else (some false)) = some r := h
  clear h
  by_cases c2 : (l0_0.length : Int) ≤ 200000
  · rw [if_pos c2] at H
    have c2b0 : decide ((l0_0.length : Int) ≤ 200000) = true := decide_eq_true c2
    have c2b1 : decide (l0_0.length ≤ 200000) = true := decide_eq_true (by omega)
    clear c2
    by_cases c3 : a0_1 ≥ 0
    · rw [if_pos c3] at H
      have c3b0 : decide (0 ≤ a0_1) = true := decide_eq_true c3
      clear c3
      obtain rfl := Option.some.inj H
      go_enter Try.func58, Try.ntmps58
      go_wp2_with (first | ((with_reducible refine gate_dst (N := 1) rfl ?_); (try (refine gate_guard (by rfl) ?_; dsimp only)); refine box_event ?hg (N := 1) ?hd (cs := #[.slice A0_0 l0_0.length c0_0, .int .i64 a0_1]) (t := 29) ?hr ?_; (case hd => rfl); (case hg => rfl); (case hr => first | (go_simp; done) | (go_simp; rfl)); intro gb107 hg w4 hbox hb; have n0_ := Aside0.mk (below_step (by repeat (first | (with_reducible first | exact HB.out | apply below_alloc | apply pw_below_drewN | apply below_drew1) | exact HB.out)) hb); have n1_ := Aside0.mk (hbox); have n2_ := Aside0.mk ((by rw [hg]; exact (below_size (by repeat (first | (with_reducible first | exact HB.out | apply below_alloc | apply pw_below_drewN | apply below_drew1) | exact HB.out))) : w.heap.size ≤ gb107)); have n3_ := Aside0.mk ((by rw [hg]; exact (below_size (by repeat (first | (with_reducible first | exact HB.out | apply below_alloc | apply pw_below_drewN | apply below_drew1) | exact HB.out))) : w.heap.size ≤ gb107)); clear HB; have HB := n0_; have BK107 := n1_; have GW107 := n2_; have GE107 := n3_; clear n0_ n1_ n2_ n3_; clear hb hbox hg; have hcz5_0 : w4.cell? ⟨gb107, 0, none⟩ = some (.slice A0_0 l0_0.length c0_0) := (blk_cell BK107.out 0).trans rfl; have hcz5_1 : w4.cell? ⟨gb107, 1, none⟩ = some (.int .i64 a0_1) := (blk_cell BK107.out 1).trans rfl; have hfz5_0 := blk_frozen BK107.out 0; have hfz5_1 := blk_frozen BK107.out 1))
      go_ret
      exact ⟨by first | rfl | (simp [errW_none, errW_some] <;> rfl) | (simp [*, errW_none, errW_some] <;> rfl), by repeat (first | (with_reducible first | exact HB.out | apply below_alloc | apply pw_below_drewN | apply below_drew1 | refine below_set ?_ GE107.out) | exact HB.out)⟩
    · rw [if_neg c3] at H
      have c3b0 : decide (0 ≤ a0_1) = false := decide_eq_false c3
      clear c3
      obtain rfl := Option.some.inj H
      go_enter Try.func58, Try.ntmps58
      go_wp2_with (first | ((with_reducible refine gate_dst (N := 1) rfl ?_); (try (refine gate_guard (by rfl) ?_; dsimp only)); refine box_event ?hg (N := 1) ?hd (cs := #[.slice A0_0 l0_0.length c0_0, .int .i64 a0_1]) (t := 29) ?hr ?_; (case hd => rfl); (case hg => rfl); (case hr => first | (go_simp; done) | (go_simp; rfl)); intro gb107 hg w6 hbox hb; have n0_ := Aside0.mk (below_step (by repeat (first | (with_reducible first | exact HB.out | apply below_alloc | apply pw_below_drewN | apply below_drew1) | exact HB.out)) hb); have n1_ := Aside0.mk (hbox); have n2_ := Aside0.mk ((by rw [hg]; exact (below_size (by repeat (first | (with_reducible first | exact HB.out | apply below_alloc | apply pw_below_drewN | apply below_drew1) | exact HB.out))) : w.heap.size ≤ gb107)); have n3_ := Aside0.mk ((by rw [hg]; exact (below_size (by repeat (first | (with_reducible first | exact HB.out | apply below_alloc | apply pw_below_drewN | apply below_drew1) | exact HB.out))) : w.heap.size ≤ gb107)); clear HB; have HB := n0_; have BK107 := n1_; have GW107 := n2_; have GE107 := n3_; clear n0_ n1_ n2_ n3_; clear hb hbox hg; have hcz7_0 : w6.cell? ⟨gb107, 0, none⟩ = some (.slice A0_0 l0_0.length c0_0) := (blk_cell BK107.out 0).trans rfl; have hcz7_1 : w6.cell? ⟨gb107, 1, none⟩ = some (.int .i64 a0_1) := (blk_cell BK107.out 1).trans rfl; have hfz7_0 := blk_frozen BK107.out 0; have hfz7_1 := blk_frozen BK107.out 1))
      go_ret
      exact ⟨by first | rfl | (simp [errW_none, errW_some] <;> rfl) | (simp [*, errW_none, errW_some] <;> rfl), by repeat (first | (with_reducible first | exact HB.out | apply below_alloc | apply pw_below_drewN | apply below_drew1 | refine below_set ?_ GE107.out) | exact HB.out)⟩
  · rw [if_neg c2] at H
    have c2b0 : decide ((l0_0.length : Int) ≤ 200000) = false := decide_eq_false c2
    have c2b1 : decide (l0_0.length ≤ 200000) = false := decide_eq_false (by omega)
    clear c2
    obtain rfl := Option.some.inj H
    go_enter Try.func58, Try.ntmps58
    go_wp2_with (first | ((with_reducible refine gate_dst (N := 1) rfl ?_); (try (refine gate_guard (by rfl) ?_; dsimp only)); refine box_event ?hg (N := 1) ?hd (cs := #[.slice A0_0 l0_0.length c0_0, .int .i64 a0_1]) (t := 29) ?hr ?_; (case hd => rfl); (case hg => rfl); (case hr => first | (go_simp; done) | (go_simp; rfl)); intro gb107 hg w8 hbox hb; have n0_ := Aside0.mk (below_step (by repeat (first | (with_reducible first | exact HB.out | apply below_alloc | apply pw_below_drewN | apply below_drew1) | exact HB.out)) hb); have n1_ := Aside0.mk (hbox); have n2_ := Aside0.mk ((by rw [hg]; exact (below_size (by repeat (first | (with_reducible first | exact HB.out | apply below_alloc | apply pw_below_drewN | apply below_drew1) | exact HB.out))) : w.heap.size ≤ gb107)); have n3_ := Aside0.mk ((by rw [hg]; exact (below_size (by repeat (first | (with_reducible first | exact HB.out | apply below_alloc | apply pw_below_drewN | apply below_drew1) | exact HB.out))) : w.heap.size ≤ gb107)); clear HB; have HB := n0_; have BK107 := n1_; have GW107 := n2_; have GE107 := n3_; clear n0_ n1_ n2_ n3_; clear hb hbox hg; have hcz9_0 : w8.cell? ⟨gb107, 0, none⟩ = some (.slice A0_0 l0_0.length c0_0) := (blk_cell BK107.out 0).trans rfl; have hcz9_1 : w8.cell? ⟨gb107, 1, none⟩ = some (.int .i64 a0_1) := (blk_cell BK107.out 1).trans rfl; have hfz9_0 := blk_frozen BK107.out 0; have hfz9_1 := blk_frozen BK107.out 1))
    go_ret
    exact ⟨by first | rfl | (simp [errW_none, errW_some] <;> rfl) | (simp [*, errW_none, errW_some] <;> rfl), by repeat (first | (with_reducible first | exact HB.out | apply below_alloc | apply pw_below_drewN | apply below_drew1 | refine below_set ?_ GE107.out) | exact HB.out)⟩

end Go.Proofs.Ytbapokpkgonjkaa.Print

/- The machine's side of the statements: what a Go function comes to, as a Lean function, and that it does so (written by this session's own program over the kit's printer; Lean checks it). -/
namespace Go.Proofs.Ytbapokpkgonjkaa.Print
open Go.RowKit Go.Proofs.YtbapokpkgonjkaaW.PrintWords Go.Proofs.YtbapokpkgonjkaaW.PrintLast Go.Proofs.YtbapokpkgonjkaaW.PrintMore
attribute [local go_sem] max2_int min2_int max_two min_two max_three min_three max_four min_four   -- for this text's walks alone
set_option linter.unusedVariables false
set_option linter.unusedSimpArgs false

/-! ### spec_ValidDisk: function 16 -/
def spec_ValidDisk.f (l0_0 : List Int) (a0_1 : Int) (l0_2 : List Int) (a0_3 : Int) (l0_4 : List Int) (a0_5 : Int) : Option (Bool) := (spec_l1fileOK.f l0_0 a0_1).bind fun t109 => (if t109 = true then ((spec_l1fileOK.f l0_2 a0_3).bind fun t110 => (if t110 = true then ((spec_l1fileOK.f l0_4 a0_5).bind fun t111 => (some t111)) else (some false))) else (some false))
set_option maxHeartbeats 8000000 in
set_option maxRecDepth 100000 in
theorem spec_ValidDisk.calls (A0_0 : Option Addr) (c0_0 : Nat) (l0_0 : List Int) (a0_1 : Int) (A0_2 : Option Addr) (c0_2 : Nat) (l0_2 : List Int) (a0_3 : Int) (A0_4 : Option Addr) (c0_4 : Nat) (l0_4 : List Int) (a0_5 : Int) (r : Bool) (w : World) (hr0_0 : Kd.C (Kd.int .u8) w A0_0 l0_0.length l0_0) (hc0_0 : l0_0.length ≤ c0_0) (hr0_2 : Kd.C (Kd.int .u8) w A0_2 l0_2.length l0_2) (hc0_2 : l0_2.length ≤ c0_2) (hr0_4 : Kd.C (Kd.int .u8) w A0_4 l0_4.length l0_4) (hc0_4 : l0_4.length ≤ c0_4) (h : spec_ValidDisk.f l0_0 a0_1 l0_2 a0_3 l0_4 a0_5 = some r) :
    Calls Try.prog 16 #[.agg #[.slice A0_0 l0_0.length c0_0, .int .i64 a0_1, .slice A0_2 l0_2.length c0_2, .int .i64 a0_3, .slice A0_4 l0_4.length c0_4, .int .i64 a0_5]] w fun e w' => e = .returned (.bool r) ∧ Below w.heap.size w w' := by
  have hu31 := Try.underlying31
  have hu29 := Try.underlying29
  have HR0_0 := Aside0.mk hr0_0
  have HC0_0 := Aside0.mk hc0_0
  clear hr0_0 hc0_0
  have HR0_2 := Aside0.mk hr0_2
  have HC0_2 := Aside0.mk hc0_2
  clear hr0_2 hc0_2
  have HR0_4 := Aside0.mk hr0_4
  have HC0_4 := Aside0.mk hc0_4
  clear hr0_4 hc0_4
  have HB := Aside0.mk (Below.refl w.heap.size w)
  have H : ((spec_l1fileOK.f l0_0 a0_1).bind fun t109 => (if t109 = true then ((spec_l1fileOK.f l0_2 a0_3).bind fun t110 => (if t110 = true then ((spec_l1fileOK.f l0_4 a0_5).bind fun t111 => (some t111)) else (some false))) else (some false))) = some r := h
  clear h
  replace H := Option.bind_eq_some_iff.mp H
  obtain ⟨t109, A20, H⟩ := H
  replace H : (if t109 = true then ((spec_l1fileOK.f l0_2 a0_3).bind fun t110 => (if t110 = true then ((spec_l1fileOK.f l0_4 a0_5).bind fun t111 => (some t111)) else (some false))) else (some false)) = some r := H
  have A2 := Aside0.mk A20
  clear A20
  by_cases c3 : t109 = true
  · subst c3
    have H1 : ((spec_l1fileOK.f l0_2 a0_3).bind fun t110 => (if t110 = true then ((spec_l1fileOK.f l0_4 a0_5).bind fun t111 => (some t111)) else (some false))) = some r := by first | rfl | (rw [if_pos rfl] at H; exact H)
    clear H
    have H := H1
    clear H1
    replace H := Option.bind_eq_some_iff.mp H
    obtain ⟨t110, A40, H⟩ := H
    replace H : (if t110 = true then ((spec_l1fileOK.f l0_4 a0_5).bind fun t111 => (some t111)) else (some false)) = some r := H
    have A4 := Aside0.mk A40
    clear A40
    by_cases c5 : t110 = true
    · subst c5
      have H1 : ((spec_l1fileOK.f l0_4 a0_5).bind fun t111 => (some t111)) = some r := by first | rfl | (rw [if_pos rfl] at H; exact H)
      clear H
      have H := H1
      clear H1
      replace H := Option.bind_eq_some_iff.mp H
      obtain ⟨t111, A60, H⟩ := H
      replace H : (some t111) = some r := H
      have A6 := Aside0.mk A60
      clear A60
      obtain rfl := Option.some.inj H
      go_enter Try.func16, Try.ntmps16
      go_wp2_with (first | ((with_reducible refine gate_dst (N := 1) rfl ?_); refine box_event ?hg (N := 1) ?hd (cs := #[.slice A0_0 l0_0.length c0_0, .int .i64 a0_1, .slice A0_2 l0_2.length c0_2, .int .i64 a0_3, .slice A0_4 l0_4.length c0_4, .int .i64 a0_5]) (t := 31) ?hr ?_; (case hd => rfl); (case hg => rfl); (case hr => first | (go_simp; done) | (go_simp; rfl)); intro gb108 hg w7 hbox hb; have n0_ := Aside0.mk (below_step (by repeat (first | (with_reducible first | exact HB.out | apply below_alloc | apply pw_below_drewN | apply below_drew1) | exact HB.out)) hb); have n1_ := Aside0.mk (hbox); have n2_ := Aside0.mk ((by rw [hg]; exact (below_size (by repeat (first | (with_reducible first | exact HB.out | apply below_alloc | apply pw_below_drewN | apply below_drew1) | exact HB.out))) : w.heap.size ≤ gb108)); have n3_ := Aside0.mk ((by rw [hg]; exact (below_size (by repeat (first | (with_reducible first | exact HB.out | apply below_alloc | apply pw_below_drewN | apply below_drew1) | exact HB.out))) : w.heap.size ≤ gb108)); clear HB; have HB := n0_; have BK108 := n1_; have GW108 := n2_; have GE108 := n3_; clear n0_ n1_ n2_ n3_; clear hb hbox hg; have hcz8_0 : w7.cell? ⟨gb108, 0, none⟩ = some (.slice A0_0 l0_0.length c0_0) := (blk_cell BK108.out 0).trans rfl; have hcz8_1 : w7.cell? ⟨gb108, 1, none⟩ = some (.int .i64 a0_1) := (blk_cell BK108.out 1).trans rfl; have hcz8_2 : w7.cell? ⟨gb108, 2, none⟩ = some (.slice A0_2 l0_2.length c0_2) := (blk_cell BK108.out 2).trans rfl; have hcz8_3 : w7.cell? ⟨gb108, 3, none⟩ = some (.int .i64 a0_3) := (blk_cell BK108.out 3).trans rfl; have hcz8_4 : w7.cell? ⟨gb108, 4, none⟩ = some (.slice A0_4 l0_4.length c0_4) := (blk_cell BK108.out 4).trans rfl; have hcz8_5 : w7.cell? ⟨gb108, 5, none⟩ = some (.int .i64 a0_5) := (blk_cell BK108.out 5).trans rfl; have hfz8_0 := blk_frozen BK108.out 0; have hfz8_1 := blk_frozen BK108.out 1; have hfz8_2 := blk_frozen BK108.out 2; have hfz8_3 := blk_frozen BK108.out 3; have hfz8_4 := blk_frozen BK108.out 4; have hfz8_5 := blk_frozen BK108.out 5) | ((with_reducible refine gate_callee (f := 58) rfl ?_); refine goesL_ (some 5) rfl rfl Try.func58 (by kernel_rfl) rfl #[.agg #[.slice A0_0 l0_0.length c0_0, .int .i64 a0_1]] rfl (by (try simp only [List.map_toArray, List.map_cons, List.map_nil]); first | done | rfl | (simp only [List.length_drop, List.length_take]; rfl)) ?_; (with_reducible refine (spec_l1fileOK.calls _ _ l0_0 a0_1 true _ ?side1 ?side2 A2.out).mono ?_); (case side1 => repeat (first | exact (Kd.C_below HR0_0.out HB.out) | (with_reducible refine Kd.C_alloc ?_ _) | (with_reducible refine Kd.C_drewN ?_ _) | (with_reducible refine Kd.C_drew ?_))); (case side2 => exact HC0_0.out); rintro e w9 ⟨rfl, hb⟩; refine ⟨_, rfl, ?_⟩; have n0_ := Aside0.mk (blk_below (g := gb108) (o := .cells #[.slice A0_0 l0_0.length c0_0, .int .i64 a0_1, .slice A0_2 l0_2.length c0_2, .int .i64 a0_3, .slice A0_4 l0_4.length c0_4, .int .i64 a0_5] 31 (0, 0)) (by (with_reducible repeat (first | refine blk_drewN ?_ _ | refine blk_drew ?_ | refine blk_alloc ?_ _)); exact BK108.out) hb); have n1_ := Aside0.mk (below_step (by repeat (first | (with_reducible first | exact HB.out | apply below_alloc | apply pw_below_drewN | apply below_drew1 | refine below_set ?_ GE108.out) | exact HB.out)) hb); clear BK108; clear HB; have BK108 := n0_; have HB := n1_; clear n0_ n1_; (try clear hb); (try clear hb2); (try clear hk); (try clear hi); have hcz10_0 : w9.cell? ⟨gb108, 0, none⟩ = some (.slice A0_0 l0_0.length c0_0) := (blk_cell BK108.out 0).trans rfl; have hcz10_1 : w9.cell? ⟨gb108, 1, none⟩ = some (.int .i64 a0_1) := (blk_cell BK108.out 1).trans rfl; have hcz10_2 : w9.cell? ⟨gb108, 2, none⟩ = some (.slice A0_2 l0_2.length c0_2) := (blk_cell BK108.out 2).trans rfl; have hcz10_3 : w9.cell? ⟨gb108, 3, none⟩ = some (.int .i64 a0_3) := (blk_cell BK108.out 3).trans rfl; have hcz10_4 : w9.cell? ⟨gb108, 4, none⟩ = some (.slice A0_4 l0_4.length c0_4) := (blk_cell BK108.out 4).trans rfl; have hcz10_5 : w9.cell? ⟨gb108, 5, none⟩ = some (.int .i64 a0_5) := (blk_cell BK108.out 5).trans rfl; have hfz10_0 := blk_frozen BK108.out 0; have hfz10_1 := blk_frozen BK108.out 1; have hfz10_2 := blk_frozen BK108.out 2; have hfz10_3 := blk_frozen BK108.out 3; have hfz10_4 := blk_frozen BK108.out 4; have hfz10_5 := blk_frozen BK108.out 5) | (go_at_call 58; (with_reducible refine (spec_l1fileOK.calls _ _ l0_2 a0_3 true _ ?side1 ?side2 A4.out).mono ?_); (case side1 => repeat (first | exact (Kd.C_below HR0_2.out HB.out) | (with_reducible refine Kd.C_alloc ?_ _) | (with_reducible refine Kd.C_drewN ?_ _) | (with_reducible refine Kd.C_drew ?_))); (case side2 => exact HC0_2.out); rintro e w11 ⟨rfl, hb⟩; have n0_ := Aside0.mk (blk_below (g := gb108) (o := .cells #[.slice A0_0 l0_0.length c0_0, .int .i64 a0_1, .slice A0_2 l0_2.length c0_2, .int .i64 a0_3, .slice A0_4 l0_4.length c0_4, .int .i64 a0_5] 31 (0, 0)) (by (with_reducible repeat (first | refine blk_drewN ?_ _ | refine blk_drew ?_ | refine blk_alloc ?_ _)); exact BK108.out) hb); have n1_ := Aside0.mk (below_step (by repeat (first | (with_reducible first | exact HB.out | apply below_alloc | apply pw_below_drewN | apply below_drew1 | refine below_set ?_ GE108.out) | exact HB.out)) hb); clear BK108; clear HB; have BK108 := n0_; have HB := n1_; clear n0_ n1_; (try clear hb); (try clear hb2); (try clear hk); (try clear hi); have hcz12_0 : w11.cell? ⟨gb108, 0, none⟩ = some (.slice A0_0 l0_0.length c0_0) := (blk_cell BK108.out 0).trans rfl; have hcz12_1 : w11.cell? ⟨gb108, 1, none⟩ = some (.int .i64 a0_1) := (blk_cell BK108.out 1).trans rfl; have hcz12_2 : w11.cell? ⟨gb108, 2, none⟩ = some (.slice A0_2 l0_2.length c0_2) := (blk_cell BK108.out 2).trans rfl; have hcz12_3 : w11.cell? ⟨gb108, 3, none⟩ = some (.int .i64 a0_3) := (blk_cell BK108.out 3).trans rfl; have hcz12_4 : w11.cell? ⟨gb108, 4, none⟩ = some (.slice A0_4 l0_4.length c0_4) := (blk_cell BK108.out 4).trans rfl; have hcz12_5 : w11.cell? ⟨gb108, 5, none⟩ = some (.int .i64 a0_5) := (blk_cell BK108.out 5).trans rfl; have hfz12_0 := blk_frozen BK108.out 0; have hfz12_1 := blk_frozen BK108.out 1; have hfz12_2 := blk_frozen BK108.out 2; have hfz12_3 := blk_frozen BK108.out 3; have hfz12_4 := blk_frozen BK108.out 4; have hfz12_5 := blk_frozen BK108.out 5) | (go_at_call 58; (with_reducible refine (spec_l1fileOK.calls _ _ l0_4 a0_5 t111 _ ?side1 ?side2 A6.out).mono ?_); (case side1 => repeat (first | exact (Kd.C_below HR0_4.out HB.out) | (with_reducible refine Kd.C_alloc ?_ _) | (with_reducible refine Kd.C_drewN ?_ _) | (with_reducible refine Kd.C_drew ?_))); (case side2 => exact HC0_4.out); rintro e w13 ⟨rfl, hb⟩; have n0_ := Aside0.mk (blk_below (g := gb108) (o := .cells #[.slice A0_0 l0_0.length c0_0, .int .i64 a0_1, .slice A0_2 l0_2.length c0_2, .int .i64 a0_3, .slice A0_4 l0_4.length c0_4, .int .i64 a0_5] 31 (0, 0)) (by (with_reducible repeat (first | refine blk_drewN ?_ _ | refine blk_drew ?_ | refine blk_alloc ?_ _)); exact BK108.out) hb); have n1_ := Aside0.mk (below_step (by repeat (first | (with_reducible first | exact HB.out | apply below_alloc | apply pw_below_drewN | apply below_drew1 | refine below_set ?_ GE108.out) | exact HB.out)) hb); clear BK108; clear HB; have BK108 := n0_; have HB := n1_; clear n0_ n1_; (try clear hb); (try clear hb2); (try clear hk); (try clear hi)))
      go_ret
      exact ⟨by first | rfl | (simp [errW_none, errW_some] <;> rfl) | (simp [*, errW_none, errW_some] <;> rfl), by repeat (first | (with_reducible first | exact HB.out | apply below_alloc | apply pw_below_drewN | apply below_drew1 | refine below_set ?_ GE108.out) | exact HB.out)⟩
    · replace c5 := Bool.eq_false_iff.mpr c5
      subst c5
      have H1 : (some false) = some r := by first | rfl | (rw [if_neg (show ¬ (false = true) by decide)] at H; exact H)
      clear H
      have H := H1
      clear H1
      obtain rfl := Option.some.inj H
      go_enter Try.func16, Try.ntmps16
      go_wp2_with (first | ((with_reducible refine gate_dst (N := 1) rfl ?_); refine box_event ?hg (N := 1) ?hd (cs := #[.slice A0_0 l0_0.length c0_0, .int .i64 a0_1, .slice A0_2 l0_2.length c0_2, .int .i64 a0_3, .slice A0_4 l0_4.length c0_4, .int .i64 a0_5]) (t := 31) ?hr ?_; (case hd => rfl); (case hg => rfl); (case hr => first | (go_simp; done) | (go_simp; rfl)); intro gb108 hg w14 hbox hb; have n0_ := Aside0.mk (below_step (by repeat (first | (with_reducible first | exact HB.out | apply below_alloc | apply pw_below_drewN | apply below_drew1) | exact HB.out)) hb); have n1_ := Aside0.mk (hbox); have n2_ := Aside0.mk ((by rw [hg]; exact (below_size (by repeat (first | (with_reducible first | exact HB.out | apply below_alloc | apply pw_below_drewN | apply below_drew1) | exact HB.out))) : w.heap.size ≤ gb108)); have n3_ := Aside0.mk ((by rw [hg]; exact (below_size (by repeat (first | (with_reducible first | exact HB.out | apply below_alloc | apply pw_below_drewN | apply below_drew1) | exact HB.out))) : w.heap.size ≤ gb108)); clear HB; have HB := n0_; have BK108 := n1_; have GW108 := n2_; have GE108 := n3_; clear n0_ n1_ n2_ n3_; clear hb hbox hg; have hcz15_0 : w14.cell? ⟨gb108, 0, none⟩ = some (.slice A0_0 l0_0.length c0_0) := (blk_cell BK108.out 0).trans rfl; have hcz15_1 : w14.cell? ⟨gb108, 1, none⟩ = some (.int .i64 a0_1) := (blk_cell BK108.out 1).trans rfl; have hcz15_2 : w14.cell? ⟨gb108, 2, none⟩ = some (.slice A0_2 l0_2.length c0_2) := (blk_cell BK108.out 2).trans rfl; have hcz15_3 : w14.cell? ⟨gb108, 3, none⟩ = some (.int .i64 a0_3) := (blk_cell BK108.out 3).trans rfl; have hcz15_4 : w14.cell? ⟨gb108, 4, none⟩ = some (.slice A0_4 l0_4.length c0_4) := (blk_cell BK108.out 4).trans rfl; have hcz15_5 : w14.cell? ⟨gb108, 5, none⟩ = some (.int .i64 a0_5) := (blk_cell BK108.out 5).trans rfl; have hfz15_0 := blk_frozen BK108.out 0; have hfz15_1 := blk_frozen BK108.out 1; have hfz15_2 := blk_frozen BK108.out 2; have hfz15_3 := blk_frozen BK108.out 3; have hfz15_4 := blk_frozen BK108.out 4; have hfz15_5 := blk_frozen BK108.out 5) | ((with_reducible refine gate_callee (f := 58) rfl ?_); refine goesL_ (some 5) rfl rfl Try.func58 (by kernel_rfl) rfl #[.agg #[.slice A0_0 l0_0.length c0_0, .int .i64 a0_1]] rfl (by (try simp only [List.map_toArray, List.map_cons, List.map_nil]); first | done | rfl | (simp only [List.length_drop, List.length_take]; rfl)) ?_; (with_reducible refine (spec_l1fileOK.calls _ _ l0_0 a0_1 true _ ?side1 ?side2 A2.out).mono ?_); (case side1 => repeat (first | exact (Kd.C_below HR0_0.out HB.out) | (with_reducible refine Kd.C_alloc ?_ _) | (with_reducible refine Kd.C_drewN ?_ _) | (with_reducible refine Kd.C_drew ?_))); (case side2 => exact HC0_0.out); rintro e w16 ⟨rfl, hb⟩; refine ⟨_, rfl, ?_⟩; have n0_ := Aside0.mk (blk_below (g := gb108) (o := .cells #[.slice A0_0 l0_0.length c0_0, .int .i64 a0_1, .slice A0_2 l0_2.length c0_2, .int .i64 a0_3, .slice A0_4 l0_4.length c0_4, .int .i64 a0_5] 31 (0, 0)) (by (with_reducible repeat (first | refine blk_drewN ?_ _ | refine blk_drew ?_ | refine blk_alloc ?_ _)); exact BK108.out) hb); have n1_ := Aside0.mk (below_step (by repeat (first | (with_reducible first | exact HB.out | apply below_alloc | apply pw_below_drewN | apply below_drew1 | refine below_set ?_ GE108.out) | exact HB.out)) hb); clear BK108; clear HB; have BK108 := n0_; have HB := n1_; clear n0_ n1_; (try clear hb); (try clear hb2); (try clear hk); (try clear hi); have hcz17_0 : w16.cell? ⟨gb108, 0, none⟩ = some (.slice A0_0 l0_0.length c0_0) := (blk_cell BK108.out 0).trans rfl; have hcz17_1 : w16.cell? ⟨gb108, 1, none⟩ = some (.int .i64 a0_1) := (blk_cell BK108.out 1).trans rfl; have hcz17_2 : w16.cell? ⟨gb108, 2, none⟩ = some (.slice A0_2 l0_2.length c0_2) := (blk_cell BK108.out 2).trans rfl; have hcz17_3 : w16.cell? ⟨gb108, 3, none⟩ = some (.int .i64 a0_3) := (blk_cell BK108.out 3).trans rfl; have hcz17_4 : w16.cell? ⟨gb108, 4, none⟩ = some (.slice A0_4 l0_4.length c0_4) := (blk_cell BK108.out 4).trans rfl; have hcz17_5 : w16.cell? ⟨gb108, 5, none⟩ = some (.int .i64 a0_5) := (blk_cell BK108.out 5).trans rfl; have hfz17_0 := blk_frozen BK108.out 0; have hfz17_1 := blk_frozen BK108.out 1; have hfz17_2 := blk_frozen BK108.out 2; have hfz17_3 := blk_frozen BK108.out 3; have hfz17_4 := blk_frozen BK108.out 4; have hfz17_5 := blk_frozen BK108.out 5) | (go_at_call 58; (with_reducible refine (spec_l1fileOK.calls _ _ l0_2 a0_3 false _ ?side1 ?side2 A4.out).mono ?_); (case side1 => repeat (first | exact (Kd.C_below HR0_2.out HB.out) | (with_reducible refine Kd.C_alloc ?_ _) | (with_reducible refine Kd.C_drewN ?_ _) | (with_reducible refine Kd.C_drew ?_))); (case side2 => exact HC0_2.out); rintro e w18 ⟨rfl, hb⟩; have n0_ := Aside0.mk (blk_below (g := gb108) (o := .cells #[.slice A0_0 l0_0.length c0_0, .int .i64 a0_1, .slice A0_2 l0_2.length c0_2, .int .i64 a0_3, .slice A0_4 l0_4.length c0_4, .int .i64 a0_5] 31 (0, 0)) (by (with_reducible repeat (first | refine blk_drewN ?_ _ | refine blk_drew ?_ | refine blk_alloc ?_ _)); exact BK108.out) hb); have n1_ := Aside0.mk (below_step (by repeat (first | (with_reducible first | exact HB.out | apply below_alloc | apply pw_below_drewN | apply below_drew1 | refine below_set ?_ GE108.out) | exact HB.out)) hb); clear BK108; clear HB; have BK108 := n0_; have HB := n1_; clear n0_ n1_; (try clear hb); (try clear hb2); (try clear hk); (try clear hi)))
      go_ret
      exact ⟨by first | rfl | (simp [errW_none, errW_some] <;> rfl) | (simp [*, errW_none, errW_some] <;> rfl), by repeat (first | (with_reducible first | exact HB.out | apply below_alloc | apply pw_below_drewN | apply below_drew1 | refine below_set ?_ GE108.out) | exact HB.out)⟩
  · replace c3 := Bool.eq_false_iff.mpr c3
    subst c3
    have H1 : (some false) = some r := by first | rfl | (rw [if_neg (show ¬ (false = true) by decide)] at H; exact H)
    clear H
    have H := H1
    clear H1
    obtain rfl := Option.some.inj H
    go_enter Try.func16, Try.ntmps16
    go_wp2_with (first | ((with_reducible refine gate_dst (N := 1) rfl ?_); refine box_event ?hg (N := 1) ?hd (cs := #[.slice A0_0 l0_0.length c0_0, .int .i64 a0_1, .slice A0_2 l0_2.length c0_2, .int .i64 a0_3, .slice A0_4 l0_4.length c0_4, .int .i64 a0_5]) (t := 31) ?hr ?_; (case hd => rfl); (case hg => rfl); (case hr => first | (go_simp; done) | (go_simp; rfl)); intro gb108 hg w19 hbox hb; have n0_ := Aside0.mk (below_step (by repeat (first | (with_reducible first | exact HB.out | apply below_alloc | apply pw_below_drewN | apply below_drew1) | exact HB.out)) hb); have n1_ := Aside0.mk (hbox); have n2_ := Aside0.mk ((by rw [hg]; exact (below_size (by repeat (first | (with_reducible first | exact HB.out | apply below_alloc | apply pw_below_drewN | apply below_drew1) | exact HB.out))) : w.heap.size ≤ gb108)); have n3_ := Aside0.mk ((by rw [hg]; exact (below_size (by repeat (first | (with_reducible first | exact HB.out | apply below_alloc | apply pw_below_drewN | apply below_drew1) | exact HB.out))) : w.heap.size ≤ gb108)); clear HB; have HB := n0_; have BK108 := n1_; have GW108 := n2_; have GE108 := n3_; clear n0_ n1_ n2_ n3_; clear hb hbox hg; have hcz20_0 : w19.cell? ⟨gb108, 0, none⟩ = some (.slice A0_0 l0_0.length c0_0) := (blk_cell BK108.out 0).trans rfl; have hcz20_1 : w19.cell? ⟨gb108, 1, none⟩ = some (.int .i64 a0_1) := (blk_cell BK108.out 1).trans rfl; have hcz20_2 : w19.cell? ⟨gb108, 2, none⟩ = some (.slice A0_2 l0_2.length c0_2) := (blk_cell BK108.out 2).trans rfl; have hcz20_3 : w19.cell? ⟨gb108, 3, none⟩ = some (.int .i64 a0_3) := (blk_cell BK108.out 3).trans rfl; have hcz20_4 : w19.cell? ⟨gb108, 4, none⟩ = some (.slice A0_4 l0_4.length c0_4) := (blk_cell BK108.out 4).trans rfl; have hcz20_5 : w19.cell? ⟨gb108, 5, none⟩ = some (.int .i64 a0_5) := (blk_cell BK108.out 5).trans rfl; have hfz20_0 := blk_frozen BK108.out 0; have hfz20_1 := blk_frozen BK108.out 1; have hfz20_2 := blk_frozen BK108.out 2; have hfz20_3 := blk_frozen BK108.out 3; have hfz20_4 := blk_frozen BK108.out 4; have hfz20_5 := blk_frozen BK108.out 5) | ((with_reducible refine gate_callee (f := 58) rfl ?_); refine goesL_ (some 5) rfl rfl Try.func58 (by kernel_rfl) rfl #[.agg #[.slice A0_0 l0_0.length c0_0, .int .i64 a0_1]] rfl (by (try simp only [List.map_toArray, List.map_cons, List.map_nil]); first | done | rfl | (simp only [List.length_drop, List.length_take]; rfl)) ?_; (with_reducible refine (spec_l1fileOK.calls _ _ l0_0 a0_1 false _ ?side1 ?side2 A2.out).mono ?_); (case side1 => repeat (first | exact (Kd.C_below HR0_0.out HB.out) | (with_reducible refine Kd.C_alloc ?_ _) | (with_reducible refine Kd.C_drewN ?_ _) | (with_reducible refine Kd.C_drew ?_))); (case side2 => exact HC0_0.out); rintro e w21 ⟨rfl, hb⟩; refine ⟨_, rfl, ?_⟩; have n0_ := Aside0.mk (blk_below (g := gb108) (o := .cells #[.slice A0_0 l0_0.length c0_0, .int .i64 a0_1, .slice A0_2 l0_2.length c0_2, .int .i64 a0_3, .slice A0_4 l0_4.length c0_4, .int .i64 a0_5] 31 (0, 0)) (by (with_reducible repeat (first | refine blk_drewN ?_ _ | refine blk_drew ?_ | refine blk_alloc ?_ _)); exact BK108.out) hb); have n1_ := Aside0.mk (below_step (by repeat (first | (with_reducible first | exact HB.out | apply below_alloc | apply pw_below_drewN | apply below_drew1 | refine below_set ?_ GE108.out) | exact HB.out)) hb); clear BK108; clear HB; have BK108 := n0_; have HB := n1_; clear n0_ n1_; (try clear hb); (try clear hb2); (try clear hk); (try clear hi)))
    go_ret
    exact ⟨by first | rfl | (simp [errW_none, errW_some] <;> rfl) | (simp [*, errW_none, errW_some] <;> rfl), by repeat (first | (with_reducible first | exact HB.out | apply below_alloc | apply pw_below_drewN | apply below_drew1 | refine below_set ?_ GE108.out) | exact HB.out)⟩

end Go.Proofs.Ytbapokpkgonjkaa.Print

/- The reference's ValidDisk says what the program's says. -/
namespace Go.Proofs.Ytbapokpkgonjkaa.Print
open Go.RowKit Go.Proofs.YtbapokpkgonjkaaW.PrintWords Go.Proofs.YtbapokpkgonjkaaW.PrintLast Go.Proofs.YtbapokpkgonjkaaW.PrintMore
set_option linter.unusedVariables false
set_option linter.unusedSimpArgs false
theorem spec_fileOK_eq (l : List Int) (a : Int) : spec_l1fileOK.f l a = some (okFile l.length a) := by
  unfold spec_l1fileOK.f okFile
  split
  · split
    · simp_all
    · simp_all
      omega
  · simp_all
    omega
theorem spec_ValidDisk_eq (l0 l2 l4 : List Int) (a1 a3 a5 : Int) : spec_ValidDisk.f l0 a1 l2 a3 l4 a5 = some (okDisk l0 a1 l2 a3 l4 a5) := by
  unfold spec_ValidDisk.f okDisk
  simp only [spec_fileOK_eq, Option.bind_some]
  cases okFile l0.length a1 <;> cases okFile l2.length a3 <;> simp
end Go.Proofs.Ytbapokpkgonjkaa.Print

/- onFile with the three functions that are handed to it. -/
namespace Go.Proofs.Ytbapokpkgonjkaa.Print
open Go.RowKit Go.Proofs.YtbapokpkgonjkaaW.PrintWords Go.Proofs.YtbapokpkgonjkaaW.PrintLast Go.Proofs.YtbapokpkgonjkaaW.PrintMore
set_option linter.unusedVariables false
set_option linter.unusedSimpArgs false

set_option maxHeartbeats 400000 in
set_option maxRecDepth 100000 in
theorem do_reset (g o t : Nat) (u v : Value) (cs : Array Value) (w : World) (hb : w.heap[g]? = some (.cells cs t (0, 0))) (h0 : cs[o]? = some u) (h1 : cs[o + 1]? = some v) :
    Calls Try.prog 84 #[.pointer (some ⟨g, o, none⟩)] w fun e w' => e = .returned (.int .i64 0) ∧ Below g w w' ∧ w'.heap[g]? = some (.cells ((cs.setIfInBounds o (.slice none 0 0)).setIfInBounds (o + 1) (.int .i64 0)) t (0, 0)) := by
  have HW := Aside0.mk hb
  clear hb
  go_enter Try.func84, Try.ntmps84
  go_wp2_with (go_at_call 85; refine (file_reset_blk g o t u v cs _ HW.out h0 h1).mono ?_; rintro e w1 ⟨rfl, hB1, hb1⟩; have HB1 := Aside0.mk hB1; have HW1 := Aside0.mk hb1; clear hB1 hb1)
  go_ret
  exact ⟨rfl, HB1.out, HW1.out⟩

set_option maxHeartbeats 400000 in
set_option maxRecDepth 100000 in
theorem do_sync (g o n c t : Nat) (A : Option Addr) (s : Int) (cs : Array Value) (w : World) (hb : w.heap[g]? = some (.cells cs t (0, 0))) (h0 : cs[o]? = some (.slice A n c)) (h1 : cs[o + 1]? = some (.int .i64 s)) :
    Calls Try.prog 87 #[.pointer (some ⟨g, o, none⟩)] w fun e w' => e = .returned (.int .i64 0) ∧ Below g w w' ∧ w'.heap[g]? = some (.cells (cs.setIfInBounds (o + 1) (.int .i64 n)) t (0, 0)) := by
  have HW := Aside0.mk hb
  clear hb
  go_enter Try.func87, Try.ntmps87
  go_wp2_with (go_at_call 88; refine (file_sync_blk g o n c t A s cs _ HW.out h0 h1).mono ?_; rintro e w1 ⟨rfl, hB1, hb1⟩; have HB1 := Aside0.mk hB1; have HW1 := Aside0.mk hb1; clear hB1 hb1)
  go_ret
  exact ⟨rfl, HB1.out, HW1.out⟩

set_option maxHeartbeats 400000 in
set_option maxRecDepth 100000 in
theorem do_append_no (g o n c m cb t bb : Nat) (A B : Option Addr) (cs : Array Value) (w : World) (hb : w.heap[g]? = some (.cells cs t (0, 0))) (h0 : cs[o]? = some (.slice A n c)) (hbb : w.cell? ⟨bb, 0, none⟩ = some (.slice B m cb)) (hn : n ≤ 140737488355328) (hm : m ≤ 140737488355328) (hx : 200000 < n + m) :
    Calls Try.prog 90 #[.pointer (some ⟨g, o, none⟩), .pointer (some ⟨bb, 0, none⟩)] w fun e w' => e = .returned (.int .i64 11) ∧ w = w' := by
  have HW := Aside0.mk hb
  clear hb
  go_enter Try.func90, Try.ntmps90
  go_wp2_with (go_at_call 91; refine (file_append_no g o n c m cb A B _ ((blk_cell HW.out o).trans h0) hn hm hx).mono ?_; rintro e w1 ⟨rfl, rfl⟩)
  go_ret
  exact ⟨rfl, rfl⟩

set_option maxHeartbeats 400000 in
set_option maxRecDepth 100000 in
theorem do_append_yes (g o c cb t bb : Nat) (A B : Option Addr) (l b : List Int) (cs : Array Value) (w : World) (hb : w.heap[g]? = some (.cells cs t (0, 0))) (h0 : cs[o]? = some (.slice A l.length c)) (hbb : w.cell? ⟨bb, 0, none⟩ = some (.slice B b.length cb))
    (hl : Kd.C (Kd.int .u8) w A l.length l) (hc : l.length ≤ c) (hB : Kd.C (Kd.int .u8) w B b.length b) (hcb : b.length ≤ cb) (hx : l.length + b.length ≤ 200000) :
    Calls Try.prog 90 #[.pointer (some ⟨g, o, none⟩), .pointer (some ⟨bb, 0, none⟩)] w fun e w' => e = .returned (.int .i64 0) ∧ Below g w w' ∧ ∃ v0, w'.heap[g]? = some (.cells (cs.setIfInBounds o v0) t (0, 0)) ∧ Kd.R (Kd.int .u8) 5 w' w.heap.size (fun _ => True) v0 (l ++ b) := by
  have hg := blk_lt hb
  have HW := Aside0.mk hb
  have HL := Aside0.mk hl
  have HB := Aside0.mk hB
  clear hb hl hB
  go_enter Try.func90, Try.ntmps90
  go_wp2_with (go_at_call 91; refine (file_append_yes g o c cb A B l b _ hg ((blk_cell HW.out o).trans h0) (blk_frozen HW.out o) HL.out hc HB.out hcb hx).mono ?_; rintro e w2 ⟨rfl, v0, w1, rfl, hbel, hr⟩; have HBe := Aside0.mk hbel; have HR := Aside0.mk hr; clear hbel hr)
  go_ret
  exact ⟨rfl, (HBe.out.mono (Nat.le_of_lt hg)).setCell (Nat.le_refl _) _, v0, blk_set (blk_below HW.out HBe.out) o _, R_store HR.out g o _ hg⟩

end Go.Proofs.Ytbapokpkgonjkaa.Print
