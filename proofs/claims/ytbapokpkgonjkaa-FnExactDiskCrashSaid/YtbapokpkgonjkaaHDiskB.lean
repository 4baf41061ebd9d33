/- The disk's files at work: reset, sync, append, crash of a file in a block of memory. -/
import Derived.Test.YtbapokpkgonjkaaPrint0
import Derived.Test.YtbapokpkgonjkaaHConcat
import Derived.LoopN
import Derived.RegionTactic
import Derived.BigRegion
namespace Go.Proofs.Ytbapokpkgonjkaa.Print
open Go.RowKit Go.Proofs.YtbapokpkgonjkaaW.PrintWords Go.Proofs.YtbapokpkgonjkaaW.PrintLast Go.Proofs.YtbapokpkgonjkaaW.PrintMore
set_option linter.unusedVariables false
set_option linter.unusedSimpArgs false

set_option maxHeartbeats 400000 in
set_option maxRecDepth 100000 in
theorem file_reset (g o : Nat) (u v : Value) (w : World) (h0 : w.cell? ⟨g, o, none⟩ = some u) (h1 : w.cell? ⟨g, o + 1, none⟩ = some v) (f0 : w.frozen? ⟨g, o, none⟩ = false) (f1 : w.frozen? ⟨g, o + 1, none⟩ = false) :
    Calls Try.prog 85 #[.pointer (some ⟨g, o, none⟩)] w fun e w' => e = .returned (.tuple #[]) ∧ w' = (w.setCell ⟨g, o, none⟩ (.slice none 0 0)).setCell ⟨g, o + 1, none⟩ (.int .i64 0) := by
  go_enter Try.func85, Try.ntmps85
  go_wp2_with fail
  go_end0
  exact ⟨rfl, rfl⟩

set_option maxHeartbeats 400000 in
set_option maxRecDepth 100000 in
theorem file_sync (g o n c : Nat) (A : Option Addr) (s : Int) (w : World) (h0 : w.cell? ⟨g, o, none⟩ = some (.slice A n c)) (h1 : w.cell? ⟨g, o + 1, none⟩ = some (.int .i64 s)) (f1 : w.frozen? ⟨g, o + 1, none⟩ = false) :
    Calls Try.prog 88 #[.pointer (some ⟨g, o, none⟩)] w fun e w' => e = .returned (.tuple #[]) ∧ w' = w.setCell ⟨g, o + 1, none⟩ (.int .i64 n) := by
  go_enter Try.func88, Try.ntmps88
  go_wp2_with fail
  go_end0
  exact ⟨rfl, rfl⟩

/-- A row's world may be stored into below the row's base. -/
theorem R_store {α : Type} {d : Kd α} {e base : Nat} {ok : Nat → Prop} {w : World} {v : Value} {xs : List α} (h : d.R e w base ok v xs) (g j : Nat) (u : Value) (hg : g < base) : d.R e (w.setCell ⟨g, j, none⟩ u) base ok v xs :=
  Kd.R_mono (Kd.R_move (Kd.R_bound h) (fun k hk => Below.heap_setCell w ⟨g, j, none⟩ u k (fun e => by have := hk.2.1; simp at e; omega))) (fun k hk => hk.1)

set_option maxHeartbeats 400000 in
set_option maxRecDepth 100000 in
/-- append to a file: it doesn't fit. -/
theorem file_append_no (g o n c m cb : Nat) (A B : Option Addr) (w : World) (h0 : w.cell? ⟨g, o, none⟩ = some (.slice A n c)) (hn : n ≤ 140737488355328) (hm : m ≤ 140737488355328) (hx : 200000 < n + m) :
    Calls Try.prog 91 #[.pointer (some ⟨g, o, none⟩), .slice B m cb] w fun e w' => e = .returned (.bool false) ∧ w' = w := by
  have k1 : (200000 : Int) < (n : Int) + (m : Int) := by omega
  go_enter Try.func91, Try.ntmps91
  go_wp2_with fail
  go_ret
  exact ⟨rfl, rfl⟩

theorem C_two (w : World) (A B : Option Addr) (c cb : Nat) (l b : List Int) (hl : Kd.C (Kd.int .u8) w A l.length l) (hc : l.length ≤ c) (hb : Kd.C (Kd.int .u8) w B b.length b) (hcb : b.length ≤ cb) :
    Kd.C (Kd.slice 5 (Kd.int .u8)) (w.alloc (.cells #[.slice A l.length c, .slice B b.length cb] 22)) (some ⟨w.heap.size, 0, none⟩) 2 [l, b] := by
  refine ⟨rfl, by decide, fun _ => ⟨_, rfl, fun j p hj => ?_⟩⟩
  match j, hj with
  | 0, hj =>
    obtain rfl : l = p := by simpa using hj
    refine ⟨[.slice A l.length c], rfl, ⟨A, c, rfl, hc, Kd.C_alloc hl _⟩, fun i u hu => ?_⟩
    cases i with
    | zero =>
      obtain rfl : Value.slice A l.length c = u := by simpa using hu
      go_simp
    | succ i => simp at hu
  | 1, hj =>
    obtain rfl : b = p := by simpa using hj
    refine ⟨[.slice B b.length cb], rfl, ⟨B, cb, rfl, hcb, Kd.C_alloc hb _⟩, fun i u hu => ?_⟩
    cases i with
    | zero =>
      obtain rfl : Value.slice B b.length cb = u := by simpa using hu
      rw [add_plain]
      go_simp
      rfl
    | succ i => simp at hu
  | j + 2, hj => simp at hj

set_option maxHeartbeats 400000 in
set_option maxRecDepth 100000 in
/-- append to a file: it fits: the file's bytes lie in new memory. -/
theorem file_append_yes (g o c cb : Nat) (A B : Option Addr) (l b : List Int) (w : World) (hg : g < w.heap.size) (h0 : w.cell? ⟨g, o, none⟩ = some (.slice A l.length c)) (f0 : w.frozen? ⟨g, o, none⟩ = false) (hl : Kd.C (Kd.int .u8) w A l.length l) (hc : l.length ≤ c) (hb : Kd.C (Kd.int .u8) w B b.length b) (hcb : b.length ≤ cb) (hx : l.length + b.length ≤ 200000) :
    Calls Try.prog 91 #[.pointer (some ⟨g, o, none⟩), .slice B b.length cb] w fun e w' => e = .returned (.bool true) ∧ ∃ v0 w1, w' = w1.setCell ⟨g, o, none⟩ v0 ∧ Below w.heap.size w w1 ∧ Kd.R (Kd.int .u8) 5 w1 w.heap.size (fun _ => True) v0 (l ++ b) := by
  have k1 : ¬ (200000 : Int) < (l.length : Int) + (b.length : Int) := by omega
  have k2 : l.length ≤ 200000 := by omega
  have k3 : b.length ≤ 200000 := by omega
  have HL := Aside0.mk hl
  have HB := Aside0.mk hb
  clear hl hb
  go_enter Try.func91, Try.ntmps91
  go_wp2_with fail
  have hcat : slices_Concat_byte_byte.f [l, b] = some (l ++ b) := by
    unfold slices_Concat_byte_byte.f
    have e : sumLen [l, b] = l.length + b.length := by simp [sumLen]
    rw [if_pos (by rw [e]; omega)]
    simp
  refine (slices_Concat_byte_byte.calls _ 2 [l, b] (l ++ b) _ (C_two w A B c cb l b HL.out hc HB.out hcb) (Nat.le_refl _) hcat).mono ?_
  rintro e w1 ⟨v0, rfl, ho, hb⟩
  obtain ⟨A1, c1, rfl⟩ := Kd.R_slice ho
  have hb' := below_then (below_alloc (Below.refl w.heap.size w) (.cells #[.slice A l.length c, .slice B b.length cb] 22)) (by simp) hb
  have HO := Aside0.mk (Kd.R_lower ho (by simp : w.heap.size ≤ _))
  have HB' := Aside0.mk hb'
  have hc1 : w1.cell? ⟨g, o, none⟩ = some (.slice A l.length c) := (hb'.cell (p := ⟨g, o, none⟩) hg).trans h0
  have hf1 : w1.frozen? ⟨g, o, none⟩ = false := (hb'.frozen (p := ⟨g, o, none⟩) hg).trans f0
  clear ho hb hb' hcat
  go_wp2_with fail
  go_ret
  exact ⟨rfl, _, w1, rfl, HB'.out, by have z := HO.out; rw [List.length_append] at z; exact z⟩

/-- what stays of a file -/
def keptLen (n : Nat) (s keep : Int) : Int := s + mn keep ((n : Int) - s)

set_option maxHeartbeats 1000000 in
set_option maxRecDepth 100000 in
/-- crash of a file. -/
theorem file_crash (g o n c : Nat) (A : Option Addr) (s keep : Int) (w : World) (h0 : w.cell? ⟨g, o, none⟩ = some (.slice A n c)) (h1 : w.cell? ⟨g, o + 1, none⟩ = some (.int .i64 s)) (f0 : w.frozen? ⟨g, o, none⟩ = false) (f1 : w.frozen? ⟨g, o + 1, none⟩ = false) (hn : n ≤ 200000) (hs : 0 ≤ s) (hsn : s ≤ (n : Int)) (hk : 0 ≤ keep) (hc : n ≤ c) :
    Calls Try.prog 104 #[.pointer (some ⟨g, o, none⟩), .int .i64 keep] w fun e w' => e = .returned (.tuple #[]) ∧ Drawn0 ((w.setCell ⟨g, o, none⟩ (.slice A (keptLen n s keep).toNat c)).setCell ⟨g, o + 1, none⟩ (.int .i64 (keptLen n s keep))) w' := by
  obtain ⟨i0, hi0, _⟩ := Option.map_eq_some_iff.1 info5
  by_cases hm : (n : Int) - s < keep
  · have e : keptLen n s keep = (n : Int) := by unfold keptLen mn; rw [if_pos hm]; omega
    have HE := Aside0.mk e
    clear e
    go_enter Try.func104, Try.ntmps104
    go_wp2_with fail
    go_region
    go_wp2_with fail
    go_end0
    rw [HE.out, show s + ((n : Int) - s) = (n : Int) by omega, show max (n : Int) 0 = (n : Int) by omega]
    exact ⟨rfl, ⟨1, rfl⟩⟩
  · have e : keptLen n s keep = s + keep := by unfold keptLen mn; rw [if_neg hm]
    have HE := Aside0.mk e
    clear e
    go_enter Try.func104, Try.ntmps104
    go_wp2_with fail
    go_region
    go_wp2_with fail
    go_end0
    rw [HE.out, show max (s + keep) 0 = s + keep by omega]
    exact ⟨rfl, ⟨1, rfl⟩⟩

end Go.Proofs.Ytbapokpkgonjkaa.Print
