/- Texts of this session, joined by its own program. -/
import Derived.Test.YtbapokpkgonjkaaCDAppend3
import Derived.Test.YtbapokpkgonjkaaCDAppend4
import Derived.Test.YtbapokpkgonjkaaCDAppend5
import Derived.Test.YtbapokpkgonjkaaCDAppend0
/- The reference's l1put, for each file; the rest of its helpers, plainly. -/
namespace Go.Proofs.Ytbapokpkgonjkaa.Print
open Go.RowKit Go.Proofs.YtbapokpkgonjkaaW.PrintWords Go.Proofs.YtbapokpkgonjkaaW.PrintLast Go.Proofs.YtbapokpkgonjkaaW.PrintMore
set_option linter.unusedVariables false
set_option linter.unusedSimpArgs false

theorem l1file_f (l : List Int) (a : Int) (h : l.length < 140737488355328) : spec_l1file.f l a = some (l, a) := by
  unfold spec_l1file.f spec_l1copy.f
  rw [if_pos (by simp; omega)]
  simp
theorem l1disk_f (l0 l2 l4 : List Int) (a1 a3 a5 : Int) (h0 : l0.length < 140737488355328) (h2 : l2.length < 140737488355328) (h4 : l4.length < 140737488355328) : spec_l1disk.f l0 a1 l2 a3 l4 a5 = some (l0, a1, l2, a3, l4, a5) := by
  unfold spec_l1disk.f
  simp only [l1file_f _ _ h0, l1file_f _ _ h2, l1file_f _ _ h4, Option.bind_some]
theorem l1bad_f (l0 l2 l4 : List Int) (a1 a3 a5 n : Int) : spec_l1bad.f l0 a1 l2 a3 l4 a5 n = some (!(okDisk l0 a1 l2 a3 l4 a5) || decide (n < 0) || decide (2 < n)) := by
  unfold spec_l1bad.f
  rw [spec_ValidDisk_eq, Option.bind_some]
  cases okDisk l0 a1 l2 a3 l4 a5 <;> simp
  split <;> simp_all <;> omega
set_option maxHeartbeats 2000000 in
set_option maxRecDepth 100000 in
theorem spec_l1put_0 (A0 : Option Addr) (c0 : Nat) (l0 : List Int) (a1 : Int) (A2 : Option Addr) (c2 : Nat) (l2 : List Int) (a3 : Int) (A4 : Option Addr) (c4 : Nat) (l4 : List Int) (a5 : Int) (Af : Option Addr) (nf cf : Nat) (s : Int) (w : World)
    (h0 : Kd.C (Kd.int .u8) w A0 l0.length l0) (hc0 : l0.length ≤ c0) (h2 : Kd.C (Kd.int .u8) w A2 l2.length l2) (hc2 : l2.length ≤ c2) (h4 : Kd.C (Kd.int .u8) w A4 l4.length l4) (hc4 : l4.length ≤ c4) (g0 : l0.length ≤ 200000) (g2 : l2.length ≤ 200000) (g4 : l4.length ≤ 200000) :
    Calls Try.prog 79 #[.agg #[.slice A0 l0.length c0, .int .i64 a1, .slice A2 l2.length c2, .int .i64 a3, .slice A4 l4.length c4, .int .i64 a5], .int .i64 0, .agg #[.slice Af nf cf, .int .i64 s]] w fun e w' => ∃ v2 v4 : Value, e = .returned (.agg #[.slice Af nf cf, .int .i64 s, v2, .int .i64 a3, v4, .int .i64 a5]) ∧
      Kd.R (Kd.int .u8) 5 w' w.heap.size (fun k_ => some k_ ≠ (v4 : Value).ownBlock) v2 l2 ∧ Kd.R (Kd.int .u8) 5 w' w.heap.size (fun k_ => some k_ ≠ (v2 : Value).ownBlock) v4 l4 ∧ Below w.heap.size w w' := by
  have R0 := Aside0.mk h0
  have R2 := Aside0.mk h2
  have R4 := Aside0.mk h4
  clear h0 h2 h4
  go_enter Try.func79, Try.ntmps79
  go_wp2_with fail
  refine (spec_l1disk.calls A0 c0 l0 a1 A2 c2 l2 a3 A4 c4 l4 a5 l0 a1 l2 a3 l4 a5 _ (Kd.C_alloc (Kd.C_alloc (Kd.C_alloc R0.out _) _) _) hc0 (Kd.C_alloc (Kd.C_alloc (Kd.C_alloc R2.out _) _) _) hc2 (Kd.C_alloc (Kd.C_alloc (Kd.C_alloc R4.out _) _) _) hc4 (l1disk_f l0 l2 l4 a1 a3 a5 (by omega) (by omega) (by omega))).mono ?_
  rintro e w1 ⟨v0, v2, v4, rfl, o0, o2, o4, hb⟩
  obtain ⟨B0, d0, rfl⟩ := Kd.R_slice o0
  obtain ⟨B2, d2, rfl⟩ := Kd.R_slice o2
  obtain ⟨B4, d4, rfl⟩ := Kd.R_slice o4
  have hB1 : Below w.heap.size w w1 := below_then (below_alloc (below_alloc (below_alloc (Below.refl _ _) _) _) _) (by simp; omega) hb
  have hz1 : w.heap.size + 1 + 1 < w1.heap.size := by have := hb.size; simp at this; omega
  have hx1 : w.heap.size + 1 < w1.heap.size := by omega
  have hy1 : w.heap.size < w1.heap.size := by omega
  obtain ⟨hc1, hf1⟩ := bcell hb
  have HB1 := Aside0.mk hB1
  have HO2 := Aside0.mk o2
  have HO4 := Aside0.mk o4
  clear hB1 hb o0 o2 o4
  go_wp2_with fail
  refine bodyPost_ret (v := .agg #[.slice Af nf cf, .int .i64 s, .slice B2 l2.length d2, .int .i64 a3, .slice B4 l4.length d4, .int .i64 a5]) ?_ rfl ?_
  · simp [results, Try.results79, go_sem, hc1, hz1, hx1, hy1]
  · refine ⟨_, _, rfl, ?_, ?_, ?_⟩
    · exact Kd.R_below (R_store6 HO2.out (fun k hk => hk.2) (by simp) (by simp; omega)) (below_alloc (Below.refl _ _) _)
    · exact Kd.R_below (R_store6 HO4.out (fun k hk => hk.2) (by simp) (by simp; omega)) (below_alloc (Below.refl _ _) _)
    · exact below_alloc (below_store6 HB1.out (by omega)) _
set_option maxHeartbeats 2000000 in
set_option maxRecDepth 100000 in
theorem spec_l1put_1 (A0 : Option Addr) (c0 : Nat) (l0 : List Int) (a1 : Int) (A2 : Option Addr) (c2 : Nat) (l2 : List Int) (a3 : Int) (A4 : Option Addr) (c4 : Nat) (l4 : List Int) (a5 : Int) (Af : Option Addr) (nf cf : Nat) (s : Int) (w : World)
    (h0 : Kd.C (Kd.int .u8) w A0 l0.length l0) (hc0 : l0.length ≤ c0) (h2 : Kd.C (Kd.int .u8) w A2 l2.length l2) (hc2 : l2.length ≤ c2) (h4 : Kd.C (Kd.int .u8) w A4 l4.length l4) (hc4 : l4.length ≤ c4) (g0 : l0.length ≤ 200000) (g2 : l2.length ≤ 200000) (g4 : l4.length ≤ 200000) :
    Calls Try.prog 79 #[.agg #[.slice A0 l0.length c0, .int .i64 a1, .slice A2 l2.length c2, .int .i64 a3, .slice A4 l4.length c4, .int .i64 a5], .int .i64 1, .agg #[.slice Af nf cf, .int .i64 s]] w fun e w' => ∃ v0 v4 : Value, e = .returned (.agg #[v0, .int .i64 a1, .slice Af nf cf, .int .i64 s, v4, .int .i64 a5]) ∧
      Kd.R (Kd.int .u8) 5 w' w.heap.size (fun k_ => some k_ ≠ (v4 : Value).ownBlock) v0 l0 ∧ Kd.R (Kd.int .u8) 5 w' w.heap.size (fun k_ => some k_ ≠ (v0 : Value).ownBlock) v4 l4 ∧ Below w.heap.size w w' := by
  have R0 := Aside0.mk h0
  have R2 := Aside0.mk h2
  have R4 := Aside0.mk h4
  clear h0 h2 h4
  go_enter Try.func79, Try.ntmps79
  go_wp2_with fail
  refine (spec_l1disk.calls A0 c0 l0 a1 A2 c2 l2 a3 A4 c4 l4 a5 l0 a1 l2 a3 l4 a5 _ (Kd.C_alloc (Kd.C_alloc (Kd.C_alloc R0.out _) _) _) hc0 (Kd.C_alloc (Kd.C_alloc (Kd.C_alloc R2.out _) _) _) hc2 (Kd.C_alloc (Kd.C_alloc (Kd.C_alloc R4.out _) _) _) hc4 (l1disk_f l0 l2 l4 a1 a3 a5 (by omega) (by omega) (by omega))).mono ?_
  rintro e w1 ⟨v0, v2, v4, rfl, o0, o2, o4, hb⟩
  obtain ⟨B0, d0, rfl⟩ := Kd.R_slice o0
  obtain ⟨B2, d2, rfl⟩ := Kd.R_slice o2
  obtain ⟨B4, d4, rfl⟩ := Kd.R_slice o4
  have hB1 : Below w.heap.size w w1 := below_then (below_alloc (below_alloc (below_alloc (Below.refl _ _) _) _) _) (by simp; omega) hb
  have hz1 : w.heap.size + 1 + 1 < w1.heap.size := by have := hb.size; simp at this; omega
  have hx1 : w.heap.size + 1 < w1.heap.size := by omega
  have hy1 : w.heap.size < w1.heap.size := by omega
  obtain ⟨hc1, hf1⟩ := bcell hb
  have HB1 := Aside0.mk hB1
  have HO0 := Aside0.mk o0
  have HO4 := Aside0.mk o4
  clear hB1 hb o0 o2 o4
  go_wp2_with fail
  refine bodyPost_ret (v := .agg #[.slice B0 l0.length d0, .int .i64 a1, .slice Af nf cf, .int .i64 s, .slice B4 l4.length d4, .int .i64 a5]) ?_ rfl ?_
  · simp [results, Try.results79, go_sem, hc1, hz1, hx1, hy1]
  · refine ⟨_, _, rfl, ?_, ?_, ?_⟩
    · exact Kd.R_below (R_store6 HO0.out (fun k hk => hk.2) (by simp) (by simp; omega)) (below_alloc (Below.refl _ _) _)
    · exact Kd.R_below (R_store6 HO4.out (fun k hk => hk.1) (by simp) (by simp; omega)) (below_alloc (Below.refl _ _) _)
    · exact below_alloc (below_store6 HB1.out (by omega)) _
set_option maxHeartbeats 2000000 in
set_option maxRecDepth 100000 in
theorem spec_l1put_2 (A0 : Option Addr) (c0 : Nat) (l0 : List Int) (a1 : Int) (A2 : Option Addr) (c2 : Nat) (l2 : List Int) (a3 : Int) (A4 : Option Addr) (c4 : Nat) (l4 : List Int) (a5 : Int) (Af : Option Addr) (nf cf : Nat) (s : Int) (w : World)
    (h0 : Kd.C (Kd.int .u8) w A0 l0.length l0) (hc0 : l0.length ≤ c0) (h2 : Kd.C (Kd.int .u8) w A2 l2.length l2) (hc2 : l2.length ≤ c2) (h4 : Kd.C (Kd.int .u8) w A4 l4.length l4) (hc4 : l4.length ≤ c4) (g0 : l0.length ≤ 200000) (g2 : l2.length ≤ 200000) (g4 : l4.length ≤ 200000) :
    Calls Try.prog 79 #[.agg #[.slice A0 l0.length c0, .int .i64 a1, .slice A2 l2.length c2, .int .i64 a3, .slice A4 l4.length c4, .int .i64 a5], .int .i64 2, .agg #[.slice Af nf cf, .int .i64 s]] w fun e w' => ∃ v0 v2 : Value, e = .returned (.agg #[v0, .int .i64 a1, v2, .int .i64 a3, .slice Af nf cf, .int .i64 s]) ∧
      Kd.R (Kd.int .u8) 5 w' w.heap.size (fun k_ => some k_ ≠ (v2 : Value).ownBlock) v0 l0 ∧ Kd.R (Kd.int .u8) 5 w' w.heap.size (fun k_ => some k_ ≠ (v0 : Value).ownBlock) v2 l2 ∧ Below w.heap.size w w' := by
  have R0 := Aside0.mk h0
  have R2 := Aside0.mk h2
  have R4 := Aside0.mk h4
  clear h0 h2 h4
  go_enter Try.func79, Try.ntmps79
  go_wp2_with fail
  refine (spec_l1disk.calls A0 c0 l0 a1 A2 c2 l2 a3 A4 c4 l4 a5 l0 a1 l2 a3 l4 a5 _ (Kd.C_alloc (Kd.C_alloc (Kd.C_alloc R0.out _) _) _) hc0 (Kd.C_alloc (Kd.C_alloc (Kd.C_alloc R2.out _) _) _) hc2 (Kd.C_alloc (Kd.C_alloc (Kd.C_alloc R4.out _) _) _) hc4 (l1disk_f l0 l2 l4 a1 a3 a5 (by omega) (by omega) (by omega))).mono ?_
  rintro e w1 ⟨v0, v2, v4, rfl, o0, o2, o4, hb⟩
  obtain ⟨B0, d0, rfl⟩ := Kd.R_slice o0
  obtain ⟨B2, d2, rfl⟩ := Kd.R_slice o2
  obtain ⟨B4, d4, rfl⟩ := Kd.R_slice o4
  have hB1 : Below w.heap.size w w1 := below_then (below_alloc (below_alloc (below_alloc (Below.refl _ _) _) _) _) (by simp; omega) hb
  have hz1 : w.heap.size + 1 + 1 < w1.heap.size := by have := hb.size; simp at this; omega
  have hx1 : w.heap.size + 1 < w1.heap.size := by omega
  have hy1 : w.heap.size < w1.heap.size := by omega
  obtain ⟨hc1, hf1⟩ := bcell hb
  have HB1 := Aside0.mk hB1
  have HO0 := Aside0.mk o0
  have HO2 := Aside0.mk o2
  clear hB1 hb o0 o2 o4
  go_wp2_with fail
  refine bodyPost_ret (v := .agg #[.slice B0 l0.length d0, .int .i64 a1, .slice B2 l2.length d2, .int .i64 a3, .slice Af nf cf, .int .i64 s]) ?_ rfl ?_
  · simp [results, Try.results79, go_sem, hc1, hz1, hx1, hy1]
  · refine ⟨_, _, rfl, ?_, ?_, ?_⟩
    · exact Kd.R_below (R_store6 HO0.out (fun k hk => hk.1) (by simp) (by simp; omega)) (below_alloc (Below.refl _ _) _)
    · exact Kd.R_below (R_store6 HO2.out (fun k hk => hk.1) (by simp) (by simp; omega)) (below_alloc (Below.refl _ _) _)
    · exact below_alloc (below_store6 HB1.out (by omega)) _
end Go.Proofs.Ytbapokpkgonjkaa.Print

/- onFile with the three functions that are handed to it. -/
namespace Go.Proofs.Ytbapokpkgonjkaa.Print
open Go.RowKit Go.Proofs.YtbapokpkgonjkaaW.PrintWords Go.Proofs.YtbapokpkgonjkaaW.PrintLast Go.Proofs.YtbapokpkgonjkaaW.PrintMore
set_option linter.unusedVariables false
set_option linter.unusedSimpArgs false

set_option maxHeartbeats 400000 in
set_option maxRecDepth 100000 in
theorem do_reset (g o t : Nat) (u v : Value) (cs : Array Value) (w : World) (hb : w.heap[g]? = some (.cells cs t (0, 0))) (h0 : cs[o]? = some u) (h1 : cs[o + 1]? = some v) :
    Calls Try.prog 84 #[.pointer (some ⟨g, o, none⟩)] w fun e w' => e = .returned (.int .i64 0) ∧ Below g w w' ∧ w'.heap[g]? = some (.cells ((cs.setIfInBounds o (.slice none 0 0)).setIfInBounds (o + 1) (.int .i64 0)) t (0, 0)) := by
  have HW := Aside0.mk hb
  clear hb
  go_enter Try.func84, Try.ntmps84
  go_wp2_with (go_at_call 85; refine (file_reset_blk g o t u v cs _ HW.out h0 h1).mono ?_; rintro e w1 ⟨rfl, hB1, hb1⟩; have HB1 := Aside0.mk hB1; have HW1 := Aside0.mk hb1; clear hB1 hb1)
  go_ret
  exact ⟨rfl, HB1.out, HW1.out⟩

set_option maxHeartbeats 400000 in
set_option maxRecDepth 100000 in
theorem do_sync (g o n c t : Nat) (A : Option Addr) (s : Int) (cs : Array Value) (w : World) (hb : w.heap[g]? = some (.cells cs t (0, 0))) (h0 : cs[o]? = some (.slice A n c)) (h1 : cs[o + 1]? = some (.int .i64 s)) :
    Calls Try.prog 87 #[.pointer (some ⟨g, o, none⟩)] w fun e w' => e = .returned (.int .i64 0) ∧ Below g w w' ∧ w'.heap[g]? = some (.cells (cs.setIfInBounds (o + 1) (.int .i64 n)) t (0, 0)) := by
  have HW := Aside0.mk hb
  clear hb
  go_enter Try.func87, Try.ntmps87
  go_wp2_with (go_at_call 88; refine (file_sync_blk g o n c t A s cs _ HW.out h0 h1).mono ?_; rintro e w1 ⟨rfl, hB1, hb1⟩; have HB1 := Aside0.mk hB1; have HW1 := Aside0.mk hb1; clear hB1 hb1)
  go_ret
  exact ⟨rfl, HB1.out, HW1.out⟩

set_option maxHeartbeats 400000 in
set_option maxRecDepth 100000 in
theorem do_append_no (g o n c m cb t bb : Nat) (A B : Option Addr) (cs : Array Value) (w : World) (hb : w.heap[g]? = some (.cells cs t (0, 0))) (h0 : cs[o]? = some (.slice A n c)) (hbb : w.cell? ⟨bb, 0, none⟩ = some (.slice B m cb)) (hn : n ≤ 140737488355328) (hm : m ≤ 140737488355328) (hx : 200000 < n + m) :
    Calls Try.prog 90 #[.pointer (some ⟨g, o, none⟩), .pointer (some ⟨bb, 0, none⟩)] w fun e w' => e = .returned (.int .i64 11) ∧ w = w' := by
  have HW := Aside0.mk hb
  clear hb
  go_enter Try.func90, Try.ntmps90
  go_wp2_with (go_at_call 91; refine (file_append_no g o n c m cb A B _ ((blk_cell HW.out o).trans h0) hn hm hx).mono ?_; rintro e w1 ⟨rfl, rfl⟩)
  go_ret
  exact ⟨rfl, rfl⟩

set_option maxHeartbeats 400000 in
set_option maxRecDepth 100000 in
theorem do_append_yes (g o c cb t bb : Nat) (A B : Option Addr) (l b : List Int) (cs : Array Value) (w : World) (hb : w.heap[g]? = some (.cells cs t (0, 0))) (h0 : cs[o]? = some (.slice A l.length c)) (hbb : w.cell? ⟨bb, 0, none⟩ = some (.slice B b.length cb))
    (hl : Kd.C (Kd.int .u8) w A l.length l) (hc : l.length ≤ c) (hB : Kd.C (Kd.int .u8) w B b.length b) (hcb : b.length ≤ cb) (hx : l.length + b.length ≤ 200000) :
    Calls Try.prog 90 #[.pointer (some ⟨g, o, none⟩), .pointer (some ⟨bb, 0, none⟩)] w fun e w' => e = .returned (.int .i64 0) ∧ Below g w w' ∧ ∃ v0, w'.heap[g]? = some (.cells (cs.setIfInBounds o v0) t (0, 0)) ∧ Kd.R (Kd.int .u8) 5 w' w.heap.size (fun _ => True) v0 (l ++ b) := by
  have hg := blk_lt hb
  have HW := Aside0.mk hb
  have HL := Aside0.mk hl
  have HB := Aside0.mk hB
  clear hb hl hB
  go_enter Try.func90, Try.ntmps90
  go_wp2_with (go_at_call 91; refine (file_append_yes g o c cb A B l b _ hg ((blk_cell HW.out o).trans h0) (blk_frozen HW.out o) HL.out hc HB.out hcb hx).mono ?_; rintro e w2 ⟨rfl, v0, w1, rfl, hbel, hr⟩; have HBe := Aside0.mk hbel; have HR := Aside0.mk hr; clear hbel hr)
  go_ret
  exact ⟨rfl, (HBe.out.mono (Nat.le_of_lt hg)).setCell (Nat.le_refl _) _, v0, blk_set (blk_below HW.out HBe.out) o _, R_store HR.out g o _ hg⟩

end Go.Proofs.Ytbapokpkgonjkaa.Print

/- onFile at each file, with reset, sync and append: what the disk is behind the call. -/
namespace Go.Proofs.Ytbapokpkgonjkaa.Print
open Go.RowKit Go.Proofs.YtbapokpkgonjkaaW.PrintWords Go.Proofs.YtbapokpkgonjkaaW.PrintLast Go.Proofs.YtbapokpkgonjkaaW.PrintMore
set_option linter.unusedVariables false
set_option linter.unusedSimpArgs false

set_option maxHeartbeats 800000 in
set_option maxRecDepth 100000 in
theorem onFile_reset_0 (A0_0 : Option Addr) (c0_0 : Nat) (l0_0 : List Int) (a0_1 : Int) (A0_2 : Option Addr) (c0_2 : Nat) (l0_2 : List Int) (a0_3 : Int) (A0_4 : Option Addr) (c0_4 : Nat) (l0_4 : List Int) (a0_5 : Int) (w : World) (hr0_0 : Kd.C (Kd.int .u8) w A0_0 l0_0.length l0_0) (hc0_0 : l0_0.length ≤ c0_0) (hr0_2 : Kd.C (Kd.int .u8) w A0_2 l0_2.length l0_2) (hc0_2 : l0_2.length ≤ c0_2) (hr0_4 : Kd.C (Kd.int .u8) w A0_4 l0_4.length l0_4) (hc0_4 : l0_4.length ≤ c0_4) (hv : okDisk l0_0 a0_1 l0_2 a0_3 l0_4 a0_5 = true) :
    Calls Try.prog 83 #[.agg #[.slice A0_0 l0_0.length c0_0, .int .i64 a0_1, .slice A0_2 l0_2.length c0_2, .int .i64 a0_3, .slice A0_4 l0_4.length c0_4, .int .i64 a0_5], .int .i64 0, .func (Fn.func 84) #[] #[]] w fun e w' => ∃ v0_ v2_ v4_ : Value, e = .returned (.tuple #[.agg #[v0_, .int .i64 0, v2_, .int .i64 a0_3, v4_, .int .i64 a0_5], .int .i64 0]) ∧ Kd.R (Kd.int .u8) 5 w' w.heap.size (fun k_ => some k_ ≠ (v2_ : Value).ownBlock ∧ some k_ ≠ (v4_ : Value).ownBlock) v0_ [] ∧ Kd.R (Kd.int .u8) 5 w' w.heap.size (fun k_ => some k_ ≠ (v0_ : Value).ownBlock ∧ some k_ ≠ (v4_ : Value).ownBlock) v2_ l0_2 ∧ Kd.R (Kd.int .u8) 5 w' w.heap.size (fun k_ => some k_ ≠ (v0_ : Value).ownBlock ∧ some k_ ≠ (v2_ : Value).ownBlock) v4_ l0_4 ∧ Below w.heap.size w w' := by
  have HR0 := Aside0.mk hr0_0
  have HR2 := Aside0.mk hr0_2
  have HR4 := Aside0.mk hr0_4
  clear hr0_0 hr0_2 hr0_4
  obtain ⟨⟨x0, x1, x2⟩, ⟨y0, y1, y2⟩, ⟨z0, z1, z2⟩⟩ := okDisk_iff hv
  have HV := Aside0.mk hv
  clear hv
  go_enter Try.func83, Try.ntmps83
  go_wp2_with fail
  refine (validDisk_any _ _ _ _ _ _ _ _ _ _ _ _ _).mono ?_
  rintro e w1 ⟨rfl, hb⟩
  have hvv : (okFile l0_0.length a0_1 && (okFile l0_2.length a0_3 && okFile l0_4.length a0_5)) = true := HV.out
  rw [hvv]
  clear hvv
  have hB1 : Below w.heap.size w w1 := below_then (below_alloc (below_alloc (Below.refl _ _) _) _) (by simp; omega) hb
  have hz1 : w.heap.size + 1 < w1.heap.size := by have := hb.size; simp at this; omega
  have hy1 : w.heap.size < w1.heap.size := by omega
  obtain ⟨hc1, hf1⟩ := bcell hb
  have HB1 := Aside0.mk hB1
  clear hB1 hb
  go_wp2_with fail
  refine (driveOf_any A0_0 A0_2 A0_4 c0_0 c0_2 c0_4 l0_0 l0_2 l0_4 a0_1 a0_3 a0_5 w1 (Kd.C_below HR0.out HB1.out) hc0_0 (Kd.C_below HR2.out HB1.out) hc0_2 (Kd.C_below HR4.out HB1.out) hc0_4 x0 y0 z0).mono ?_
  rintro e w2 ⟨v0, v2, v4, rfl, ho0, ho2, ho4, hb⟩
  obtain ⟨B0, d0, rfl, hd0, hp0⟩ := Kd.R_reads ho0
  obtain ⟨B2, d2, rfl, hd2, hp2⟩ := Kd.R_reads ho2
  obtain ⟨B4, d4, rfl, hd4, hp4⟩ := Kd.R_reads ho4
  have hB2 : Below w.heap.size w w2 := below_then HB1.out (by omega) hb
  have hz2 : w.heap.size + 1 < w2.heap.size := by have := hb.size; omega
  have hy2 : w.heap.size < w2.heap.size := by omega
  obtain ⟨hc2, hf2⟩ := bcell hb
  have HB2 := Aside0.mk hB2
  have HO0 := Aside0.mk ho0
  have HO2 := Aside0.mk ho2
  have HO4 := Aside0.mk ho4
  have HP0 := Aside0.mk hp0
  have HP2 := Aside0.mk hp2
  have HP4 := Aside0.mk hp4
  clear hB2 hb ho0 ho2 ho4 hp0 hp2 hp4
  go_wp2_with fail
  refine (do_reset w2.heap.size 0 75 _ _ _ _ (blk_new w2 _) rfl rfl).mono ?_
  rintro e w3 ⟨rfl, hB3, hb3⟩
  have hb : Below w2.heap.size w2 w3 := (below_alloc (Below.refl _ _) _).trans hB3
  have hB3' : Below w.heap.size w w3 := below_then HB2.out (by omega) hb
  have hz3 : w.heap.size + 1 < w3.heap.size := by have := hb.size; omega
  have hy3 : w.heap.size < w3.heap.size := by omega
  obtain ⟨hc3, hf3⟩ := bcell hb
  have k0 := blk_cell hb3 0
  have k1 := blk_cell hb3 1
  have k2 := blk_cell hb3 2
  have k3 := blk_cell hb3 3
  have k4 := blk_cell hb3 4
  have k5 := blk_cell hb3 5
  simp at k0 k1 k2 k3 k4 k5
  have HB3 := Aside0.mk hB3'
  have HO0' := Aside0.mk (Kd.R_below HO0.out hb)
  have HO2' := Aside0.mk (Kd.R_below HO2.out hb)
  have HO4' := Aside0.mk (Kd.R_below HO4.out hb)
  clear hB3 hb3 hb hB3' HO0 HO2 HO4
  go_wp2_with fail
  refine (drive_disk _ _ _ _ _ _ _ _ _ _ _ _ _).mono ?_
  rintro e w4 ⟨rfl, hb⟩
  have hB4 : Below w.heap.size w w4 := below_then HB3.out (by omega) hb
  have hz4 : w.heap.size + 1 < w4.heap.size := by have := hb.size; omega
  have hy4 : w.heap.size < w4.heap.size := by omega
  obtain ⟨hc4, hf4⟩ := bcell hb
  have HB4 := Aside0.mk hB4
  have HO0 := Aside0.mk (Kd.R_below HO0'.out hb)
  have HO2 := Aside0.mk (Kd.R_below HO2'.out hb)
  have HO4 := Aside0.mk (Kd.R_below HO4'.out hb)
  clear hB4 hb HO0' HO2' HO4' k0 k1 k2 k3 k4 k5
  go_wp2_with fail
  refine bodyPost_ret (v := .tuple #[.agg #[.slice none 0 0, .int .i64 0, .slice B2 l0_2.length d2, .int .i64 a0_3, .slice B4 l0_4.length d4, .int .i64 a0_5], .int .i64 0]) ?_ rfl ?_
  · simp [results, Try.results83, go_sem, hc4, hc3, hc2, hc1, hy1, hz1, hy2, hz2, hy3, hz3, hy4, hz4]
  · refine ⟨_, _, _, rfl, ?_, ?_, ?_, ?_⟩
    · exact Kd.R_nil _ _ _ _ _
    · exact R_store6 HO2.out (fun k hk => ⟨(fun e => by cases e), hk.2⟩) hz1 (by omega)
    · exact R_store6 HO4.out (fun k hk => ⟨(fun e => by cases e), hk.2⟩) hz1 (by omega)
    · exact below_store6 HB4.out (by omega)

set_option maxHeartbeats 800000 in
set_option maxRecDepth 100000 in
theorem onFile_reset_1 (A0_0 : Option Addr) (c0_0 : Nat) (l0_0 : List Int) (a0_1 : Int) (A0_2 : Option Addr) (c0_2 : Nat) (l0_2 : List Int) (a0_3 : Int) (A0_4 : Option Addr) (c0_4 : Nat) (l0_4 : List Int) (a0_5 : Int) (w : World) (hr0_0 : Kd.C (Kd.int .u8) w A0_0 l0_0.length l0_0) (hc0_0 : l0_0.length ≤ c0_0) (hr0_2 : Kd.C (Kd.int .u8) w A0_2 l0_2.length l0_2) (hc0_2 : l0_2.length ≤ c0_2) (hr0_4 : Kd.C (Kd.int .u8) w A0_4 l0_4.length l0_4) (hc0_4 : l0_4.length ≤ c0_4) (hv : okDisk l0_0 a0_1 l0_2 a0_3 l0_4 a0_5 = true) :
    Calls Try.prog 83 #[.agg #[.slice A0_0 l0_0.length c0_0, .int .i64 a0_1, .slice A0_2 l0_2.length c0_2, .int .i64 a0_3, .slice A0_4 l0_4.length c0_4, .int .i64 a0_5], .int .i64 1, .func (Fn.func 84) #[] #[]] w fun e w' => ∃ v0_ v2_ v4_ : Value, e = .returned (.tuple #[.agg #[v0_, .int .i64 a0_1, v2_, .int .i64 0, v4_, .int .i64 a0_5], .int .i64 0]) ∧ Kd.R (Kd.int .u8) 5 w' w.heap.size (fun k_ => some k_ ≠ (v2_ : Value).ownBlock ∧ some k_ ≠ (v4_ : Value).ownBlock) v0_ l0_0 ∧ Kd.R (Kd.int .u8) 5 w' w.heap.size (fun k_ => some k_ ≠ (v0_ : Value).ownBlock ∧ some k_ ≠ (v4_ : Value).ownBlock) v2_ [] ∧ Kd.R (Kd.int .u8) 5 w' w.heap.size (fun k_ => some k_ ≠ (v0_ : Value).ownBlock ∧ some k_ ≠ (v2_ : Value).ownBlock) v4_ l0_4 ∧ Below w.heap.size w w' := by
  have HR0 := Aside0.mk hr0_0
  have HR2 := Aside0.mk hr0_2
  have HR4 := Aside0.mk hr0_4
  clear hr0_0 hr0_2 hr0_4
  obtain ⟨⟨x0, x1, x2⟩, ⟨y0, y1, y2⟩, ⟨z0, z1, z2⟩⟩ := okDisk_iff hv
  have HV := Aside0.mk hv
  clear hv
  go_enter Try.func83, Try.ntmps83
  go_wp2_with fail
  refine (validDisk_any _ _ _ _ _ _ _ _ _ _ _ _ _).mono ?_
  rintro e w1 ⟨rfl, hb⟩
  have hvv : (okFile l0_0.length a0_1 && (okFile l0_2.length a0_3 && okFile l0_4.length a0_5)) = true := HV.out
  rw [hvv]
  clear hvv
  have hB1 : Below w.heap.size w w1 := below_then (below_alloc (below_alloc (Below.refl _ _) _) _) (by simp; omega) hb
  have hz1 : w.heap.size + 1 < w1.heap.size := by have := hb.size; simp at this; omega
  have hy1 : w.heap.size < w1.heap.size := by omega
  obtain ⟨hc1, hf1⟩ := bcell hb
  have HB1 := Aside0.mk hB1
  clear hB1 hb
  go_wp2_with fail
  refine (driveOf_any A0_0 A0_2 A0_4 c0_0 c0_2 c0_4 l0_0 l0_2 l0_4 a0_1 a0_3 a0_5 w1 (Kd.C_below HR0.out HB1.out) hc0_0 (Kd.C_below HR2.out HB1.out) hc0_2 (Kd.C_below HR4.out HB1.out) hc0_4 x0 y0 z0).mono ?_
  rintro e w2 ⟨v0, v2, v4, rfl, ho0, ho2, ho4, hb⟩
  obtain ⟨B0, d0, rfl, hd0, hp0⟩ := Kd.R_reads ho0
  obtain ⟨B2, d2, rfl, hd2, hp2⟩ := Kd.R_reads ho2
  obtain ⟨B4, d4, rfl, hd4, hp4⟩ := Kd.R_reads ho4
  have hB2 : Below w.heap.size w w2 := below_then HB1.out (by omega) hb
  have hz2 : w.heap.size + 1 < w2.heap.size := by have := hb.size; omega
  have hy2 : w.heap.size < w2.heap.size := by omega
  obtain ⟨hc2, hf2⟩ := bcell hb
  have HB2 := Aside0.mk hB2
  have HO0 := Aside0.mk ho0
  have HO2 := Aside0.mk ho2
  have HO4 := Aside0.mk ho4
  have HP0 := Aside0.mk hp0
  have HP2 := Aside0.mk hp2
  have HP4 := Aside0.mk hp4
  clear hB2 hb ho0 ho2 ho4 hp0 hp2 hp4
  go_wp2_with fail
  refine (do_reset w2.heap.size 2 75 _ _ _ _ (blk_new w2 _) rfl rfl).mono ?_
  rintro e w3 ⟨rfl, hB3, hb3⟩
  have hb : Below w2.heap.size w2 w3 := (below_alloc (Below.refl _ _) _).trans hB3
  have hB3' : Below w.heap.size w w3 := below_then HB2.out (by omega) hb
  have hz3 : w.heap.size + 1 < w3.heap.size := by have := hb.size; omega
  have hy3 : w.heap.size < w3.heap.size := by omega
  obtain ⟨hc3, hf3⟩ := bcell hb
  have k0 := blk_cell hb3 0
  have k1 := blk_cell hb3 1
  have k2 := blk_cell hb3 2
  have k3 := blk_cell hb3 3
  have k4 := blk_cell hb3 4
  have k5 := blk_cell hb3 5
  simp at k0 k1 k2 k3 k4 k5
  have HB3 := Aside0.mk hB3'
  have HO0' := Aside0.mk (Kd.R_below HO0.out hb)
  have HO2' := Aside0.mk (Kd.R_below HO2.out hb)
  have HO4' := Aside0.mk (Kd.R_below HO4.out hb)
  clear hB3 hb3 hb hB3' HO0 HO2 HO4
  go_wp2_with fail
  refine (drive_disk _ _ _ _ _ _ _ _ _ _ _ _ _).mono ?_
  rintro e w4 ⟨rfl, hb⟩
  have hB4 : Below w.heap.size w w4 := below_then HB3.out (by omega) hb
  have hz4 : w.heap.size + 1 < w4.heap.size := by have := hb.size; omega
  have hy4 : w.heap.size < w4.heap.size := by omega
  obtain ⟨hc4, hf4⟩ := bcell hb
  have HB4 := Aside0.mk hB4
  have HO0 := Aside0.mk (Kd.R_below HO0'.out hb)
  have HO2 := Aside0.mk (Kd.R_below HO2'.out hb)
  have HO4 := Aside0.mk (Kd.R_below HO4'.out hb)
  clear hB4 hb HO0' HO2' HO4' k0 k1 k2 k3 k4 k5
  go_wp2_with fail
  refine bodyPost_ret (v := .tuple #[.agg #[.slice B0 l0_0.length d0, .int .i64 a0_1, .slice none 0 0, .int .i64 0, .slice B4 l0_4.length d4, .int .i64 a0_5], .int .i64 0]) ?_ rfl ?_
  · simp [results, Try.results83, go_sem, hc4, hc3, hc2, hc1, hy1, hz1, hy2, hz2, hy3, hz3, hy4, hz4]
  · refine ⟨_, _, _, rfl, ?_, ?_, ?_, ?_⟩
    · exact R_store6 HO0.out (fun k hk => ⟨(fun e => by cases e), hk.2⟩) hz1 (by omega)
    · exact Kd.R_nil _ _ _ _ _
    · exact R_store6 HO4.out (fun k hk => ⟨hk.1, (fun e => by cases e)⟩) hz1 (by omega)
    · exact below_store6 HB4.out (by omega)

set_option maxHeartbeats 800000 in
set_option maxRecDepth 100000 in
theorem onFile_reset_2 (A0_0 : Option Addr) (c0_0 : Nat) (l0_0 : List Int) (a0_1 : Int) (A0_2 : Option Addr) (c0_2 : Nat) (l0_2 : List Int) (a0_3 : Int) (A0_4 : Option Addr) (c0_4 : Nat) (l0_4 : List Int) (a0_5 : Int) (w : World) (hr0_0 : Kd.C (Kd.int .u8) w A0_0 l0_0.length l0_0) (hc0_0 : l0_0.length ≤ c0_0) (hr0_2 : Kd.C (Kd.int .u8) w A0_2 l0_2.length l0_2) (hc0_2 : l0_2.length ≤ c0_2) (hr0_4 : Kd.C (Kd.int .u8) w A0_4 l0_4.length l0_4) (hc0_4 : l0_4.length ≤ c0_4) (hv : okDisk l0_0 a0_1 l0_2 a0_3 l0_4 a0_5 = true) :
    Calls Try.prog 83 #[.agg #[.slice A0_0 l0_0.length c0_0, .int .i64 a0_1, .slice A0_2 l0_2.length c0_2, .int .i64 a0_3, .slice A0_4 l0_4.length c0_4, .int .i64 a0_5], .int .i64 2, .func (Fn.func 84) #[] #[]] w fun e w' => ∃ v0_ v2_ v4_ : Value, e = .returned (.tuple #[.agg #[v0_, .int .i64 a0_1, v2_, .int .i64 a0_3, v4_, .int .i64 0], .int .i64 0]) ∧ Kd.R (Kd.int .u8) 5 w' w.heap.size (fun k_ => some k_ ≠ (v2_ : Value).ownBlock ∧ some k_ ≠ (v4_ : Value).ownBlock) v0_ l0_0 ∧ Kd.R (Kd.int .u8) 5 w' w.heap.size (fun k_ => some k_ ≠ (v0_ : Value).ownBlock ∧ some k_ ≠ (v4_ : Value).ownBlock) v2_ l0_2 ∧ Kd.R (Kd.int .u8) 5 w' w.heap.size (fun k_ => some k_ ≠ (v0_ : Value).ownBlock ∧ some k_ ≠ (v2_ : Value).ownBlock) v4_ [] ∧ Below w.heap.size w w' := by
  have HR0 := Aside0.mk hr0_0
  have HR2 := Aside0.mk hr0_2
  have HR4 := Aside0.mk hr0_4
  clear hr0_0 hr0_2 hr0_4
  obtain ⟨⟨x0, x1, x2⟩, ⟨y0, y1, y2⟩, ⟨z0, z1, z2⟩⟩ := okDisk_iff hv
  have HV := Aside0.mk hv
  clear hv
  go_enter Try.func83, Try.ntmps83
  go_wp2_with fail
  refine (validDisk_any _ _ _ _ _ _ _ _ _ _ _ _ _).mono ?_
  rintro e w1 ⟨rfl, hb⟩
  have hvv : (okFile l0_0.length a0_1 && (okFile l0_2.length a0_3 && okFile l0_4.length a0_5)) = true := HV.out
  rw [hvv]
  clear hvv
  have hB1 : Below w.heap.size w w1 := below_then (below_alloc (below_alloc (Below.refl _ _) _) _) (by simp; omega) hb
  have hz1 : w.heap.size + 1 < w1.heap.size := by have := hb.size; simp at this; omega
  have hy1 : w.heap.size < w1.heap.size := by omega
  obtain ⟨hc1, hf1⟩ := bcell hb
  have HB1 := Aside0.mk hB1
  clear hB1 hb
  go_wp2_with fail
  refine (driveOf_any A0_0 A0_2 A0_4 c0_0 c0_2 c0_4 l0_0 l0_2 l0_4 a0_1 a0_3 a0_5 w1 (Kd.C_below HR0.out HB1.out) hc0_0 (Kd.C_below HR2.out HB1.out) hc0_2 (Kd.C_below HR4.out HB1.out) hc0_4 x0 y0 z0).mono ?_
  rintro e w2 ⟨v0, v2, v4, rfl, ho0, ho2, ho4, hb⟩
  obtain ⟨B0, d0, rfl, hd0, hp0⟩ := Kd.R_reads ho0
  obtain ⟨B2, d2, rfl, hd2, hp2⟩ := Kd.R_reads ho2
  obtain ⟨B4, d4, rfl, hd4, hp4⟩ := Kd.R_reads ho4
  have hB2 : Below w.heap.size w w2 := below_then HB1.out (by omega) hb
  have hz2 : w.heap.size + 1 < w2.heap.size := by have := hb.size; omega
  have hy2 : w.heap.size < w2.heap.size := by omega
  obtain ⟨hc2, hf2⟩ := bcell hb
  have HB2 := Aside0.mk hB2
  have HO0 := Aside0.mk ho0
  have HO2 := Aside0.mk ho2
  have HO4 := Aside0.mk ho4
  have HP0 := Aside0.mk hp0
  have HP2 := Aside0.mk hp2
  have HP4 := Aside0.mk hp4
  clear hB2 hb ho0 ho2 ho4 hp0 hp2 hp4
  go_wp2_with fail
  refine (do_reset w2.heap.size 4 75 _ _ _ _ (blk_new w2 _) rfl rfl).mono ?_
  rintro e w3 ⟨rfl, hB3, hb3⟩
  have hb : Below w2.heap.size w2 w3 := (below_alloc (Below.refl _ _) _).trans hB3
  have hB3' : Below w.heap.size w w3 := below_then HB2.out (by omega) hb
  have hz3 : w.heap.size + 1 < w3.heap.size := by have := hb.size; omega
  have hy3 : w.heap.size < w3.heap.size := by omega
  obtain ⟨hc3, hf3⟩ := bcell hb
  have k0 := blk_cell hb3 0
  have k1 := blk_cell hb3 1
  have k2 := blk_cell hb3 2
  have k3 := blk_cell hb3 3
  have k4 := blk_cell hb3 4
  have k5 := blk_cell hb3 5
  simp at k0 k1 k2 k3 k4 k5
  have HB3 := Aside0.mk hB3'
  have HO0' := Aside0.mk (Kd.R_below HO0.out hb)
  have HO2' := Aside0.mk (Kd.R_below HO2.out hb)
  have HO4' := Aside0.mk (Kd.R_below HO4.out hb)
  clear hB3 hb3 hb hB3' HO0 HO2 HO4
  go_wp2_with fail
  refine (drive_disk _ _ _ _ _ _ _ _ _ _ _ _ _).mono ?_
  rintro e w4 ⟨rfl, hb⟩
  have hB4 : Below w.heap.size w w4 := below_then HB3.out (by omega) hb
  have hz4 : w.heap.size + 1 < w4.heap.size := by have := hb.size; omega
  have hy4 : w.heap.size < w4.heap.size := by omega
  obtain ⟨hc4, hf4⟩ := bcell hb
  have HB4 := Aside0.mk hB4
  have HO0 := Aside0.mk (Kd.R_below HO0'.out hb)
  have HO2 := Aside0.mk (Kd.R_below HO2'.out hb)
  have HO4 := Aside0.mk (Kd.R_below HO4'.out hb)
  clear hB4 hb HO0' HO2' HO4' k0 k1 k2 k3 k4 k5
  go_wp2_with fail
  refine bodyPost_ret (v := .tuple #[.agg #[.slice B0 l0_0.length d0, .int .i64 a0_1, .slice B2 l0_2.length d2, .int .i64 a0_3, .slice none 0 0, .int .i64 0], .int .i64 0]) ?_ rfl ?_
  · simp [results, Try.results83, go_sem, hc4, hc3, hc2, hc1, hy1, hz1, hy2, hz2, hy3, hz3, hy4, hz4]
  · refine ⟨_, _, _, rfl, ?_, ?_, ?_, ?_⟩
    · exact R_store6 HO0.out (fun k hk => ⟨hk.1, (fun e => by cases e)⟩) hz1 (by omega)
    · exact R_store6 HO2.out (fun k hk => ⟨hk.1, (fun e => by cases e)⟩) hz1 (by omega)
    · exact Kd.R_nil _ _ _ _ _
    · exact below_store6 HB4.out (by omega)

set_option maxHeartbeats 800000 in
set_option maxRecDepth 100000 in
theorem onFile_sync_0 (A0_0 : Option Addr) (c0_0 : Nat) (l0_0 : List Int) (a0_1 : Int) (A0_2 : Option Addr) (c0_2 : Nat) (l0_2 : List Int) (a0_3 : Int) (A0_4 : Option Addr) (c0_4 : Nat) (l0_4 : List Int) (a0_5 : Int) (w : World) (hr0_0 : Kd.C (Kd.int .u8) w A0_0 l0_0.length l0_0) (hc0_0 : l0_0.length ≤ c0_0) (hr0_2 : Kd.C (Kd.int .u8) w A0_2 l0_2.length l0_2) (hc0_2 : l0_2.length ≤ c0_2) (hr0_4 : Kd.C (Kd.int .u8) w A0_4 l0_4.length l0_4) (hc0_4 : l0_4.length ≤ c0_4) (hv : okDisk l0_0 a0_1 l0_2 a0_3 l0_4 a0_5 = true) :
    Calls Try.prog 83 #[.agg #[.slice A0_0 l0_0.length c0_0, .int .i64 a0_1, .slice A0_2 l0_2.length c0_2, .int .i64 a0_3, .slice A0_4 l0_4.length c0_4, .int .i64 a0_5], .int .i64 0, .func (Fn.func 87) #[] #[]] w fun e w' => ∃ v0_ v2_ v4_ : Value, e = .returned (.tuple #[.agg #[v0_, .int .i64 (l0_0.length : Int), v2_, .int .i64 a0_3, v4_, .int .i64 a0_5], .int .i64 0]) ∧ Kd.R (Kd.int .u8) 5 w' w.heap.size (fun k_ => some k_ ≠ (v2_ : Value).ownBlock ∧ some k_ ≠ (v4_ : Value).ownBlock) v0_ l0_0 ∧ Kd.R (Kd.int .u8) 5 w' w.heap.size (fun k_ => some k_ ≠ (v0_ : Value).ownBlock ∧ some k_ ≠ (v4_ : Value).ownBlock) v2_ l0_2 ∧ Kd.R (Kd.int .u8) 5 w' w.heap.size (fun k_ => some k_ ≠ (v0_ : Value).ownBlock ∧ some k_ ≠ (v2_ : Value).ownBlock) v4_ l0_4 ∧ Below w.heap.size w w' := by
  have HR0 := Aside0.mk hr0_0
  have HR2 := Aside0.mk hr0_2
  have HR4 := Aside0.mk hr0_4
  clear hr0_0 hr0_2 hr0_4
  obtain ⟨⟨x0, x1, x2⟩, ⟨y0, y1, y2⟩, ⟨z0, z1, z2⟩⟩ := okDisk_iff hv
  have HV := Aside0.mk hv
  clear hv
  go_enter Try.func83, Try.ntmps83
  go_wp2_with fail
  refine (validDisk_any _ _ _ _ _ _ _ _ _ _ _ _ _).mono ?_
  rintro e w1 ⟨rfl, hb⟩
  have hvv : (okFile l0_0.length a0_1 && (okFile l0_2.length a0_3 && okFile l0_4.length a0_5)) = true := HV.out
  rw [hvv]
  clear hvv
  have hB1 : Below w.heap.size w w1 := below_then (below_alloc (below_alloc (Below.refl _ _) _) _) (by simp; omega) hb
  have hz1 : w.heap.size + 1 < w1.heap.size := by have := hb.size; simp at this; omega
  have hy1 : w.heap.size < w1.heap.size := by omega
  obtain ⟨hc1, hf1⟩ := bcell hb
  have HB1 := Aside0.mk hB1
  clear hB1 hb
  go_wp2_with fail
  refine (driveOf_any A0_0 A0_2 A0_4 c0_0 c0_2 c0_4 l0_0 l0_2 l0_4 a0_1 a0_3 a0_5 w1 (Kd.C_below HR0.out HB1.out) hc0_0 (Kd.C_below HR2.out HB1.out) hc0_2 (Kd.C_below HR4.out HB1.out) hc0_4 x0 y0 z0).mono ?_
  rintro e w2 ⟨v0, v2, v4, rfl, ho0, ho2, ho4, hb⟩
  obtain ⟨B0, d0, rfl, hd0, hp0⟩ := Kd.R_reads ho0
  obtain ⟨B2, d2, rfl, hd2, hp2⟩ := Kd.R_reads ho2
  obtain ⟨B4, d4, rfl, hd4, hp4⟩ := Kd.R_reads ho4
  have hB2 : Below w.heap.size w w2 := below_then HB1.out (by omega) hb
  have hz2 : w.heap.size + 1 < w2.heap.size := by have := hb.size; omega
  have hy2 : w.heap.size < w2.heap.size := by omega
  obtain ⟨hc2, hf2⟩ := bcell hb
  have HB2 := Aside0.mk hB2
  have HO0 := Aside0.mk ho0
  have HO2 := Aside0.mk ho2
  have HO4 := Aside0.mk ho4
  have HP0 := Aside0.mk hp0
  have HP2 := Aside0.mk hp2
  have HP4 := Aside0.mk hp4
  clear hB2 hb ho0 ho2 ho4 hp0 hp2 hp4
  go_wp2_with fail
  refine (do_sync w2.heap.size 0 _ _ 75 _ _ _ _ (blk_new w2 _) rfl rfl).mono ?_
  rintro e w3 ⟨rfl, hB3, hb3⟩
  have hb : Below w2.heap.size w2 w3 := (below_alloc (Below.refl _ _) _).trans hB3
  have hB3' : Below w.heap.size w w3 := below_then HB2.out (by omega) hb
  have hz3 : w.heap.size + 1 < w3.heap.size := by have := hb.size; omega
  have hy3 : w.heap.size < w3.heap.size := by omega
  obtain ⟨hc3, hf3⟩ := bcell hb
  have k0 := blk_cell hb3 0
  have k1 := blk_cell hb3 1
  have k2 := blk_cell hb3 2
  have k3 := blk_cell hb3 3
  have k4 := blk_cell hb3 4
  have k5 := blk_cell hb3 5
  simp at k0 k1 k2 k3 k4 k5
  have HB3 := Aside0.mk hB3'
  have HO0' := Aside0.mk (Kd.R_below HO0.out hb)
  have HO2' := Aside0.mk (Kd.R_below HO2.out hb)
  have HO4' := Aside0.mk (Kd.R_below HO4.out hb)
  clear hB3 hb3 hb hB3' HO0 HO2 HO4
  go_wp2_with fail
  refine (drive_disk _ _ _ _ _ _ _ _ _ _ _ _ _).mono ?_
  rintro e w4 ⟨rfl, hb⟩
  have hB4 : Below w.heap.size w w4 := below_then HB3.out (by omega) hb
  have hz4 : w.heap.size + 1 < w4.heap.size := by have := hb.size; omega
  have hy4 : w.heap.size < w4.heap.size := by omega
  obtain ⟨hc4, hf4⟩ := bcell hb
  have HB4 := Aside0.mk hB4
  have HO0 := Aside0.mk (Kd.R_below HO0'.out hb)
  have HO2 := Aside0.mk (Kd.R_below HO2'.out hb)
  have HO4 := Aside0.mk (Kd.R_below HO4'.out hb)
  clear hB4 hb HO0' HO2' HO4' k0 k1 k2 k3 k4 k5
  go_wp2_with fail
  refine bodyPost_ret (v := .tuple #[.agg #[.slice B0 l0_0.length d0, .int .i64 (l0_0.length : Int), .slice B2 l0_2.length d2, .int .i64 a0_3, .slice B4 l0_4.length d4, .int .i64 a0_5], .int .i64 0]) ?_ rfl ?_
  · simp [results, Try.results83, go_sem, hc4, hc3, hc2, hc1, hy1, hz1, hy2, hz2, hy3, hz3, hy4, hz4]
  · refine ⟨_, _, _, rfl, ?_, ?_, ?_, ?_⟩
    · exact R_store6 HO0.out (fun k hk => hk) hz1 (by omega)
    · exact R_store6 HO2.out (fun k hk => hk) hz1 (by omega)
    · exact R_store6 HO4.out (fun k hk => hk) hz1 (by omega)
    · exact below_store6 HB4.out (by omega)

set_option maxHeartbeats 800000 in
set_option maxRecDepth 100000 in
theorem onFile_sync_1 (A0_0 : Option Addr) (c0_0 : Nat) (l0_0 : List Int) (a0_1 : Int) (A0_2 : Option Addr) (c0_2 : Nat) (l0_2 : List Int) (a0_3 : Int) (A0_4 : Option Addr) (c0_4 : Nat) (l0_4 : List Int) (a0_5 : Int) (w : World) (hr0_0 : Kd.C (Kd.int .u8) w A0_0 l0_0.length l0_0) (hc0_0 : l0_0.length ≤ c0_0) (hr0_2 : Kd.C (Kd.int .u8) w A0_2 l0_2.length l0_2) (hc0_2 : l0_2.length ≤ c0_2) (hr0_4 : Kd.C (Kd.int .u8) w A0_4 l0_4.length l0_4) (hc0_4 : l0_4.length ≤ c0_4) (hv : okDisk l0_0 a0_1 l0_2 a0_3 l0_4 a0_5 = true) :
    Calls Try.prog 83 #[.agg #[.slice A0_0 l0_0.length c0_0, .int .i64 a0_1, .slice A0_2 l0_2.length c0_2, .int .i64 a0_3, .slice A0_4 l0_4.length c0_4, .int .i64 a0_5], .int .i64 1, .func (Fn.func 87) #[] #[]] w fun e w' => ∃ v0_ v2_ v4_ : Value, e = .returned (.tuple #[.agg #[v0_, .int .i64 a0_1, v2_, .int .i64 (l0_2.length : Int), v4_, .int .i64 a0_5], .int .i64 0]) ∧ Kd.R (Kd.int .u8) 5 w' w.heap.size (fun k_ => some k_ ≠ (v2_ : Value).ownBlock ∧ some k_ ≠ (v4_ : Value).ownBlock) v0_ l0_0 ∧ Kd.R (Kd.int .u8) 5 w' w.heap.size (fun k_ => some k_ ≠ (v0_ : Value).ownBlock ∧ some k_ ≠ (v4_ : Value).ownBlock) v2_ l0_2 ∧ Kd.R (Kd.int .u8) 5 w' w.heap.size (fun k_ => some k_ ≠ (v0_ : Value).ownBlock ∧ some k_ ≠ (v2_ : Value).ownBlock) v4_ l0_4 ∧ Below w.heap.size w w' := by
  have HR0 := Aside0.mk hr0_0
  have HR2 := Aside0.mk hr0_2
  have HR4 := Aside0.mk hr0_4
  clear hr0_0 hr0_2 hr0_4
  obtain ⟨⟨x0, x1, x2⟩, ⟨y0, y1, y2⟩, ⟨z0, z1, z2⟩⟩ := okDisk_iff hv
  have HV := Aside0.mk hv
  clear hv
  go_enter Try.func83, Try.ntmps83
  go_wp2_with fail
  refine (validDisk_any _ _ _ _ _ _ _ _ _ _ _ _ _).mono ?_
  rintro e w1 ⟨rfl, hb⟩
  have hvv : (okFile l0_0.length a0_1 && (okFile l0_2.length a0_3 && okFile l0_4.length a0_5)) = true := HV.out
  rw [hvv]
  clear hvv
  have hB1 : Below w.heap.size w w1 := below_then (below_alloc (below_alloc (Below.refl _ _) _) _) (by simp; omega) hb
  have hz1 : w.heap.size + 1 < w1.heap.size := by have := hb.size; simp at this; omega
  have hy1 : w.heap.size < w1.heap.size := by omega
  obtain ⟨hc1, hf1⟩ := bcell hb
  have HB1 := Aside0.mk hB1
  clear hB1 hb
  go_wp2_with fail
  refine (driveOf_any A0_0 A0_2 A0_4 c0_0 c0_2 c0_4 l0_0 l0_2 l0_4 a0_1 a0_3 a0_5 w1 (Kd.C_below HR0.out HB1.out) hc0_0 (Kd.C_below HR2.out HB1.out) hc0_2 (Kd.C_below HR4.out HB1.out) hc0_4 x0 y0 z0).mono ?_
  rintro e w2 ⟨v0, v2, v4, rfl, ho0, ho2, ho4, hb⟩
  obtain ⟨B0, d0, rfl, hd0, hp0⟩ := Kd.R_reads ho0
  obtain ⟨B2, d2, rfl, hd2, hp2⟩ := Kd.R_reads ho2
  obtain ⟨B4, d4, rfl, hd4, hp4⟩ := Kd.R_reads ho4
  have hB2 : Below w.heap.size w w2 := below_then HB1.out (by omega) hb
  have hz2 : w.heap.size + 1 < w2.heap.size := by have := hb.size; omega
  have hy2 : w.heap.size < w2.heap.size := by omega
  obtain ⟨hc2, hf2⟩ := bcell hb
  have HB2 := Aside0.mk hB2
  have HO0 := Aside0.mk ho0
  have HO2 := Aside0.mk ho2
  have HO4 := Aside0.mk ho4
  have HP0 := Aside0.mk hp0
  have HP2 := Aside0.mk hp2
  have HP4 := Aside0.mk hp4
  clear hB2 hb ho0 ho2 ho4 hp0 hp2 hp4
  go_wp2_with fail
  refine (do_sync w2.heap.size 2 _ _ 75 _ _ _ _ (blk_new w2 _) rfl rfl).mono ?_
  rintro e w3 ⟨rfl, hB3, hb3⟩
  have hb : Below w2.heap.size w2 w3 := (below_alloc (Below.refl _ _) _).trans hB3
  have hB3' : Below w.heap.size w w3 := below_then HB2.out (by omega) hb
  have hz3 : w.heap.size + 1 < w3.heap.size := by have := hb.size; omega
  have hy3 : w.heap.size < w3.heap.size := by omega
  obtain ⟨hc3, hf3⟩ := bcell hb
  have k0 := blk_cell hb3 0
  have k1 := blk_cell hb3 1
  have k2 := blk_cell hb3 2
  have k3 := blk_cell hb3 3
  have k4 := blk_cell hb3 4
  have k5 := blk_cell hb3 5
  simp at k0 k1 k2 k3 k4 k5
  have HB3 := Aside0.mk hB3'
  have HO0' := Aside0.mk (Kd.R_below HO0.out hb)
  have HO2' := Aside0.mk (Kd.R_below HO2.out hb)
  have HO4' := Aside0.mk (Kd.R_below HO4.out hb)
  clear hB3 hb3 hb hB3' HO0 HO2 HO4
  go_wp2_with fail
  refine (drive_disk _ _ _ _ _ _ _ _ _ _ _ _ _).mono ?_
  rintro e w4 ⟨rfl, hb⟩
  have hB4 : Below w.heap.size w w4 := below_then HB3.out (by omega) hb
  have hz4 : w.heap.size + 1 < w4.heap.size := by have := hb.size; omega
  have hy4 : w.heap.size < w4.heap.size := by omega
  obtain ⟨hc4, hf4⟩ := bcell hb
  have HB4 := Aside0.mk hB4
  have HO0 := Aside0.mk (Kd.R_below HO0'.out hb)
  have HO2 := Aside0.mk (Kd.R_below HO2'.out hb)
  have HO4 := Aside0.mk (Kd.R_below HO4'.out hb)
  clear hB4 hb HO0' HO2' HO4' k0 k1 k2 k3 k4 k5
  go_wp2_with fail
  refine bodyPost_ret (v := .tuple #[.agg #[.slice B0 l0_0.length d0, .int .i64 a0_1, .slice B2 l0_2.length d2, .int .i64 (l0_2.length : Int), .slice B4 l0_4.length d4, .int .i64 a0_5], .int .i64 0]) ?_ rfl ?_
  · simp [results, Try.results83, go_sem, hc4, hc3, hc2, hc1, hy1, hz1, hy2, hz2, hy3, hz3, hy4, hz4]
  · refine ⟨_, _, _, rfl, ?_, ?_, ?_, ?_⟩
    · exact R_store6 HO0.out (fun k hk => hk) hz1 (by omega)
    · exact R_store6 HO2.out (fun k hk => hk) hz1 (by omega)
    · exact R_store6 HO4.out (fun k hk => hk) hz1 (by omega)
    · exact below_store6 HB4.out (by omega)

set_option maxHeartbeats 800000 in
set_option maxRecDepth 100000 in
theorem onFile_sync_2 (A0_0 : Option Addr) (c0_0 : Nat) (l0_0 : List Int) (a0_1 : Int) (A0_2 : Option Addr) (c0_2 : Nat) (l0_2 : List Int) (a0_3 : Int) (A0_4 : Option Addr) (c0_4 : Nat) (l0_4 : List Int) (a0_5 : Int) (w : World) (hr0_0 : Kd.C (Kd.int .u8) w A0_0 l0_0.length l0_0) (hc0_0 : l0_0.length ≤ c0_0) (hr0_2 : Kd.C (Kd.int .u8) w A0_2 l0_2.length l0_2) (hc0_2 : l0_2.length ≤ c0_2) (hr0_4 : Kd.C (Kd.int .u8) w A0_4 l0_4.length l0_4) (hc0_4 : l0_4.length ≤ c0_4) (hv : okDisk l0_0 a0_1 l0_2 a0_3 l0_4 a0_5 = true) :
    Calls Try.prog 83 #[.agg #[.slice A0_0 l0_0.length c0_0, .int .i64 a0_1, .slice A0_2 l0_2.length c0_2, .int .i64 a0_3, .slice A0_4 l0_4.length c0_4, .int .i64 a0_5], .int .i64 2, .func (Fn.func 87) #[] #[]] w fun e w' => ∃ v0_ v2_ v4_ : Value, e = .returned (.tuple #[.agg #[v0_, .int .i64 a0_1, v2_, .int .i64 a0_3, v4_, .int .i64 (l0_4.length : Int)], .int .i64 0]) ∧ Kd.R (Kd.int .u8) 5 w' w.heap.size (fun k_ => some k_ ≠ (v2_ : Value).ownBlock ∧ some k_ ≠ (v4_ : Value).ownBlock) v0_ l0_0 ∧ Kd.R (Kd.int .u8) 5 w' w.heap.size (fun k_ => some k_ ≠ (v0_ : Value).ownBlock ∧ some k_ ≠ (v4_ : Value).ownBlock) v2_ l0_2 ∧ Kd.R (Kd.int .u8) 5 w' w.heap.size (fun k_ => some k_ ≠ (v0_ : Value).ownBlock ∧ some k_ ≠ (v2_ : Value).ownBlock) v4_ l0_4 ∧ Below w.heap.size w w' := by
  have HR0 := Aside0.mk hr0_0
  have HR2 := Aside0.mk hr0_2
  have HR4 := Aside0.mk hr0_4
  clear hr0_0 hr0_2 hr0_4
  obtain ⟨⟨x0, x1, x2⟩, ⟨y0, y1, y2⟩, ⟨z0, z1, z2⟩⟩ := okDisk_iff hv
  have HV := Aside0.mk hv
  clear hv
  go_enter Try.func83, Try.ntmps83
  go_wp2_with fail
  refine (validDisk_any _ _ _ _ _ _ _ _ _ _ _ _ _).mono ?_
  rintro e w1 ⟨rfl, hb⟩
  have hvv : (okFile l0_0.length a0_1 && (okFile l0_2.length a0_3 && okFile l0_4.length a0_5)) = true := HV.out
  rw [hvv]
  clear hvv
  have hB1 : Below w.heap.size w w1 := below_then (below_alloc (below_alloc (Below.refl _ _) _) _) (by simp; omega) hb
  have hz1 : w.heap.size + 1 < w1.heap.size := by have := hb.size; simp at this; omega
  have hy1 : w.heap.size < w1.heap.size := by omega
  obtain ⟨hc1, hf1⟩ := bcell hb
  have HB1 := Aside0.mk hB1
  clear hB1 hb
  go_wp2_with fail
  refine (driveOf_any A0_0 A0_2 A0_4 c0_0 c0_2 c0_4 l0_0 l0_2 l0_4 a0_1 a0_3 a0_5 w1 (Kd.C_below HR0.out HB1.out) hc0_0 (Kd.C_below HR2.out HB1.out) hc0_2 (Kd.C_below HR4.out HB1.out) hc0_4 x0 y0 z0).mono ?_
  rintro e w2 ⟨v0, v2, v4, rfl, ho0, ho2, ho4, hb⟩
  obtain ⟨B0, d0, rfl, hd0, hp0⟩ := Kd.R_reads ho0
  obtain ⟨B2, d2, rfl, hd2, hp2⟩ := Kd.R_reads ho2
  obtain ⟨B4, d4, rfl, hd4, hp4⟩ := Kd.R_reads ho4
  have hB2 : Below w.heap.size w w2 := below_then HB1.out (by omega) hb
  have hz2 : w.heap.size + 1 < w2.heap.size := by have := hb.size; omega
  have hy2 : w.heap.size < w2.heap.size := by omega
  obtain ⟨hc2, hf2⟩ := bcell hb
  have HB2 := Aside0.mk hB2
  have HO0 := Aside0.mk ho0
  have HO2 := Aside0.mk ho2
  have HO4 := Aside0.mk ho4
  have HP0 := Aside0.mk hp0
  have HP2 := Aside0.mk hp2
  have HP4 := Aside0.mk hp4
  clear hB2 hb ho0 ho2 ho4 hp0 hp2 hp4
  go_wp2_with fail
  refine (do_sync w2.heap.size 4 _ _ 75 _ _ _ _ (blk_new w2 _) rfl rfl).mono ?_
  rintro e w3 ⟨rfl, hB3, hb3⟩
  have hb : Below w2.heap.size w2 w3 := (below_alloc (Below.refl _ _) _).trans hB3
  have hB3' : Below w.heap.size w w3 := below_then HB2.out (by omega) hb
  have hz3 : w.heap.size + 1 < w3.heap.size := by have := hb.size; omega
  have hy3 : w.heap.size < w3.heap.size := by omega
  obtain ⟨hc3, hf3⟩ := bcell hb
  have k0 := blk_cell hb3 0
  have k1 := blk_cell hb3 1
  have k2 := blk_cell hb3 2
  have k3 := blk_cell hb3 3
  have k4 := blk_cell hb3 4
  have k5 := blk_cell hb3 5
  simp at k0 k1 k2 k3 k4 k5
  have HB3 := Aside0.mk hB3'
  have HO0' := Aside0.mk (Kd.R_below HO0.out hb)
  have HO2' := Aside0.mk (Kd.R_below HO2.out hb)
  have HO4' := Aside0.mk (Kd.R_below HO4.out hb)
  clear hB3 hb3 hb hB3' HO0 HO2 HO4
  go_wp2_with fail
  refine (drive_disk _ _ _ _ _ _ _ _ _ _ _ _ _).mono ?_
  rintro e w4 ⟨rfl, hb⟩
  have hB4 : Below w.heap.size w w4 := below_then HB3.out (by omega) hb
  have hz4 : w.heap.size + 1 < w4.heap.size := by have := hb.size; omega
  have hy4 : w.heap.size < w4.heap.size := by omega
  obtain ⟨hc4, hf4⟩ := bcell hb
  have HB4 := Aside0.mk hB4
  have HO0 := Aside0.mk (Kd.R_below HO0'.out hb)
  have HO2 := Aside0.mk (Kd.R_below HO2'.out hb)
  have HO4 := Aside0.mk (Kd.R_below HO4'.out hb)
  clear hB4 hb HO0' HO2' HO4' k0 k1 k2 k3 k4 k5
  go_wp2_with fail
  refine bodyPost_ret (v := .tuple #[.agg #[.slice B0 l0_0.length d0, .int .i64 a0_1, .slice B2 l0_2.length d2, .int .i64 a0_3, .slice B4 l0_4.length d4, .int .i64 (l0_4.length : Int)], .int .i64 0]) ?_ rfl ?_
  · simp [results, Try.results83, go_sem, hc4, hc3, hc2, hc1, hy1, hz1, hy2, hz2, hy3, hz3, hy4, hz4]
  · refine ⟨_, _, _, rfl, ?_, ?_, ?_, ?_⟩
    · exact R_store6 HO0.out (fun k hk => hk) hz1 (by omega)
    · exact R_store6 HO2.out (fun k hk => hk) hz1 (by omega)
    · exact R_store6 HO4.out (fun k hk => hk) hz1 (by omega)
    · exact below_store6 HB4.out (by omega)

set_option maxHeartbeats 800000 in
set_option maxRecDepth 100000 in
theorem onFile_no_0 (A0_0 : Option Addr) (c0_0 : Nat) (l0_0 : List Int) (a0_1 : Int) (A0_2 : Option Addr) (c0_2 : Nat) (l0_2 : List Int) (a0_3 : Int) (A0_4 : Option Addr) (c0_4 : Nat) (l0_4 : List Int) (a0_5 : Int) (bb : Nat) (A2 : Option Addr) (c2 : Nat) (b : List Int) (w : World) (hr0_0 : Kd.C (Kd.int .u8) w A0_0 l0_0.length l0_0) (hc0_0 : l0_0.length ≤ c0_0) (hr0_2 : Kd.C (Kd.int .u8) w A0_2 l0_2.length l0_2) (hc0_2 : l0_2.length ≤ c0_2) (hr0_4 : Kd.C (Kd.int .u8) w A0_4 l0_4.length l0_4) (hc0_4 : l0_4.length ≤ c0_4) (hbb : w.cell? ⟨bb, 0, none⟩ = some (.slice A2 b.length c2)) (hlt : bb < w.heap.size) (hrb : Kd.C (Kd.int .u8) w A2 b.length b) (hcb : b.length ≤ c2) (hx : 200000 < l0_0.length + b.length) (hbl : b.length ≤ 140737488355328) (hv : okDisk l0_0 a0_1 l0_2 a0_3 l0_4 a0_5 = true) :
    Calls Try.prog 83 #[.agg #[.slice A0_0 l0_0.length c0_0, .int .i64 a0_1, .slice A0_2 l0_2.length c0_2, .int .i64 a0_3, .slice A0_4 l0_4.length c0_4, .int .i64 a0_5], .int .i64 0, .func (Fn.func 90) #[] #[.pointer (some ⟨bb, 0, none⟩)]] w fun e w' => ∃ v0_ v2_ v4_ : Value, e = .returned (.tuple #[.agg #[v0_, .int .i64 a0_1, v2_, .int .i64 a0_3, v4_, .int .i64 a0_5], .int .i64 11]) ∧ Kd.R (Kd.int .u8) 5 w' w.heap.size (fun k_ => some k_ ≠ (v2_ : Value).ownBlock ∧ some k_ ≠ (v4_ : Value).ownBlock) v0_ l0_0 ∧ Kd.R (Kd.int .u8) 5 w' w.heap.size (fun k_ => some k_ ≠ (v0_ : Value).ownBlock ∧ some k_ ≠ (v4_ : Value).ownBlock) v2_ l0_2 ∧ Kd.R (Kd.int .u8) 5 w' w.heap.size (fun k_ => some k_ ≠ (v0_ : Value).ownBlock ∧ some k_ ≠ (v2_ : Value).ownBlock) v4_ l0_4 ∧ Below w.heap.size w w' := by
  have HR0 := Aside0.mk hr0_0
  have HR2 := Aside0.mk hr0_2
  have HR4 := Aside0.mk hr0_4
  clear hr0_0 hr0_2 hr0_4
  have HBB := Aside0.mk hbb
  have HRB := Aside0.mk hrb
  clear hbb hrb
  obtain ⟨⟨x0, x1, x2⟩, ⟨y0, y1, y2⟩, ⟨z0, z1, z2⟩⟩ := okDisk_iff hv
  have HV := Aside0.mk hv
  clear hv
  go_enter Try.func83, Try.ntmps83
  go_wp2_with fail
  refine (validDisk_any _ _ _ _ _ _ _ _ _ _ _ _ _).mono ?_
  rintro e w1 ⟨rfl, hb⟩
  have hvv : (okFile l0_0.length a0_1 && (okFile l0_2.length a0_3 && okFile l0_4.length a0_5)) = true := HV.out
  rw [hvv]
  clear hvv
  have hB1 : Below w.heap.size w w1 := below_then (below_alloc (below_alloc (Below.refl _ _) _) _) (by simp; omega) hb
  have hz1 : w.heap.size + 1 < w1.heap.size := by have := hb.size; simp at this; omega
  have hy1 : w.heap.size < w1.heap.size := by omega
  obtain ⟨hc1, hf1⟩ := bcell hb
  have HB1 := Aside0.mk hB1
  clear hB1 hb
  go_wp2_with fail
  refine (driveOf_any A0_0 A0_2 A0_4 c0_0 c0_2 c0_4 l0_0 l0_2 l0_4 a0_1 a0_3 a0_5 w1 (Kd.C_below HR0.out HB1.out) hc0_0 (Kd.C_below HR2.out HB1.out) hc0_2 (Kd.C_below HR4.out HB1.out) hc0_4 x0 y0 z0).mono ?_
  rintro e w2 ⟨v0, v2, v4, rfl, ho0, ho2, ho4, hb⟩
  obtain ⟨B0, d0, rfl, hd0, hp0⟩ := Kd.R_reads ho0
  obtain ⟨B2, d2, rfl, hd2, hp2⟩ := Kd.R_reads ho2
  obtain ⟨B4, d4, rfl, hd4, hp4⟩ := Kd.R_reads ho4
  have hB2 : Below w.heap.size w w2 := below_then HB1.out (by omega) hb
  have hz2 : w.heap.size + 1 < w2.heap.size := by have := hb.size; omega
  have hy2 : w.heap.size < w2.heap.size := by omega
  obtain ⟨hc2, hf2⟩ := bcell hb
  have HB2 := Aside0.mk hB2
  have HO0 := Aside0.mk ho0
  have HO2 := Aside0.mk ho2
  have HO4 := Aside0.mk ho4
  have HP0 := Aside0.mk hp0
  have HP2 := Aside0.mk hp2
  have HP4 := Aside0.mk hp4
  clear hB2 hb ho0 ho2 ho4 hp0 hp2 hp4
  go_wp2_with fail
  refine (do_append_no w2.heap.size 0 _ _ _ _ 75 bb _ _ _ _ (blk_new w2 _) rfl (((below_alloc (Below.refl _ _) _).cell (p := ⟨bb, 0, none⟩) (by show bb < _; omega)).trans ((HB2.out.cell (p := ⟨bb, 0, none⟩) hlt).trans HBB.out)) (by omega) hbl hx).mono ?_
  rintro e w3 ⟨rfl, rfl⟩
  have hB3 := below_alloc (Below.refl w2.heap.size w2) (.cells #[.slice B0 l0_0.length d0, .int .i64 a0_1, .slice B2 l0_2.length d2, .int .i64 a0_3, .slice B4 l0_4.length d4, .int .i64 a0_5] 75)
  have hb3 := blk_new w2 (.cells #[.slice B0 l0_0.length d0, .int .i64 a0_1, .slice B2 l0_2.length d2, .int .i64 a0_3, .slice B4 l0_4.length d4, .int .i64 a0_5] 75)
  generalize (w2.alloc (.cells #[.slice B0 l0_0.length d0, .int .i64 a0_1, .slice B2 l0_2.length d2, .int .i64 a0_3, .slice B4 l0_4.length d4, .int .i64 a0_5] 75)) = w3 at *
  have hb : Below w2.heap.size w2 w3 := hB3
  have hB3' : Below w.heap.size w w3 := below_then HB2.out (by omega) hb
  have hz3 : w.heap.size + 1 < w3.heap.size := by have := hb.size; omega
  have hy3 : w.heap.size < w3.heap.size := by omega
  obtain ⟨hc3, hf3⟩ := bcell hb
  have k0 := blk_cell hb3 0
  have k1 := blk_cell hb3 1
  have k2 := blk_cell hb3 2
  have k3 := blk_cell hb3 3
  have k4 := blk_cell hb3 4
  have k5 := blk_cell hb3 5
  simp at k0 k1 k2 k3 k4 k5
  have HB3 := Aside0.mk hB3'
  have HO0' := Aside0.mk (Kd.R_below HO0.out hb)
  have HO2' := Aside0.mk (Kd.R_below HO2.out hb)
  have HO4' := Aside0.mk (Kd.R_below HO4.out hb)
  clear hB3 hb3 hb hB3' HO0 HO2 HO4
  go_wp2_with fail
  refine (drive_disk _ _ _ _ _ _ _ _ _ _ _ _ _).mono ?_
  rintro e w4 ⟨rfl, hb⟩
  have hB4 : Below w.heap.size w w4 := below_then HB3.out (by omega) hb
  have hz4 : w.heap.size + 1 < w4.heap.size := by have := hb.size; omega
  have hy4 : w.heap.size < w4.heap.size := by omega
  obtain ⟨hc4, hf4⟩ := bcell hb
  have HB4 := Aside0.mk hB4
  have HO0 := Aside0.mk (Kd.R_below HO0'.out hb)
  have HO2 := Aside0.mk (Kd.R_below HO2'.out hb)
  have HO4 := Aside0.mk (Kd.R_below HO4'.out hb)
  clear hB4 hb HO0' HO2' HO4' k0 k1 k2 k3 k4 k5
  go_wp2_with fail
  refine bodyPost_ret (v := .tuple #[.agg #[.slice B0 l0_0.length d0, .int .i64 a0_1, .slice B2 l0_2.length d2, .int .i64 a0_3, .slice B4 l0_4.length d4, .int .i64 a0_5], .int .i64 11]) ?_ rfl ?_
  · simp [results, Try.results83, go_sem, hc4, hc3, hc2, hc1, hy1, hz1, hy2, hz2, hy3, hz3, hy4, hz4]
  · refine ⟨_, _, _, rfl, ?_, ?_, ?_, ?_⟩
    · exact R_store6 HO0.out (fun k hk => hk) hz1 (by omega)
    · exact R_store6 HO2.out (fun k hk => hk) hz1 (by omega)
    · exact R_store6 HO4.out (fun k hk => hk) hz1 (by omega)
    · exact below_store6 HB4.out (by omega)

set_option maxHeartbeats 800000 in
set_option maxRecDepth 100000 in
theorem onFile_no_1 (A0_0 : Option Addr) (c0_0 : Nat) (l0_0 : List Int) (a0_1 : Int) (A0_2 : Option Addr) (c0_2 : Nat) (l0_2 : List Int) (a0_3 : Int) (A0_4 : Option Addr) (c0_4 : Nat) (l0_4 : List Int) (a0_5 : Int) (bb : Nat) (A2 : Option Addr) (c2 : Nat) (b : List Int) (w : World) (hr0_0 : Kd.C (Kd.int .u8) w A0_0 l0_0.length l0_0) (hc0_0 : l0_0.length ≤ c0_0) (hr0_2 : Kd.C (Kd.int .u8) w A0_2 l0_2.length l0_2) (hc0_2 : l0_2.length ≤ c0_2) (hr0_4 : Kd.C (Kd.int .u8) w A0_4 l0_4.length l0_4) (hc0_4 : l0_4.length ≤ c0_4) (hbb : w.cell? ⟨bb, 0, none⟩ = some (.slice A2 b.length c2)) (hlt : bb < w.heap.size) (hrb : Kd.C (Kd.int .u8) w A2 b.length b) (hcb : b.length ≤ c2) (hx : 200000 < l0_2.length + b.length) (hbl : b.length ≤ 140737488355328) (hv : okDisk l0_0 a0_1 l0_2 a0_3 l0_4 a0_5 = true) :
    Calls Try.prog 83 #[.agg #[.slice A0_0 l0_0.length c0_0, .int .i64 a0_1, .slice A0_2 l0_2.length c0_2, .int .i64 a0_3, .slice A0_4 l0_4.length c0_4, .int .i64 a0_5], .int .i64 1, .func (Fn.func 90) #[] #[.pointer (some ⟨bb, 0, none⟩)]] w fun e w' => ∃ v0_ v2_ v4_ : Value, e = .returned (.tuple #[.agg #[v0_, .int .i64 a0_1, v2_, .int .i64 a0_3, v4_, .int .i64 a0_5], .int .i64 11]) ∧ Kd.R (Kd.int .u8) 5 w' w.heap.size (fun k_ => some k_ ≠ (v2_ : Value).ownBlock ∧ some k_ ≠ (v4_ : Value).ownBlock) v0_ l0_0 ∧ Kd.R (Kd.int .u8) 5 w' w.heap.size (fun k_ => some k_ ≠ (v0_ : Value).ownBlock ∧ some k_ ≠ (v4_ : Value).ownBlock) v2_ l0_2 ∧ Kd.R (Kd.int .u8) 5 w' w.heap.size (fun k_ => some k_ ≠ (v0_ : Value).ownBlock ∧ some k_ ≠ (v2_ : Value).ownBlock) v4_ l0_4 ∧ Below w.heap.size w w' := by
  have HR0 := Aside0.mk hr0_0
  have HR2 := Aside0.mk hr0_2
  have HR4 := Aside0.mk hr0_4
  clear hr0_0 hr0_2 hr0_4
  have HBB := Aside0.mk hbb
  have HRB := Aside0.mk hrb
  clear hbb hrb
  obtain ⟨⟨x0, x1, x2⟩, ⟨y0, y1, y2⟩, ⟨z0, z1, z2⟩⟩ := okDisk_iff hv
  have HV := Aside0.mk hv
  clear hv
  go_enter Try.func83, Try.ntmps83
  go_wp2_with fail
  refine (validDisk_any _ _ _ _ _ _ _ _ _ _ _ _ _).mono ?_
  rintro e w1 ⟨rfl, hb⟩
  have hvv : (okFile l0_0.length a0_1 && (okFile l0_2.length a0_3 && okFile l0_4.length a0_5)) = true := HV.out
  rw [hvv]
  clear hvv
  have hB1 : Below w.heap.size w w1 := below_then (below_alloc (below_alloc (Below.refl _ _) _) _) (by simp; omega) hb
  have hz1 : w.heap.size + 1 < w1.heap.size := by have := hb.size; simp at this; omega
  have hy1 : w.heap.size < w1.heap.size := by omega
  obtain ⟨hc1, hf1⟩ := bcell hb
  have HB1 := Aside0.mk hB1
  clear hB1 hb
  go_wp2_with fail
  refine (driveOf_any A0_0 A0_2 A0_4 c0_0 c0_2 c0_4 l0_0 l0_2 l0_4 a0_1 a0_3 a0_5 w1 (Kd.C_below HR0.out HB1.out) hc0_0 (Kd.C_below HR2.out HB1.out) hc0_2 (Kd.C_below HR4.out HB1.out) hc0_4 x0 y0 z0).mono ?_
  rintro e w2 ⟨v0, v2, v4, rfl, ho0, ho2, ho4, hb⟩
  obtain ⟨B0, d0, rfl, hd0, hp0⟩ := Kd.R_reads ho0
  obtain ⟨B2, d2, rfl, hd2, hp2⟩ := Kd.R_reads ho2
  obtain ⟨B4, d4, rfl, hd4, hp4⟩ := Kd.R_reads ho4
  have hB2 : Below w.heap.size w w2 := below_then HB1.out (by omega) hb
  have hz2 : w.heap.size + 1 < w2.heap.size := by have := hb.size; omega
  have hy2 : w.heap.size < w2.heap.size := by omega
  obtain ⟨hc2, hf2⟩ := bcell hb
  have HB2 := Aside0.mk hB2
  have HO0 := Aside0.mk ho0
  have HO2 := Aside0.mk ho2
  have HO4 := Aside0.mk ho4
  have HP0 := Aside0.mk hp0
  have HP2 := Aside0.mk hp2
  have HP4 := Aside0.mk hp4
  clear hB2 hb ho0 ho2 ho4 hp0 hp2 hp4
  go_wp2_with fail
  refine (do_append_no w2.heap.size 2 _ _ _ _ 75 bb _ _ _ _ (blk_new w2 _) rfl (((below_alloc (Below.refl _ _) _).cell (p := ⟨bb, 0, none⟩) (by show bb < _; omega)).trans ((HB2.out.cell (p := ⟨bb, 0, none⟩) hlt).trans HBB.out)) (by omega) hbl hx).mono ?_
  rintro e w3 ⟨rfl, rfl⟩
  have hB3 := below_alloc (Below.refl w2.heap.size w2) (.cells #[.slice B0 l0_0.length d0, .int .i64 a0_1, .slice B2 l0_2.length d2, .int .i64 a0_3, .slice B4 l0_4.length d4, .int .i64 a0_5] 75)
  have hb3 := blk_new w2 (.cells #[.slice B0 l0_0.length d0, .int .i64 a0_1, .slice B2 l0_2.length d2, .int .i64 a0_3, .slice B4 l0_4.length d4, .int .i64 a0_5] 75)
  generalize (w2.alloc (.cells #[.slice B0 l0_0.length d0, .int .i64 a0_1, .slice B2 l0_2.length d2, .int .i64 a0_3, .slice B4 l0_4.length d4, .int .i64 a0_5] 75)) = w3 at *
  have hb : Below w2.heap.size w2 w3 := hB3
  have hB3' : Below w.heap.size w w3 := below_then HB2.out (by omega) hb
  have hz3 : w.heap.size + 1 < w3.heap.size := by have := hb.size; omega
  have hy3 : w.heap.size < w3.heap.size := by omega
  obtain ⟨hc3, hf3⟩ := bcell hb
  have k0 := blk_cell hb3 0
  have k1 := blk_cell hb3 1
  have k2 := blk_cell hb3 2
  have k3 := blk_cell hb3 3
  have k4 := blk_cell hb3 4
  have k5 := blk_cell hb3 5
  simp at k0 k1 k2 k3 k4 k5
  have HB3 := Aside0.mk hB3'
  have HO0' := Aside0.mk (Kd.R_below HO0.out hb)
  have HO2' := Aside0.mk (Kd.R_below HO2.out hb)
  have HO4' := Aside0.mk (Kd.R_below HO4.out hb)
  clear hB3 hb3 hb hB3' HO0 HO2 HO4
  go_wp2_with fail
  refine (drive_disk _ _ _ _ _ _ _ _ _ _ _ _ _).mono ?_
  rintro e w4 ⟨rfl, hb⟩
  have hB4 : Below w.heap.size w w4 := below_then HB3.out (by omega) hb
  have hz4 : w.heap.size + 1 < w4.heap.size := by have := hb.size; omega
  have hy4 : w.heap.size < w4.heap.size := by omega
  obtain ⟨hc4, hf4⟩ := bcell hb
  have HB4 := Aside0.mk hB4
  have HO0 := Aside0.mk (Kd.R_below HO0'.out hb)
  have HO2 := Aside0.mk (Kd.R_below HO2'.out hb)
  have HO4 := Aside0.mk (Kd.R_below HO4'.out hb)
  clear hB4 hb HO0' HO2' HO4' k0 k1 k2 k3 k4 k5
  go_wp2_with fail
  refine bodyPost_ret (v := .tuple #[.agg #[.slice B0 l0_0.length d0, .int .i64 a0_1, .slice B2 l0_2.length d2, .int .i64 a0_3, .slice B4 l0_4.length d4, .int .i64 a0_5], .int .i64 11]) ?_ rfl ?_
  · simp [results, Try.results83, go_sem, hc4, hc3, hc2, hc1, hy1, hz1, hy2, hz2, hy3, hz3, hy4, hz4]
  · refine ⟨_, _, _, rfl, ?_, ?_, ?_, ?_⟩
    · exact R_store6 HO0.out (fun k hk => hk) hz1 (by omega)
    · exact R_store6 HO2.out (fun k hk => hk) hz1 (by omega)
    · exact R_store6 HO4.out (fun k hk => hk) hz1 (by omega)
    · exact below_store6 HB4.out (by omega)

set_option maxHeartbeats 800000 in
set_option maxRecDepth 100000 in
theorem onFile_no_2 (A0_0 : Option Addr) (c0_0 : Nat) (l0_0 : List Int) (a0_1 : Int) (A0_2 : Option Addr) (c0_2 : Nat) (l0_2 : List Int) (a0_3 : Int) (A0_4 : Option Addr) (c0_4 : Nat) (l0_4 : List Int) (a0_5 : Int) (bb : Nat) (A2 : Option Addr) (c2 : Nat) (b : List Int) (w : World) (hr0_0 : Kd.C (Kd.int .u8) w A0_0 l0_0.length l0_0) (hc0_0 : l0_0.length ≤ c0_0) (hr0_2 : Kd.C (Kd.int .u8) w A0_2 l0_2.length l0_2) (hc0_2 : l0_2.length ≤ c0_2) (hr0_4 : Kd.C (Kd.int .u8) w A0_4 l0_4.length l0_4) (hc0_4 : l0_4.length ≤ c0_4) (hbb : w.cell? ⟨bb, 0, none⟩ = some (.slice A2 b.length c2)) (hlt : bb < w.heap.size) (hrb : Kd.C (Kd.int .u8) w A2 b.length b) (hcb : b.length ≤ c2) (hx : 200000 < l0_4.length + b.length) (hbl : b.length ≤ 140737488355328) (hv : okDisk l0_0 a0_1 l0_2 a0_3 l0_4 a0_5 = true) :
    Calls Try.prog 83 #[.agg #[.slice A0_0 l0_0.length c0_0, .int .i64 a0_1, .slice A0_2 l0_2.length c0_2, .int .i64 a0_3, .slice A0_4 l0_4.length c0_4, .int .i64 a0_5], .int .i64 2, .func (Fn.func 90) #[] #[.pointer (some ⟨bb, 0, none⟩)]] w fun e w' => ∃ v0_ v2_ v4_ : Value, e = .returned (.tuple #[.agg #[v0_, .int .i64 a0_1, v2_, .int .i64 a0_3, v4_, .int .i64 a0_5], .int .i64 11]) ∧ Kd.R (Kd.int .u8) 5 w' w.heap.size (fun k_ => some k_ ≠ (v2_ : Value).ownBlock ∧ some k_ ≠ (v4_ : Value).ownBlock) v0_ l0_0 ∧ Kd.R (Kd.int .u8) 5 w' w.heap.size (fun k_ => some k_ ≠ (v0_ : Value).ownBlock ∧ some k_ ≠ (v4_ : Value).ownBlock) v2_ l0_2 ∧ Kd.R (Kd.int .u8) 5 w' w.heap.size (fun k_ => some k_ ≠ (v0_ : Value).ownBlock ∧ some k_ ≠ (v2_ : Value).ownBlock) v4_ l0_4 ∧ Below w.heap.size w w' := by
  have HR0 := Aside0.mk hr0_0
  have HR2 := Aside0.mk hr0_2
  have HR4 := Aside0.mk hr0_4
  clear hr0_0 hr0_2 hr0_4
  have HBB := Aside0.mk hbb
  have HRB := Aside0.mk hrb
  clear hbb hrb
  obtain ⟨⟨x0, x1, x2⟩, ⟨y0, y1, y2⟩, ⟨z0, z1, z2⟩⟩ := okDisk_iff hv
  have HV := Aside0.mk hv
  clear hv
  go_enter Try.func83, Try.ntmps83
  go_wp2_with fail
  refine (validDisk_any _ _ _ _ _ _ _ _ _ _ _ _ _).mono ?_
  rintro e w1 ⟨rfl, hb⟩
  have hvv : (okFile l0_0.length a0_1 && (okFile l0_2.length a0_3 && okFile l0_4.length a0_5)) = true := HV.out
  rw [hvv]
  clear hvv
  have hB1 : Below w.heap.size w w1 := below_then (below_alloc (below_alloc (Below.refl _ _) _) _) (by simp; omega) hb
  have hz1 : w.heap.size + 1 < w1.heap.size := by have := hb.size; simp at this; omega
  have hy1 : w.heap.size < w1.heap.size := by omega
  obtain ⟨hc1, hf1⟩ := bcell hb
  have HB1 := Aside0.mk hB1
  clear hB1 hb
  go_wp2_with fail
  refine (driveOf_any A0_0 A0_2 A0_4 c0_0 c0_2 c0_4 l0_0 l0_2 l0_4 a0_1 a0_3 a0_5 w1 (Kd.C_below HR0.out HB1.out) hc0_0 (Kd.C_below HR2.out HB1.out) hc0_2 (Kd.C_below HR4.out HB1.out) hc0_4 x0 y0 z0).mono ?_
  rintro e w2 ⟨v0, v2, v4, rfl, ho0, ho2, ho4, hb⟩
  obtain ⟨B0, d0, rfl, hd0, hp0⟩ := Kd.R_reads ho0
  obtain ⟨B2, d2, rfl, hd2, hp2⟩ := Kd.R_reads ho2
  obtain ⟨B4, d4, rfl, hd4, hp4⟩ := Kd.R_reads ho4
  have hB2 : Below w.heap.size w w2 := below_then HB1.out (by omega) hb
  have hz2 : w.heap.size + 1 < w2.heap.size := by have := hb.size; omega
  have hy2 : w.heap.size < w2.heap.size := by omega
  obtain ⟨hc2, hf2⟩ := bcell hb
  have HB2 := Aside0.mk hB2
  have HO0 := Aside0.mk ho0
  have HO2 := Aside0.mk ho2
  have HO4 := Aside0.mk ho4
  have HP0 := Aside0.mk hp0
  have HP2 := Aside0.mk hp2
  have HP4 := Aside0.mk hp4
  clear hB2 hb ho0 ho2 ho4 hp0 hp2 hp4
  go_wp2_with fail
  refine (do_append_no w2.heap.size 4 _ _ _ _ 75 bb _ _ _ _ (blk_new w2 _) rfl (((below_alloc (Below.refl _ _) _).cell (p := ⟨bb, 0, none⟩) (by show bb < _; omega)).trans ((HB2.out.cell (p := ⟨bb, 0, none⟩) hlt).trans HBB.out)) (by omega) hbl hx).mono ?_
  rintro e w3 ⟨rfl, rfl⟩
  have hB3 := below_alloc (Below.refl w2.heap.size w2) (.cells #[.slice B0 l0_0.length d0, .int .i64 a0_1, .slice B2 l0_2.length d2, .int .i64 a0_3, .slice B4 l0_4.length d4, .int .i64 a0_5] 75)
  have hb3 := blk_new w2 (.cells #[.slice B0 l0_0.length d0, .int .i64 a0_1, .slice B2 l0_2.length d2, .int .i64 a0_3, .slice B4 l0_4.length d4, .int .i64 a0_5] 75)
  generalize (w2.alloc (.cells #[.slice B0 l0_0.length d0, .int .i64 a0_1, .slice B2 l0_2.length d2, .int .i64 a0_3, .slice B4 l0_4.length d4, .int .i64 a0_5] 75)) = w3 at *
  have hb : Below w2.heap.size w2 w3 := hB3
  have hB3' : Below w.heap.size w w3 := below_then HB2.out (by omega) hb
  have hz3 : w.heap.size + 1 < w3.heap.size := by have := hb.size; omega
  have hy3 : w.heap.size < w3.heap.size := by omega
  obtain ⟨hc3, hf3⟩ := bcell hb
  have k0 := blk_cell hb3 0
  have k1 := blk_cell hb3 1
  have k2 := blk_cell hb3 2
  have k3 := blk_cell hb3 3
  have k4 := blk_cell hb3 4
  have k5 := blk_cell hb3 5
  simp at k0 k1 k2 k3 k4 k5
  have HB3 := Aside0.mk hB3'
  have HO0' := Aside0.mk (Kd.R_below HO0.out hb)
  have HO2' := Aside0.mk (Kd.R_below HO2.out hb)
  have HO4' := Aside0.mk (Kd.R_below HO4.out hb)
  clear hB3 hb3 hb hB3' HO0 HO2 HO4
  go_wp2_with fail
  refine (drive_disk _ _ _ _ _ _ _ _ _ _ _ _ _).mono ?_
  rintro e w4 ⟨rfl, hb⟩
  have hB4 : Below w.heap.size w w4 := below_then HB3.out (by omega) hb
  have hz4 : w.heap.size + 1 < w4.heap.size := by have := hb.size; omega
  have hy4 : w.heap.size < w4.heap.size := by omega
  obtain ⟨hc4, hf4⟩ := bcell hb
  have HB4 := Aside0.mk hB4
  have HO0 := Aside0.mk (Kd.R_below HO0'.out hb)
  have HO2 := Aside0.mk (Kd.R_below HO2'.out hb)
  have HO4 := Aside0.mk (Kd.R_below HO4'.out hb)
  clear hB4 hb HO0' HO2' HO4' k0 k1 k2 k3 k4 k5
  go_wp2_with fail
  refine bodyPost_ret (v := .tuple #[.agg #[.slice B0 l0_0.length d0, .int .i64 a0_1, .slice B2 l0_2.length d2, .int .i64 a0_3, .slice B4 l0_4.length d4, .int .i64 a0_5], .int .i64 11]) ?_ rfl ?_
  · simp [results, Try.results83, go_sem, hc4, hc3, hc2, hc1, hy1, hz1, hy2, hz2, hy3, hz3, hy4, hz4]
  · refine ⟨_, _, _, rfl, ?_, ?_, ?_, ?_⟩
    · exact R_store6 HO0.out (fun k hk => hk) hz1 (by omega)
    · exact R_store6 HO2.out (fun k hk => hk) hz1 (by omega)
    · exact R_store6 HO4.out (fun k hk => hk) hz1 (by omega)
    · exact below_store6 HB4.out (by omega)

set_option maxHeartbeats 800000 in
set_option maxRecDepth 100000 in
theorem onFile_yes_0 (A0_0 : Option Addr) (c0_0 : Nat) (l0_0 : List Int) (a0_1 : Int) (A0_2 : Option Addr) (c0_2 : Nat) (l0_2 : List Int) (a0_3 : Int) (A0_4 : Option Addr) (c0_4 : Nat) (l0_4 : List Int) (a0_5 : Int) (bb : Nat) (A2 : Option Addr) (c2 : Nat) (b : List Int) (w : World) (hr0_0 : Kd.C (Kd.int .u8) w A0_0 l0_0.length l0_0) (hc0_0 : l0_0.length ≤ c0_0) (hr0_2 : Kd.C (Kd.int .u8) w A0_2 l0_2.length l0_2) (hc0_2 : l0_2.length ≤ c0_2) (hr0_4 : Kd.C (Kd.int .u8) w A0_4 l0_4.length l0_4) (hc0_4 : l0_4.length ≤ c0_4) (hbb : w.cell? ⟨bb, 0, none⟩ = some (.slice A2 b.length c2)) (hlt : bb < w.heap.size) (hrb : Kd.C (Kd.int .u8) w A2 b.length b) (hcb : b.length ≤ c2) (hx : l0_0.length + b.length ≤ 200000) (hv : okDisk l0_0 a0_1 l0_2 a0_3 l0_4 a0_5 = true) :
    Calls Try.prog 83 #[.agg #[.slice A0_0 l0_0.length c0_0, .int .i64 a0_1, .slice A0_2 l0_2.length c0_2, .int .i64 a0_3, .slice A0_4 l0_4.length c0_4, .int .i64 a0_5], .int .i64 0, .func (Fn.func 90) #[] #[.pointer (some ⟨bb, 0, none⟩)]] w fun e w' => ∃ v0_ v2_ v4_ : Value, e = .returned (.tuple #[.agg #[v0_, .int .i64 a0_1, v2_, .int .i64 a0_3, v4_, .int .i64 a0_5], .int .i64 0]) ∧ Kd.R (Kd.int .u8) 5 w' w.heap.size (fun k_ => some k_ ≠ (v2_ : Value).ownBlock ∧ some k_ ≠ (v4_ : Value).ownBlock) v0_ (l0_0 ++ b) ∧ Kd.R (Kd.int .u8) 5 w' w.heap.size (fun k_ => some k_ ≠ (v0_ : Value).ownBlock ∧ some k_ ≠ (v4_ : Value).ownBlock) v2_ l0_2 ∧ Kd.R (Kd.int .u8) 5 w' w.heap.size (fun k_ => some k_ ≠ (v0_ : Value).ownBlock ∧ some k_ ≠ (v2_ : Value).ownBlock) v4_ l0_4 ∧ Below w.heap.size w w' := by
  have HR0 := Aside0.mk hr0_0
  have HR2 := Aside0.mk hr0_2
  have HR4 := Aside0.mk hr0_4
  clear hr0_0 hr0_2 hr0_4
  have HBB := Aside0.mk hbb
  have HRB := Aside0.mk hrb
  clear hbb hrb
  obtain ⟨⟨x0, x1, x2⟩, ⟨y0, y1, y2⟩, ⟨z0, z1, z2⟩⟩ := okDisk_iff hv
  have HV := Aside0.mk hv
  clear hv
  go_enter Try.func83, Try.ntmps83
  go_wp2_with fail
  refine (validDisk_any _ _ _ _ _ _ _ _ _ _ _ _ _).mono ?_
  rintro e w1 ⟨rfl, hb⟩
  have hvv : (okFile l0_0.length a0_1 && (okFile l0_2.length a0_3 && okFile l0_4.length a0_5)) = true := HV.out
  rw [hvv]
  clear hvv
  have hB1 : Below w.heap.size w w1 := below_then (below_alloc (below_alloc (Below.refl _ _) _) _) (by simp; omega) hb
  have hz1 : w.heap.size + 1 < w1.heap.size := by have := hb.size; simp at this; omega
  have hy1 : w.heap.size < w1.heap.size := by omega
  obtain ⟨hc1, hf1⟩ := bcell hb
  have HB1 := Aside0.mk hB1
  clear hB1 hb
  go_wp2_with fail
  refine (driveOf_any A0_0 A0_2 A0_4 c0_0 c0_2 c0_4 l0_0 l0_2 l0_4 a0_1 a0_3 a0_5 w1 (Kd.C_below HR0.out HB1.out) hc0_0 (Kd.C_below HR2.out HB1.out) hc0_2 (Kd.C_below HR4.out HB1.out) hc0_4 x0 y0 z0).mono ?_
  rintro e w2 ⟨v0, v2, v4, rfl, ho0, ho2, ho4, hb⟩
  obtain ⟨B0, d0, rfl, hd0, hp0⟩ := Kd.R_reads ho0
  obtain ⟨B2, d2, rfl, hd2, hp2⟩ := Kd.R_reads ho2
  obtain ⟨B4, d4, rfl, hd4, hp4⟩ := Kd.R_reads ho4
  have hB2 : Below w.heap.size w w2 := below_then HB1.out (by omega) hb
  have hz2 : w.heap.size + 1 < w2.heap.size := by have := hb.size; omega
  have hy2 : w.heap.size < w2.heap.size := by omega
  obtain ⟨hc2, hf2⟩ := bcell hb
  have HB2 := Aside0.mk hB2
  have HO0 := Aside0.mk ho0
  have HO2 := Aside0.mk ho2
  have HO4 := Aside0.mk ho4
  have HP0 := Aside0.mk hp0
  have HP2 := Aside0.mk hp2
  have HP4 := Aside0.mk hp4
  clear hB2 hb ho0 ho2 ho4 hp0 hp2 hp4
  go_wp2_with fail
  refine (do_append_yes w2.heap.size 0 _ _ 75 bb _ _ l0_0 b _ _ (blk_new w2 _) rfl (((below_alloc (Below.refl _ _) _).cell (p := ⟨bb, 0, none⟩) (by show bb < _; omega)).trans ((HB2.out.cell (p := ⟨bb, 0, none⟩) hlt).trans HBB.out)) (Kd.C_alloc HP0.out _) hd0 (Kd.C_alloc (Kd.C_below HRB.out HB2.out) _) hcb hx).mono ?_
  rintro e w3 ⟨rfl, hB3, v9, hb3, ho9⟩
  obtain ⟨B9, d9, rfl, hd9, _⟩ := Kd.R_reads ho9
  have HO9 := Aside0.mk ho9
  clear ho9
  have hb : Below w2.heap.size w2 w3 := (below_alloc (Below.refl _ _) _).trans hB3
  have hB3' : Below w.heap.size w w3 := below_then HB2.out (by omega) hb
  have hz3 : w.heap.size + 1 < w3.heap.size := by have := hb.size; omega
  have hy3 : w.heap.size < w3.heap.size := by omega
  obtain ⟨hc3, hf3⟩ := bcell hb
  have k0 := blk_cell hb3 0
  have k1 := blk_cell hb3 1
  have k2 := blk_cell hb3 2
  have k3 := blk_cell hb3 3
  have k4 := blk_cell hb3 4
  have k5 := blk_cell hb3 5
  simp at k0 k1 k2 k3 k4 k5
  have HB3 := Aside0.mk hB3'
  have HO0' := Aside0.mk (Kd.R_below (Kd.R_bound HO0.out) hb)
  have HO2' := Aside0.mk (Kd.R_below (Kd.R_bound HO2.out) hb)
  have HO4' := Aside0.mk (Kd.R_below (Kd.R_bound HO4.out) hb)
  have lt0 := Kd.R_lt HO0.out
  have lt2 := Kd.R_lt HO2.out
  have lt4 := Kd.R_lt HO4.out
  clear hB3 hb3 hb hB3' HO0 HO2 HO4
  go_wp2_with fail
  refine (drive_disk _ _ _ _ _ _ _ _ _ _ _ _ _).mono ?_
  rintro e w4 ⟨rfl, hb⟩
  have hB4 : Below w.heap.size w w4 := below_then HB3.out (by omega) hb
  have hz4 : w.heap.size + 1 < w4.heap.size := by have := hb.size; omega
  have hy4 : w.heap.size < w4.heap.size := by omega
  obtain ⟨hc4, hf4⟩ := bcell hb
  have HB4 := Aside0.mk hB4
  have HO0 := Aside0.mk (Kd.R_below HO0'.out hb)
  have HO2 := Aside0.mk (Kd.R_below HO2'.out hb)
  have HO4 := Aside0.mk (Kd.R_below HO4'.out hb)
  have HO9' := Aside0.mk (Kd.R_below HO9.out hb)
  clear hB4 hb HO0' HO2' HO4' k0 k1 k2 k3 k4 k5
  go_wp2_with fail
  refine bodyPost_ret (v := .tuple #[.agg #[.slice B9 (l0_0 ++ b).length d9, .int .i64 a0_1, .slice B2 l0_2.length d2, .int .i64 a0_3, .slice B4 l0_4.length d4, .int .i64 a0_5], .int .i64 0]) ?_ rfl ?_
  · simp [results, Try.results83, go_sem, hc4, hc3, hc2, hc1, hy1, hz1, hy2, hz2, hy3, hz3, hy4, hz4]
  · have base9 : ∀ k, (Value.slice B9 (l0_0 ++ b).length d9).ownBlock = some k → ¬ k < w2.heap.size := fun k h => by have := Kd.R_base HO9'.out k h; simp at this; omega
    refine ⟨_, _, _, rfl, ?_, ?_, ?_, ?_⟩
    · exact R_store6 (Kd.R_bound HO9'.out) (fun k hk => ⟨(fun e => by have z := hk.2.1; simp at z; have := lt2 k e.symm; omega), (fun e => by have z := hk.2.1; simp at z; have := lt4 k e.symm; omega)⟩) (by simp; omega) (by simp; omega)
    · exact R_store6 HO2.out (fun k hk => ⟨(fun e => base9 k e.symm hk.2.2.1), hk.1.2⟩) hz1 (by omega)
    · exact R_store6 HO4.out (fun k hk => ⟨(fun e => base9 k e.symm hk.2.2.1), hk.1.2⟩) hz1 (by omega)
    · exact below_store6 HB4.out (by omega)

set_option maxHeartbeats 800000 in
set_option maxRecDepth 100000 in
theorem onFile_yes_1 (A0_0 : Option Addr) (c0_0 : Nat) (l0_0 : List Int) (a0_1 : Int) (A0_2 : Option Addr) (c0_2 : Nat) (l0_2 : List Int) (a0_3 : Int) (A0_4 : Option Addr) (c0_4 : Nat) (l0_4 : List Int) (a0_5 : Int) (bb : Nat) (A2 : Option Addr) (c2 : Nat) (b : List Int) (w : World) (hr0_0 : Kd.C (Kd.int .u8) w A0_0 l0_0.length l0_0) (hc0_0 : l0_0.length ≤ c0_0) (hr0_2 : Kd.C (Kd.int .u8) w A0_2 l0_2.length l0_2) (hc0_2 : l0_2.length ≤ c0_2) (hr0_4 : Kd.C (Kd.int .u8) w A0_4 l0_4.length l0_4) (hc0_4 : l0_4.length ≤ c0_4) (hbb : w.cell? ⟨bb, 0, none⟩ = some (.slice A2 b.length c2)) (hlt : bb < w.heap.size) (hrb : Kd.C (Kd.int .u8) w A2 b.length b) (hcb : b.length ≤ c2) (hx : l0_2.length + b.length ≤ 200000) (hv : okDisk l0_0 a0_1 l0_2 a0_3 l0_4 a0_5 = true) :
    Calls Try.prog 83 #[.agg #[.slice A0_0 l0_0.length c0_0, .int .i64 a0_1, .slice A0_2 l0_2.length c0_2, .int .i64 a0_3, .slice A0_4 l0_4.length c0_4, .int .i64 a0_5], .int .i64 1, .func (Fn.func 90) #[] #[.pointer (some ⟨bb, 0, none⟩)]] w fun e w' => ∃ v0_ v2_ v4_ : Value, e = .returned (.tuple #[.agg #[v0_, .int .i64 a0_1, v2_, .int .i64 a0_3, v4_, .int .i64 a0_5], .int .i64 0]) ∧ Kd.R (Kd.int .u8) 5 w' w.heap.size (fun k_ => some k_ ≠ (v2_ : Value).ownBlock ∧ some k_ ≠ (v4_ : Value).ownBlock) v0_ l0_0 ∧ Kd.R (Kd.int .u8) 5 w' w.heap.size (fun k_ => some k_ ≠ (v0_ : Value).ownBlock ∧ some k_ ≠ (v4_ : Value).ownBlock) v2_ (l0_2 ++ b) ∧ Kd.R (Kd.int .u8) 5 w' w.heap.size (fun k_ => some k_ ≠ (v0_ : Value).ownBlock ∧ some k_ ≠ (v2_ : Value).ownBlock) v4_ l0_4 ∧ Below w.heap.size w w' := by
  have HR0 := Aside0.mk hr0_0
  have HR2 := Aside0.mk hr0_2
  have HR4 := Aside0.mk hr0_4
  clear hr0_0 hr0_2 hr0_4
  have HBB := Aside0.mk hbb
  have HRB := Aside0.mk hrb
  clear hbb hrb
  obtain ⟨⟨x0, x1, x2⟩, ⟨y0, y1, y2⟩, ⟨z0, z1, z2⟩⟩ := okDisk_iff hv
  have HV := Aside0.mk hv
  clear hv
  go_enter Try.func83, Try.ntmps83
  go_wp2_with fail
  refine (validDisk_any _ _ _ _ _ _ _ _ _ _ _ _ _).mono ?_
  rintro e w1 ⟨rfl, hb⟩
  have hvv : (okFile l0_0.length a0_1 && (okFile l0_2.length a0_3 && okFile l0_4.length a0_5)) = true := HV.out
  rw [hvv]
  clear hvv
  have hB1 : Below w.heap.size w w1 := below_then (below_alloc (below_alloc (Below.refl _ _) _) _) (by simp; omega) hb
  have hz1 : w.heap.size + 1 < w1.heap.size := by have := hb.size; simp at this; omega
  have hy1 : w.heap.size < w1.heap.size := by omega
  obtain ⟨hc1, hf1⟩ := bcell hb
  have HB1 := Aside0.mk hB1
  clear hB1 hb
  go_wp2_with fail
  refine (driveOf_any A0_0 A0_2 A0_4 c0_0 c0_2 c0_4 l0_0 l0_2 l0_4 a0_1 a0_3 a0_5 w1 (Kd.C_below HR0.out HB1.out) hc0_0 (Kd.C_below HR2.out HB1.out) hc0_2 (Kd.C_below HR4.out HB1.out) hc0_4 x0 y0 z0).mono ?_
  rintro e w2 ⟨v0, v2, v4, rfl, ho0, ho2, ho4, hb⟩
  obtain ⟨B0, d0, rfl, hd0, hp0⟩ := Kd.R_reads ho0
  obtain ⟨B2, d2, rfl, hd2, hp2⟩ := Kd.R_reads ho2
  obtain ⟨B4, d4, rfl, hd4, hp4⟩ := Kd.R_reads ho4
  have hB2 : Below w.heap.size w w2 := below_then HB1.out (by omega) hb
  have hz2 : w.heap.size + 1 < w2.heap.size := by have := hb.size; omega
  have hy2 : w.heap.size < w2.heap.size := by omega
  obtain ⟨hc2, hf2⟩ := bcell hb
  have HB2 := Aside0.mk hB2
  have HO0 := Aside0.mk ho0
  have HO2 := Aside0.mk ho2
  have HO4 := Aside0.mk ho4
  have HP0 := Aside0.mk hp0
  have HP2 := Aside0.mk hp2
  have HP4 := Aside0.mk hp4
  clear hB2 hb ho0 ho2 ho4 hp0 hp2 hp4
  go_wp2_with fail
  refine (do_append_yes w2.heap.size 2 _ _ 75 bb _ _ l0_2 b _ _ (blk_new w2 _) rfl (((below_alloc (Below.refl _ _) _).cell (p := ⟨bb, 0, none⟩) (by show bb < _; omega)).trans ((HB2.out.cell (p := ⟨bb, 0, none⟩) hlt).trans HBB.out)) (Kd.C_alloc HP2.out _) hd2 (Kd.C_alloc (Kd.C_below HRB.out HB2.out) _) hcb hx).mono ?_
  rintro e w3 ⟨rfl, hB3, v9, hb3, ho9⟩
  obtain ⟨B9, d9, rfl, hd9, _⟩ := Kd.R_reads ho9
  have HO9 := Aside0.mk ho9
  clear ho9
  have hb : Below w2.heap.size w2 w3 := (below_alloc (Below.refl _ _) _).trans hB3
  have hB3' : Below w.heap.size w w3 := below_then HB2.out (by omega) hb
  have hz3 : w.heap.size + 1 < w3.heap.size := by have := hb.size; omega
  have hy3 : w.heap.size < w3.heap.size := by omega
  obtain ⟨hc3, hf3⟩ := bcell hb
  have k0 := blk_cell hb3 0
  have k1 := blk_cell hb3 1
  have k2 := blk_cell hb3 2
  have k3 := blk_cell hb3 3
  have k4 := blk_cell hb3 4
  have k5 := blk_cell hb3 5
  simp at k0 k1 k2 k3 k4 k5
  have HB3 := Aside0.mk hB3'
  have HO0' := Aside0.mk (Kd.R_below (Kd.R_bound HO0.out) hb)
  have HO2' := Aside0.mk (Kd.R_below (Kd.R_bound HO2.out) hb)
  have HO4' := Aside0.mk (Kd.R_below (Kd.R_bound HO4.out) hb)
  have lt0 := Kd.R_lt HO0.out
  have lt2 := Kd.R_lt HO2.out
  have lt4 := Kd.R_lt HO4.out
  clear hB3 hb3 hb hB3' HO0 HO2 HO4
  go_wp2_with fail
  refine (drive_disk _ _ _ _ _ _ _ _ _ _ _ _ _).mono ?_
  rintro e w4 ⟨rfl, hb⟩
  have hB4 : Below w.heap.size w w4 := below_then HB3.out (by omega) hb
  have hz4 : w.heap.size + 1 < w4.heap.size := by have := hb.size; omega
  have hy4 : w.heap.size < w4.heap.size := by omega
  obtain ⟨hc4, hf4⟩ := bcell hb
  have HB4 := Aside0.mk hB4
  have HO0 := Aside0.mk (Kd.R_below HO0'.out hb)
  have HO2 := Aside0.mk (Kd.R_below HO2'.out hb)
  have HO4 := Aside0.mk (Kd.R_below HO4'.out hb)
  have HO9' := Aside0.mk (Kd.R_below HO9.out hb)
  clear hB4 hb HO0' HO2' HO4' k0 k1 k2 k3 k4 k5
  go_wp2_with fail
  refine bodyPost_ret (v := .tuple #[.agg #[.slice B0 l0_0.length d0, .int .i64 a0_1, .slice B9 (l0_2 ++ b).length d9, .int .i64 a0_3, .slice B4 l0_4.length d4, .int .i64 a0_5], .int .i64 0]) ?_ rfl ?_
  · simp [results, Try.results83, go_sem, hc4, hc3, hc2, hc1, hy1, hz1, hy2, hz2, hy3, hz3, hy4, hz4]
  · have base9 : ∀ k, (Value.slice B9 (l0_2 ++ b).length d9).ownBlock = some k → ¬ k < w2.heap.size := fun k h => by have := Kd.R_base HO9'.out k h; simp at this; omega
    refine ⟨_, _, _, rfl, ?_, ?_, ?_, ?_⟩
    · exact R_store6 HO0.out (fun k hk => ⟨(fun e => base9 k e.symm hk.2.2.1), hk.1.2⟩) hz1 (by omega)
    · exact R_store6 (Kd.R_bound HO9'.out) (fun k hk => ⟨(fun e => by have z := hk.2.1; simp at z; have := lt0 k e.symm; omega), (fun e => by have z := hk.2.1; simp at z; have := lt4 k e.symm; omega)⟩) (by simp; omega) (by simp; omega)
    · exact R_store6 HO4.out (fun k hk => ⟨hk.1.1, (fun e => base9 k e.symm hk.2.2.1)⟩) hz1 (by omega)
    · exact below_store6 HB4.out (by omega)

set_option maxHeartbeats 800000 in
set_option maxRecDepth 100000 in
theorem onFile_yes_2 (A0_0 : Option Addr) (c0_0 : Nat) (l0_0 : List Int) (a0_1 : Int) (A0_2 : Option Addr) (c0_2 : Nat) (l0_2 : List Int) (a0_3 : Int) (A0_4 : Option Addr) (c0_4 : Nat) (l0_4 : List Int) (a0_5 : Int) (bb : Nat) (A2 : Option Addr) (c2 : Nat) (b : List Int) (w : World) (hr0_0 : Kd.C (Kd.int .u8) w A0_0 l0_0.length l0_0) (hc0_0 : l0_0.length ≤ c0_0) (hr0_2 : Kd.C (Kd.int .u8) w A0_2 l0_2.length l0_2) (hc0_2 : l0_2.length ≤ c0_2) (hr0_4 : Kd.C (Kd.int .u8) w A0_4 l0_4.length l0_4) (hc0_4 : l0_4.length ≤ c0_4) (hbb : w.cell? ⟨bb, 0, none⟩ = some (.slice A2 b.length c2)) (hlt : bb < w.heap.size) (hrb : Kd.C (Kd.int .u8) w A2 b.length b) (hcb : b.length ≤ c2) (hx : l0_4.length + b.length ≤ 200000) (hv : okDisk l0_0 a0_1 l0_2 a0_3 l0_4 a0_5 = true) :
    Calls Try.prog 83 #[.agg #[.slice A0_0 l0_0.length c0_0, .int .i64 a0_1, .slice A0_2 l0_2.length c0_2, .int .i64 a0_3, .slice A0_4 l0_4.length c0_4, .int .i64 a0_5], .int .i64 2, .func (Fn.func 90) #[] #[.pointer (some ⟨bb, 0, none⟩)]] w fun e w' => ∃ v0_ v2_ v4_ : Value, e = .returned (.tuple #[.agg #[v0_, .int .i64 a0_1, v2_, .int .i64 a0_3, v4_, .int .i64 a0_5], .int .i64 0]) ∧ Kd.R (Kd.int .u8) 5 w' w.heap.size (fun k_ => some k_ ≠ (v2_ : Value).ownBlock ∧ some k_ ≠ (v4_ : Value).ownBlock) v0_ l0_0 ∧ Kd.R (Kd.int .u8) 5 w' w.heap.size (fun k_ => some k_ ≠ (v0_ : Value).ownBlock ∧ some k_ ≠ (v4_ : Value).ownBlock) v2_ l0_2 ∧ Kd.R (Kd.int .u8) 5 w' w.heap.size (fun k_ => some k_ ≠ (v0_ : Value).ownBlock ∧ some k_ ≠ (v2_ : Value).ownBlock) v4_ (l0_4 ++ b) ∧ Below w.heap.size w w' := by
  have HR0 := Aside0.mk hr0_0
  have HR2 := Aside0.mk hr0_2
  have HR4 := Aside0.mk hr0_4
  clear hr0_0 hr0_2 hr0_4
  have HBB := Aside0.mk hbb
  have HRB := Aside0.mk hrb
  clear hbb hrb
  obtain ⟨⟨x0, x1, x2⟩, ⟨y0, y1, y2⟩, ⟨z0, z1, z2⟩⟩ := okDisk_iff hv
  have HV := Aside0.mk hv
  clear hv
  go_enter Try.func83, Try.ntmps83
  go_wp2_with fail
  refine (validDisk_any _ _ _ _ _ _ _ _ _ _ _ _ _).mono ?_
  rintro e w1 ⟨rfl, hb⟩
  have hvv : (okFile l0_0.length a0_1 && (okFile l0_2.length a0_3 && okFile l0_4.length a0_5)) = true := HV.out
  rw [hvv]
  clear hvv
  have hB1 : Below w.heap.size w w1 := below_then (below_alloc (below_alloc (Below.refl _ _) _) _) (by simp; omega) hb
  have hz1 : w.heap.size + 1 < w1.heap.size := by have := hb.size; simp at this; omega
  have hy1 : w.heap.size < w1.heap.size := by omega
  obtain ⟨hc1, hf1⟩ := bcell hb
  have HB1 := Aside0.mk hB1
  clear hB1 hb
  go_wp2_with fail
  refine (driveOf_any A0_0 A0_2 A0_4 c0_0 c0_2 c0_4 l0_0 l0_2 l0_4 a0_1 a0_3 a0_5 w1 (Kd.C_below HR0.out HB1.out) hc0_0 (Kd.C_below HR2.out HB1.out) hc0_2 (Kd.C_below HR4.out HB1.out) hc0_4 x0 y0 z0).mono ?_
  rintro e w2 ⟨v0, v2, v4, rfl, ho0, ho2, ho4, hb⟩
  obtain ⟨B0, d0, rfl, hd0, hp0⟩ := Kd.R_reads ho0
  obtain ⟨B2, d2, rfl, hd2, hp2⟩ := Kd.R_reads ho2
  obtain ⟨B4, d4, rfl, hd4, hp4⟩ := Kd.R_reads ho4
  have hB2 : Below w.heap.size w w2 := below_then HB1.out (by omega) hb
  have hz2 : w.heap.size + 1 < w2.heap.size := by have := hb.size; omega
  have hy2 : w.heap.size < w2.heap.size := by omega
  obtain ⟨hc2, hf2⟩ := bcell hb
  have HB2 := Aside0.mk hB2
  have HO0 := Aside0.mk ho0
  have HO2 := Aside0.mk ho2
  have HO4 := Aside0.mk ho4
  have HP0 := Aside0.mk hp0
  have HP2 := Aside0.mk hp2
  have HP4 := Aside0.mk hp4
  clear hB2 hb ho0 ho2 ho4 hp0 hp2 hp4
  go_wp2_with fail
  refine (do_append_yes w2.heap.size 4 _ _ 75 bb _ _ l0_4 b _ _ (blk_new w2 _) rfl (((below_alloc (Below.refl _ _) _).cell (p := ⟨bb, 0, none⟩) (by show bb < _; omega)).trans ((HB2.out.cell (p := ⟨bb, 0, none⟩) hlt).trans HBB.out)) (Kd.C_alloc HP4.out _) hd4 (Kd.C_alloc (Kd.C_below HRB.out HB2.out) _) hcb hx).mono ?_
  rintro e w3 ⟨rfl, hB3, v9, hb3, ho9⟩
  obtain ⟨B9, d9, rfl, hd9, _⟩ := Kd.R_reads ho9
  have HO9 := Aside0.mk ho9
  clear ho9
  have hb : Below w2.heap.size w2 w3 := (below_alloc (Below.refl _ _) _).trans hB3
  have hB3' : Below w.heap.size w w3 := below_then HB2.out (by omega) hb
  have hz3 : w.heap.size + 1 < w3.heap.size := by have := hb.size; omega
  have hy3 : w.heap.size < w3.heap.size := by omega
  obtain ⟨hc3, hf3⟩ := bcell hb
  have k0 := blk_cell hb3 0
  have k1 := blk_cell hb3 1
  have k2 := blk_cell hb3 2
  have k3 := blk_cell hb3 3
  have k4 := blk_cell hb3 4
  have k5 := blk_cell hb3 5
  simp at k0 k1 k2 k3 k4 k5
  have HB3 := Aside0.mk hB3'
  have HO0' := Aside0.mk (Kd.R_below (Kd.R_bound HO0.out) hb)
  have HO2' := Aside0.mk (Kd.R_below (Kd.R_bound HO2.out) hb)
  have HO4' := Aside0.mk (Kd.R_below (Kd.R_bound HO4.out) hb)
  have lt0 := Kd.R_lt HO0.out
  have lt2 := Kd.R_lt HO2.out
  have lt4 := Kd.R_lt HO4.out
  clear hB3 hb3 hb hB3' HO0 HO2 HO4
  go_wp2_with fail
  refine (drive_disk _ _ _ _ _ _ _ _ _ _ _ _ _).mono ?_
  rintro e w4 ⟨rfl, hb⟩
  have hB4 : Below w.heap.size w w4 := below_then HB3.out (by omega) hb
  have hz4 : w.heap.size + 1 < w4.heap.size := by have := hb.size; omega
  have hy4 : w.heap.size < w4.heap.size := by omega
  obtain ⟨hc4, hf4⟩ := bcell hb
  have HB4 := Aside0.mk hB4
  have HO0 := Aside0.mk (Kd.R_below HO0'.out hb)
  have HO2 := Aside0.mk (Kd.R_below HO2'.out hb)
  have HO4 := Aside0.mk (Kd.R_below HO4'.out hb)
  have HO9' := Aside0.mk (Kd.R_below HO9.out hb)
  clear hB4 hb HO0' HO2' HO4' k0 k1 k2 k3 k4 k5
  go_wp2_with fail
  refine bodyPost_ret (v := .tuple #[.agg #[.slice B0 l0_0.length d0, .int .i64 a0_1, .slice B2 l0_2.length d2, .int .i64 a0_3, .slice B9 (l0_4 ++ b).length d9, .int .i64 a0_5], .int .i64 0]) ?_ rfl ?_
  · simp [results, Try.results83, go_sem, hc4, hc3, hc2, hc1, hy1, hz1, hy2, hz2, hy3, hz3, hy4, hz4]
  · have base9 : ∀ k, (Value.slice B9 (l0_4 ++ b).length d9).ownBlock = some k → ¬ k < w2.heap.size := fun k h => by have := Kd.R_base HO9'.out k h; simp at this; omega
    refine ⟨_, _, _, rfl, ?_, ?_, ?_, ?_⟩
    · exact R_store6 HO0.out (fun k hk => ⟨hk.1.1, (fun e => base9 k e.symm hk.2.2.1)⟩) hz1 (by omega)
    · exact R_store6 HO2.out (fun k hk => ⟨hk.1.1, (fun e => base9 k e.symm hk.2.2.1)⟩) hz1 (by omega)
    · exact R_store6 (Kd.R_bound HO9'.out) (fun k hk => ⟨(fun e => by have z := hk.2.1; simp at z; have := lt0 k e.symm; omega), (fun e => by have z := hk.2.1; simp at z; have := lt2 k e.symm; omega)⟩) (by simp; omega) (by simp; omega)
    · exact below_store6 HB4.out (by omega)

end Go.Proofs.Ytbapokpkgonjkaa.Print
