/- The drive: crash and rename of the whole. -/
import Derived.Test.YtbapokpkgonjkaaPrint0
import Derived.Test.YtbapokpkgonjkaaHDiskB
import Derived.LoopN
import Derived.RegionTactic
import Derived.BigRegion
namespace Go.Proofs.Ytbapokpkgonjkaa.Print
open Go.RowKit Go.Proofs.YtbapokpkgonjkaaW.PrintWords Go.Proofs.YtbapokpkgonjkaaW.PrintLast Go.Proofs.YtbapokpkgonjkaaW.PrintMore
set_option linter.unusedVariables false
set_option linter.unusedSimpArgs false

theorem drawn0_belowN {B : Nat} {w w' : World} (h : Drawn0 w w') : Below B w w' := by
  obtain ⟨n, rfl⟩ := h
  exact pw_below_drewN (Below.refl _ _) n
theorem drawn0_blk {w w' : World} (h : Drawn0 w w') {g : Nat} {o : Obj} (hb : w.heap[g]? = some o) : w'.heap[g]? = some o := by
  obtain ⟨n, rfl⟩ := h
  exact blk_drewN hb n

/-- file.crash, told of the block. -/
theorem file_crash_blk (g o n c t : Nat) (A : Option Addr) (s keep : Int) (cs : Array Value) (w : World) (hb : w.heap[g]? = some (.cells cs t (0, 0))) (h0 : cs[o]? = some (.slice A n c)) (h1 : cs[o + 1]? = some (.int .i64 s)) (hn : n ≤ 200000) (hs : 0 ≤ s) (hsn : s ≤ (n : Int)) (hk : 0 ≤ keep) (hc : n ≤ c) :
    Calls Try.prog 104 #[.pointer (some ⟨g, o, none⟩), .int .i64 keep] w fun e w' => e = .returned (.tuple #[]) ∧ Below g w w' ∧ w'.heap[g]? = some (.cells ((cs.setIfInBounds o (.slice A (keptLen n s keep).toNat c)).setIfInBounds (o + 1) (.int .i64 (keptLen n s keep))) t (0, 0)) := by
  refine (file_crash g o n c A s keep w ((blk_cell hb o).trans h0) ((blk_cell hb (o + 1)).trans h1) (blk_frozen hb o) (blk_frozen hb (o + 1)) hn hs hsn hk hc).mono ?_
  rintro e w' ⟨rfl, hd⟩
  exact ⟨rfl, (((Below.refl g w).setCell (Nat.le_refl _) _).setCell (Nat.le_refl _) _).trans (drawn0_belowN hd), drawn0_blk hd (blk_set (blk_set hb o _) (o + 1) _)⟩

theorem file_reset_blk (g o t : Nat) (u v : Value) (cs : Array Value) (w : World) (hb : w.heap[g]? = some (.cells cs t (0, 0))) (h0 : cs[o]? = some u) (h1 : cs[o + 1]? = some v) :
    Calls Try.prog 85 #[.pointer (some ⟨g, o, none⟩)] w fun e w' => e = .returned (.tuple #[]) ∧ Below g w w' ∧ w'.heap[g]? = some (.cells ((cs.setIfInBounds o (.slice none 0 0)).setIfInBounds (o + 1) (.int .i64 0)) t (0, 0)) := by
  refine (file_reset g o u v w ((blk_cell hb o).trans h0) ((blk_cell hb (o + 1)).trans h1) (blk_frozen hb o) (blk_frozen hb (o + 1))).mono ?_
  rintro e w' ⟨rfl, rfl⟩
  exact ⟨rfl, ((Below.refl g w).setCell (Nat.le_refl _) _).setCell (Nat.le_refl _) _, blk_set (blk_set hb o _) (o + 1) _⟩

theorem file_sync_blk (g o n c t : Nat) (A : Option Addr) (s : Int) (cs : Array Value) (w : World) (hb : w.heap[g]? = some (.cells cs t (0, 0))) (h0 : cs[o]? = some (.slice A n c)) (h1 : cs[o + 1]? = some (.int .i64 s)) :
    Calls Try.prog 88 #[.pointer (some ⟨g, o, none⟩)] w fun e w' => e = .returned (.tuple #[]) ∧ Below g w w' ∧ w'.heap[g]? = some (.cells (cs.setIfInBounds (o + 1) (.int .i64 n)) t (0, 0)) := by
  refine (file_sync g o n c A s w ((blk_cell hb o).trans h0) ((blk_cell hb (o + 1)).trans h1) (blk_frozen hb (o + 1))).mono ?_
  rintro e w' ⟨rfl, rfl⟩
  exact ⟨rfl, (Below.refl g w).setCell (Nat.le_refl _) _, blk_set hb (o + 1) _⟩


set_option maxHeartbeats 400000 in
set_option maxRecDepth 100000 in
theorem drive_crash (g t : Nat) (A0 A2 A4 : Option Addr) (n0 c0 n2 c2 n4 c4 : Nat) (s1 s3 s5 keep : Int) (w : World) (hw : w.heap[g]? = some (.cells #[.slice A0 n0 c0, .int .i64 s1, .slice A2 n2 c2, .int .i64 s3, .slice A4 n4 c4, .int .i64 s5] t (0, 0)))
    (h0 : n0 ≤ 200000) (h1 : 0 ≤ s1) (h1' : s1 ≤ (n0 : Int)) (h0' : n0 ≤ c0) (h2 : n2 ≤ 200000) (h3 : 0 ≤ s3) (h3' : s3 ≤ (n2 : Int)) (h2' : n2 ≤ c2) (h4 : n4 ≤ 200000) (h5 : 0 ≤ s5) (h5' : s5 ≤ (n4 : Int)) (h4' : n4 ≤ c4) (hk : 0 ≤ keep) :
    Calls Try.prog 75 #[.pointer (some ⟨g, 0, none⟩), .int .i64 keep] w fun e w' => e = .returned (.tuple #[]) ∧ Below g w w' ∧ w'.heap[g]? = some (.cells #[.slice A0 (keptLen n0 s1 keep).toNat c0, .int .i64 (keptLen n0 s1 keep), .slice A2 (keptLen n2 s3 keep).toNat c2, .int .i64 (keptLen n2 s3 keep), .slice A4 (keptLen n4 s5 keep).toNat c4, .int .i64 (keptLen n4 s5 keep)] t (0, 0)) := by
  have HW := Aside0.mk hw
  clear hw
  go_enter Try.func75, Try.ntmps75
  go_wp2_with fail
  refine wp_loop_rounds 4 ?_
  rw [rounds_succ]
  go_wp2_with fail
  refine (file_crash_blk g 0 n0 c0 t A0 s1 keep _ w HW.out rfl rfl h0 h1 h1' hk h0').mono ?_
  rintro e w1 ⟨rfl, hB1, hb1⟩
  have HB1 := Aside0.mk hB1
  have HW1 := Aside0.mk hb1
  clear hB1 hb1
  go_wp2_with fail
  rw [rounds_succ]
  go_wp2_with fail
  refine (file_crash_blk g 2 n2 c2 t A2 s3 keep _ w1 HW1.out rfl rfl h2 h3 h3' hk h2').mono ?_
  rintro e w2 ⟨rfl, hB2, hb2⟩
  have HB2 := Aside0.mk (HB1.out.trans hB2)
  have HW2 := Aside0.mk hb2
  clear hB2 hb2
  go_wp2_with fail
  rw [rounds_succ]
  go_wp2_with fail
  refine (file_crash_blk g 4 n4 c4 t A4 s5 keep _ w2 HW2.out rfl rfl h4 h5 h5' hk h4').mono ?_
  rintro e w3 ⟨rfl, hB3, hb3⟩
  have HB3 := Aside0.mk (HB2.out.trans hB3)
  have HW3 := Aside0.mk hb3
  clear hB3 hb3
  go_wp2_with fail
  rw [rounds_succ]
  go_wp2_with fail
  go_end0
  exact ⟨rfl, HB3.out, HW3.out⟩

set_option maxHeartbeats 400000 in
set_option maxRecDepth 100000 in
theorem drive_rename (g t : Nat) (A0 A2 A4 : Option Addr) (n0 c0 n2 c2 n4 c4 : Nat) (s1 s3 s5 : Int) (w : World) (hw : w.heap[g]? = some (.cells #[.slice A0 n0 c0, .int .i64 s1, .slice A2 n2 c2, .int .i64 s3, .slice A4 n4 c4, .int .i64 s5] t (0, 0))) :
    Calls Try.prog 81 #[.pointer (some ⟨g, 0, none⟩)] w fun e w' => e = .returned (.tuple #[]) ∧ Below g w w' ∧ w'.heap[g]? = some (.cells #[.slice A0 n0 c0, .int .i64 s1, .slice A4 n4 c4, .int .i64 s5, .slice none 0 0, .int .i64 0] t (0, 0)) := by
  have k0 := blk_cell hw 0
  have k2 := blk_cell hw 2
  have k3 := blk_cell hw 3
  have k4 := blk_cell hw 4
  have k5 := blk_cell hw 5
  have kf : ∀ i, w.frozen? ⟨g, i, none⟩ = false := blk_frozen hw
  simp at k0 k2 k3 k4 k5
  have HW := Aside0.mk hw
  clear hw
  go_enter Try.func81, Try.ntmps81
  go_wp2_with fail
  go_region
  go_wp2_with fail
  have hb := blk_drew (blk_set (blk_set HW.out 2 (.slice A4 n4 c4)) 3 (.int .i64 s5))
  have hB := ((((Below.refl g w).setCell (p := ⟨g, 2, none⟩) (Nat.le_refl _) (.slice A4 n4 c4)).setCell (p := ⟨g, 3, none⟩) (Nat.le_refl _) (.int .i64 s5))).drew
  refine (file_reset_blk g 4 t _ _ _ _ hb rfl rfl).mono ?_
  rintro e w1 ⟨rfl, hB1, hb1⟩
  have HB1 := Aside0.mk (hB.trans hB1)
  have HW1 := Aside0.mk hb1
  clear hB1 hb1 hb hB
  go_wp2_with fail
  go_end0
  exact ⟨rfl, HB1.out, HW1.out⟩

end Go.Proofs.Ytbapokpkgonjkaa.Print
