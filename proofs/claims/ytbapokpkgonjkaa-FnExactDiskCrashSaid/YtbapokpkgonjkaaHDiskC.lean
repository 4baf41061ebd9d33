/- The drive: driveOf and disk. -/
import Derived.Test.YtbapokpkgonjkaaPrint0
import Derived.Test.YtbapokpkgonjkaaHSlClone
import Derived.Test.YtbapokpkgonjkaaHDiskB
import Derived.LoopN
namespace Go.Proofs.Ytbapokpkgonjkaa.Print
open Go.RowKit Go.Proofs.YtbapokpkgonjkaaW.PrintWords Go.Proofs.YtbapokpkgonjkaaW.PrintLast Go.Proofs.YtbapokpkgonjkaaW.PrintMore
set_option linter.unusedVariables false
set_option linter.unusedSimpArgs false

theorem bcell {B : Nat} {W w1 : World} (hb : Below B W w1) : (∀ b o, b < B → w1.cell? ⟨b, o, none⟩ = W.cell? ⟨b, o, none⟩) ∧ (∀ b o, b < B → w1.frozen? ⟨b, o, none⟩ = W.frozen? ⟨b, o, none⟩) :=
  ⟨fun b o h => hb.cell (p := ⟨b, o, none⟩) h, fun b o h => hb.frozen (p := ⟨b, o, none⟩) h⟩

set_option maxHeartbeats 400000 in
set_option maxRecDepth 100000 in
theorem drive_disk (A0 A2 A4 : Option Addr) (n0 c0 n2 c2 n4 c4 : Nat) (s1 s3 s5 : Int) (w : World) :
    Calls Try.prog 76 #[.agg #[.slice A0 n0 c0, .int .i64 s1, .slice A2 n2 c2, .int .i64 s3, .slice A4 n4 c4, .int .i64 s5]] w fun e w' => e = .returned (.agg #[.slice A0 n0 c0, .int .i64 s1, .slice A2 n2 c2, .int .i64 s3, .slice A4 n4 c4, .int .i64 s5]) ∧ Below w.heap.size w w' := by
  go_enter Try.func76, Try.ntmps76
  go_wp2_with fail
  refine bodyPost_ret (v := .agg #[.slice A0 n0 c0, .int .i64 s1, .slice A2 n2 c2, .int .i64 s3, .slice A4 n4 c4, .int .i64 s5]) (by simp [results, Try.results76, go_sem]) rfl ⟨rfl, ?_⟩
  exact below_alloc (below_alloc (Below.refl _ _) _) _

set_option maxHeartbeats 800000 in
set_option maxRecDepth 100000 in
theorem driveOf_any (A0 A2 A4 : Option Addr) (c0 c2 c4 : Nat) (l0 l2 l4 : List Int) (s1 s3 s5 : Int) (w : World) (hr0 : Kd.C (Kd.int .u8) w A0 l0.length l0) (hc0 : l0.length ≤ c0) (hr2 : Kd.C (Kd.int .u8) w A2 l2.length l2) (hc2 : l2.length ≤ c2) (hr4 : Kd.C (Kd.int .u8) w A4 l4.length l4) (hc4 : l4.length ≤ c4)
    (hb0 : l0.length ≤ 200000) (hb2 : l2.length ≤ 200000) (hb4 : l4.length ≤ 200000) :
    Calls Try.prog 74 #[.agg #[.slice A0 l0.length c0, .int .i64 s1, .slice A2 l2.length c2, .int .i64 s3, .slice A4 l4.length c4, .int .i64 s5]] w fun e w' => ∃ v0 v2 v4 : Value, e = .returned (.agg #[v0, .int .i64 s1, v2, .int .i64 s3, v4, .int .i64 s5]) ∧
      Kd.R (Kd.int .u8) 5 w' w.heap.size (fun k => some k ≠ v2.ownBlock ∧ some k ≠ v4.ownBlock) v0 l0 ∧ Kd.R (Kd.int .u8) 5 w' w.heap.size (fun k => some k ≠ v0.ownBlock ∧ some k ≠ v4.ownBlock) v2 l2 ∧ Kd.R (Kd.int .u8) 5 w' w.heap.size (fun k => some k ≠ v0.ownBlock ∧ some k ≠ v2.ownBlock) v4 l4 ∧ Below w.heap.size w w' := by
  have HR0 := Aside0.mk hr0
  have HR2 := Aside0.mk hr2
  have HR4 := Aside0.mk hr4
  clear hr0 hr2 hr4
  go_enter Try.func74, Try.ntmps74
  go_wp2_with fail
  have hcl : ∀ l : List Int, l.length ≤ 200000 → slices_Clone_byte_byte.f l = some l := fun l hl => by unfold slices_Clone_byte_byte.f; rw [if_pos (by omega)]
  refine wp_loop_rounds 4 ?_
  rw [rounds_succ]
  go_wp2_with fail
  refine (slices_Clone_byte_byte.calls A0 c0 l0 l0 _ (by repeat (first | exact HR0.out | refine Kd.C_alloc ?_ _)) hc0 (hcl _ hb0)).mono ?_
  rintro e w1 ⟨v0, rfl, ho0, hb⟩
  have hB1 : Below w.heap.size w w1 := below_then (by repeat (first | exact Below.refl _ _ | apply below_alloc)) (by simp; omega) hb
  have hz1 : w.heap.size + 1 + 1 < w1.heap.size := by have := hb.size; simp at this; omega
  have hy1 : w.heap.size + 1 < w1.heap.size := by omega
  have hx1 : w.heap.size < w1.heap.size := by omega
  obtain ⟨hc1, hf1⟩ := bcell hb
  obtain ⟨B0, d0, rfl, hd0, _⟩ := Kd.R_reads ho0
  have HO0 := Aside0.mk ho0
  have HB1 := Aside0.mk hB1
  clear ho0 hB1 hb
  go_wp2_with fail
  rw [rounds_succ]
  go_wp2_with fail
  refine (slices_Clone_byte_byte.calls A2 c2 l2 l2 _ (Kd.C_below HR2.out (HB1.out.setCell (by simp; omega) _)) hc2 (hcl _ hb2)).mono ?_
  rintro e w2 ⟨v2, rfl, ho2, hb⟩
  have hB2 : Below w.heap.size w w2 := below_then (HB1.out.setCell (by simp; omega) _) (by simp; omega) hb
  have hz2 : w.heap.size + 1 + 1 < w2.heap.size := by have := hb.size; simp at this; omega
  have hy2 : w.heap.size + 1 < w2.heap.size := by omega
  have hx2 : w.heap.size < w2.heap.size := by omega
  have HO0' := R_store HO0.out (w.heap.size + 1 + 1) 0 (.slice B0 l0.length d0) (by simp)
  have HO02 := Aside0.mk (Kd.R_elder' HO0' (Kd.R_base ho2) hb)
  have HO22 := Aside0.mk (Kd.R_new' ho2 (Kd.R_lt HO0'))
  clear HO0'
  obtain ⟨hc2', hf2'⟩ := bcell (hb.mono (by simp : w1.heap.size ≤ _))
  simp only [World.frozen?_setCell] at hf2'
  obtain ⟨B2, d2, rfl, hd2, _⟩ := Kd.R_reads ho2
  have HB2 := Aside0.mk hB2
  clear ho2 hB2 hb
  go_wp2_with fail
  rw [rounds_succ]
  go_wp2_with fail
  refine (slices_Clone_byte_byte.calls A4 c4 l4 l4 _ (Kd.C_below HR4.out (HB2.out.setCell (by simp; omega) _)) hc4 (hcl _ hb4)).mono ?_
  rintro e w3 ⟨v4, rfl, ho4, hb⟩
  have hB3 : Below w.heap.size w w3 := below_then (HB2.out.setCell (by simp; omega) _) (by simp; omega) hb
  have hz3 : w.heap.size + 1 + 1 < w3.heap.size := by have := hb.size; simp at this; omega
  have hy3 : w.heap.size + 1 < w3.heap.size := by omega
  have hx3 : w.heap.size < w3.heap.size := by omega
  have HO02' := R_store HO02.out (w.heap.size + 1 + 1) 2 (.slice B2 l2.length d2) (by simp)
  have HO22' := R_store HO22.out (w.heap.size + 1 + 1) 2 (.slice B2 l2.length d2) (by simp; omega)
  have HO03 := Aside0.mk (Kd.R_elder' HO02' (Kd.R_base ho4) hb)
  have HO23 := Aside0.mk (Kd.R_elder' HO22' (Kd.R_base ho4) hb)
  have HO43 := Aside0.mk (Kd.R_new' (Kd.R_new' ho4 (Kd.R_lt HO02')) (Kd.R_lt HO22'))
  clear HO02' HO22' HO02 HO22 HO0
  obtain ⟨hc3', hf3'⟩ := bcell (hb.mono (by simp : w2.heap.size ≤ _))
  simp only [World.frozen?_setCell] at hf3'
  obtain ⟨B4, d4, rfl, hd4, _⟩ := Kd.R_reads ho4
  have HB3 := Aside0.mk hB3
  clear ho4 hB3 hb
  go_wp2_with fail
  rw [rounds_succ]
  go_wp2_with fail
  refine bodyPost_ret (v := .agg #[.slice B0 l0.length d0, .int .i64 s1, .slice B2 l2.length d2, .int .i64 s3, .slice B4 l4.length d4, .int .i64 s5]) ?_ rfl ?_
  · simp [results, Try.results74, go_sem, hc3', hc2', hc1, hy1, hy2, hy3]
  · have fin : ∀ {base : Nat} {ok : Nat → Prop} {v : Value} {l : List Int} (a b c d e f g : Value), Kd.R (Kd.int .u8) 5 w3 base ok v l → w.heap.size + 1 + 1 < base → Kd.R (Kd.int .u8) 5 (((((((w3.setCell ⟨w.heap.size + 1 + 1, 4, none⟩ a).setCell ⟨w.heap.size + 1, 0, none⟩ b).setCell ⟨w.heap.size + 1, 1, none⟩ c).setCell ⟨w.heap.size + 1, 2, none⟩ d).setCell ⟨w.heap.size + 1, 3, none⟩ e).setCell ⟨w.heap.size + 1, 4, none⟩ f).setCell ⟨w.heap.size + 1, 5, none⟩ g) w.heap.size ok v l := fun _ _ _ _ _ _ _ h hb => Kd.R_lower (R_store (R_store (R_store (R_store (R_store (R_store (R_store h _ _ _ (by omega)) _ _ _ (by omega)) _ _ _ (by omega)) _ _ _ (by omega)) _ _ _ (by omega)) _ _ _ (by omega)) _ _ _ (by omega)) (by omega)
    refine ⟨_, _, _, rfl, ?_, ?_, ?_, ?_⟩
    · exact fin _ _ _ _ _ _ _ (Kd.R_mono HO03.out (fun k hk => ⟨hk.1.2, hk.2⟩)) (by simp)
    · exact fin _ _ _ _ _ _ _ (Kd.R_mono HO23.out (fun k hk => ⟨hk.1.2, hk.2⟩)) (by simp; omega)
    · exact fin _ _ _ _ _ _ _ (Kd.R_mono HO43.out (fun k hk => ⟨hk.1.2, hk.2⟩)) (by simp; omega)
    · exact ((((((HB3.out.setCell (by simp; omega) _).setCell (by simp) _).setCell (by simp) _).setCell (by simp) _).setCell (by simp) _).setCell (by simp) _).setCell (by simp) _

end Go.Proofs.Ytbapokpkgonjkaa.Print
