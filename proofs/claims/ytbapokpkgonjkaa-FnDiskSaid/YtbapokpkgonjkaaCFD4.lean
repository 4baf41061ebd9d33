/- Texts of this session, joined by its own program. -/
import Derived.Test.YtbapokpkgonjkaaCFD0
import Derived.Test.YtbapokpkgonjkaaCFD3
/- onFile at each file, with reset, sync and append: what the disk is behind the call. -/
namespace Go.Proofs.Ytbapokpkgonjkaa.Print
open Go.RowKit Go.Proofs.YtbapokpkgonjkaaW.PrintWords Go.Proofs.YtbapokpkgonjkaaW.PrintLast Go.Proofs.YtbapokpkgonjkaaW.PrintMore
set_option linter.unusedVariables false
set_option linter.unusedSimpArgs false

set_option maxHeartbeats 800000 in
set_option maxRecDepth 100000 in
theorem onFile_reset_0 (A0_0 : Option Addr) (c0_0 : Nat) (l0_0 : List Int) (a0_1 : Int) (A0_2 : Option Addr) (c0_2 : Nat) (l0_2 : List Int) (a0_3 : Int) (A0_4 : Option Addr) (c0_4 : Nat) (l0_4 : List Int) (a0_5 : Int) (w : World) (hr0_0 : Kd.C (Kd.int .u8) w A0_0 l0_0.length l0_0) (hc0_0 : l0_0.length ≤ c0_0) (hr0_2 : Kd.C (Kd.int .u8) w A0_2 l0_2.length l0_2) (hc0_2 : l0_2.length ≤ c0_2) (hr0_4 : Kd.C (Kd.int .u8) w A0_4 l0_4.length l0_4) (hc0_4 : l0_4.length ≤ c0_4) (hv : okDisk l0_0 a0_1 l0_2 a0_3 l0_4 a0_5 = true) :
    Calls Try.prog 83 #[.agg #[.slice A0_0 l0_0.length c0_0, .int .i64 a0_1, .slice A0_2 l0_2.length c0_2, .int .i64 a0_3, .slice A0_4 l0_4.length c0_4, .int .i64 a0_5], .int .i64 0, .func (Fn.func 84) #[] #[]] w fun e w' => ∃ v0_ v2_ v4_ : Value, e = .returned (.tuple #[.agg #[v0_, .int .i64 0, v2_, .int .i64 a0_3, v4_, .int .i64 a0_5], .int .i64 0]) ∧ Kd.R (Kd.int .u8) 5 w' w.heap.size (fun k_ => some k_ ≠ (v2_ : Value).ownBlock ∧ some k_ ≠ (v4_ : Value).ownBlock) v0_ [] ∧ Kd.R (Kd.int .u8) 5 w' w.heap.size (fun k_ => some k_ ≠ (v0_ : Value).ownBlock ∧ some k_ ≠ (v4_ : Value).ownBlock) v2_ l0_2 ∧ Kd.R (Kd.int .u8) 5 w' w.heap.size (fun k_ => some k_ ≠ (v0_ : Value).ownBlock ∧ some k_ ≠ (v2_ : Value).ownBlock) v4_ l0_4 ∧ Below w.heap.size w w' := by
  have HR0 := Aside0.mk hr0_0
  have HR2 := Aside0.mk hr0_2
  have HR4 := Aside0.mk hr0_4
  clear hr0_0 hr0_2 hr0_4
  obtain ⟨⟨x0, x1, x2⟩, ⟨y0, y1, y2⟩, ⟨z0, z1, z2⟩⟩ := okDisk_iff hv
  have HV := Aside0.mk hv
  clear hv
  go_enter Try.func83, Try.ntmps83
  go_wp2_with fail
  refine (validDisk_any _ _ _ _ _ _ _ _ _ _ _ _ _).mono ?_
  rintro e w1 ⟨rfl, hb⟩
  have hvv : (okFile l0_0.length a0_1 && (okFile l0_2.length a0_3 && okFile l0_4.length a0_5)) = true := HV.out
  rw [hvv]
  clear hvv
  have hB1 : Below w.heap.size w w1 := below_then (below_alloc (below_alloc (Below.refl _ _) _) _) (by simp; omega) hb
  have hz1 : w.heap.size + 1 < w1.heap.size := by have := hb.size; simp at this; omega
  have hy1 : w.heap.size < w1.heap.size := by omega
  obtain ⟨hc1, hf1⟩ := bcell hb
  have HB1 := Aside0.mk hB1
  clear hB1 hb
  go_wp2_with fail
  refine (driveOf_any A0_0 A0_2 A0_4 c0_0 c0_2 c0_4 l0_0 l0_2 l0_4 a0_1 a0_3 a0_5 w1 (Kd.C_below HR0.out HB1.out) hc0_0 (Kd.C_below HR2.out HB1.out) hc0_2 (Kd.C_below HR4.out HB1.out) hc0_4 x0 y0 z0).mono ?_
  rintro e w2 ⟨v0, v2, v4, rfl, ho0, ho2, ho4, hb⟩
  obtain ⟨B0, d0, rfl, hd0, hp0⟩ := Kd.R_reads ho0
  obtain ⟨B2, d2, rfl, hd2, hp2⟩ := Kd.R_reads ho2
  obtain ⟨B4, d4, rfl, hd4, hp4⟩ := Kd.R_reads ho4
  have hB2 : Below w.heap.size w w2 := below_then HB1.out (by omega) hb
  have hz2 : w.heap.size + 1 < w2.heap.size := by have := hb.size; omega
  have hy2 : w.heap.size < w2.heap.size := by omega
  obtain ⟨hc2, hf2⟩ := bcell hb
  have HB2 := Aside0.mk hB2
  have HO0 := Aside0.mk ho0
  have HO2 := Aside0.mk ho2
  have HO4 := Aside0.mk ho4
  have HP0 := Aside0.mk hp0
  have HP2 := Aside0.mk hp2
  have HP4 := Aside0.mk hp4
  clear hB2 hb ho0 ho2 ho4 hp0 hp2 hp4
  go_wp2_with fail
  refine (do_reset w2.heap.size 0 75 _ _ _ _ (blk_new w2 _) rfl rfl).mono ?_
  rintro e w3 ⟨rfl, hB3, hb3⟩
  have hb : Below w2.heap.size w2 w3 := (below_alloc (Below.refl _ _) _).trans hB3
  have hB3' : Below w.heap.size w w3 := below_then HB2.out (by omega) hb
  have hz3 : w.heap.size + 1 < w3.heap.size := by have := hb.size; omega
  have hy3 : w.heap.size < w3.heap.size := by omega
  obtain ⟨hc3, hf3⟩ := bcell hb
  have k0 := blk_cell hb3 0
  have k1 := blk_cell hb3 1
  have k2 := blk_cell hb3 2
  have k3 := blk_cell hb3 3
  have k4 := blk_cell hb3 4
  have k5 := blk_cell hb3 5
  simp at k0 k1 k2 k3 k4 k5
  have HB3 := Aside0.mk hB3'
  have HO0' := Aside0.mk (Kd.R_below HO0.out hb)
  have HO2' := Aside0.mk (Kd.R_below HO2.out hb)
  have HO4' := Aside0.mk (Kd.R_below HO4.out hb)
  clear hB3 hb3 hb hB3' HO0 HO2 HO4
  go_wp2_with fail
  refine (drive_disk _ _ _ _ _ _ _ _ _ _ _ _ _).mono ?_
  rintro e w4 ⟨rfl, hb⟩
  have hB4 : Below w.heap.size w w4 := below_then HB3.out (by omega) hb
  have hz4 : w.heap.size + 1 < w4.heap.size := by have := hb.size; omega
  have hy4 : w.heap.size < w4.heap.size := by omega
  obtain ⟨hc4, hf4⟩ := bcell hb
  have HB4 := Aside0.mk hB4
  have HO0 := Aside0.mk (Kd.R_below HO0'.out hb)
  have HO2 := Aside0.mk (Kd.R_below HO2'.out hb)
  have HO4 := Aside0.mk (Kd.R_below HO4'.out hb)
  clear hB4 hb HO0' HO2' HO4' k0 k1 k2 k3 k4 k5
  go_wp2_with fail
  refine bodyPost_ret (v := .tuple #[.agg #[.slice none 0 0, .int .i64 0, .slice B2 l0_2.length d2, .int .i64 a0_3, .slice B4 l0_4.length d4, .int .i64 a0_5], .int .i64 0]) ?_ rfl ?_
  · simp [results, Try.results83, go_sem, hc4, hc3, hc2, hc1, hy1, hz1, hy2, hz2, hy3, hz3, hy4, hz4]
  · refine ⟨_, _, _, rfl, ?_, ?_, ?_, ?_⟩
    · exact Kd.R_nil _ _ _ _ _
    · exact R_store6 HO2.out (fun k hk => ⟨(fun e => by cases e), hk.2⟩) hz1 (by omega)
    · exact R_store6 HO4.out (fun k hk => ⟨(fun e => by cases e), hk.2⟩) hz1 (by omega)
    · exact below_store6 HB4.out (by omega)

set_option maxHeartbeats 800000 in
set_option maxRecDepth 100000 in
theorem onFile_reset_1 (A0_0 : Option Addr) (c0_0 : Nat) (l0_0 : List Int) (a0_1 : Int) (A0_2 : Option Addr) (c0_2 : Nat) (l0_2 : List Int) (a0_3 : Int) (A0_4 : Option Addr) (c0_4 : Nat) (l0_4 : List Int) (a0_5 : Int) (w : World) (hr0_0 : Kd.C (Kd.int .u8) w A0_0 l0_0.length l0_0) (hc0_0 : l0_0.length ≤ c0_0) (hr0_2 : Kd.C (Kd.int .u8) w A0_2 l0_2.length l0_2) (hc0_2 : l0_2.length ≤ c0_2) (hr0_4 : Kd.C (Kd.int .u8) w A0_4 l0_4.length l0_4) (hc0_4 : l0_4.length ≤ c0_4) (hv : okDisk l0_0 a0_1 l0_2 a0_3 l0_4 a0_5 = true) :
    Calls Try.prog 83 #[.agg #[.slice A0_0 l0_0.length c0_0, .int .i64 a0_1, .slice A0_2 l0_2.length c0_2, .int .i64 a0_3, .slice A0_4 l0_4.length c0_4, .int .i64 a0_5], .int .i64 1, .func (Fn.func 84) #[] #[]] w fun e w' => ∃ v0_ v2_ v4_ : Value, e = .returned (.tuple #[.agg #[v0_, .int .i64 a0_1, v2_, .int .i64 0, v4_, .int .i64 a0_5], .int .i64 0]) ∧ Kd.R (Kd.int .u8) 5 w' w.heap.size (fun k_ => some k_ ≠ (v2_ : Value).ownBlock ∧ some k_ ≠ (v4_ : Value).ownBlock) v0_ l0_0 ∧ Kd.R (Kd.int .u8) 5 w' w.heap.size (fun k_ => some k_ ≠ (v0_ : Value).ownBlock ∧ some k_ ≠ (v4_ : Value).ownBlock) v2_ [] ∧ Kd.R (Kd.int .u8) 5 w' w.heap.size (fun k_ => some k_ ≠ (v0_ : Value).ownBlock ∧ some k_ ≠ (v2_ : Value).ownBlock) v4_ l0_4 ∧ Below w.heap.size w w' := by
  have HR0 := Aside0.mk hr0_0
  have HR2 := Aside0.mk hr0_2
  have HR4 := Aside0.mk hr0_4
  clear hr0_0 hr0_2 hr0_4
  obtain ⟨⟨x0, x1, x2⟩, ⟨y0, y1, y2⟩, ⟨z0, z1, z2⟩⟩ := okDisk_iff hv
  have HV := Aside0.mk hv
  clear hv
  go_enter Try.func83, Try.ntmps83
  go_wp2_with fail
  refine (validDisk_any _ _ _ _ _ _ _ _ _ _ _ _ _).mono ?_
  rintro e w1 ⟨rfl, hb⟩
  have hvv : (okFile l0_0.length a0_1 && (okFile l0_2.length a0_3 && okFile l0_4.length a0_5)) = true := HV.out
  rw [hvv]
  clear hvv
  have hB1 : Below w.heap.size w w1 := below_then (below_alloc (below_alloc (Below.refl _ _) _) _) (by simp; omega) hb
  have hz1 : w.heap.size + 1 < w1.heap.size := by have := hb.size; simp at this; omega
  have hy1 : w.heap.size < w1.heap.size := by omega
  obtain ⟨hc1, hf1⟩ := bcell hb
  have HB1 := Aside0.mk hB1
  clear hB1 hb
  go_wp2_with fail
  refine (driveOf_any A0_0 A0_2 A0_4 c0_0 c0_2 c0_4 l0_0 l0_2 l0_4 a0_1 a0_3 a0_5 w1 (Kd.C_below HR0.out HB1.out) hc0_0 (Kd.C_below HR2.out HB1.out) hc0_2 (Kd.C_below HR4.out HB1.out) hc0_4 x0 y0 z0).mono ?_
  rintro e w2 ⟨v0, v2, v4, rfl, ho0, ho2, ho4, hb⟩
  obtain ⟨B0, d0, rfl, hd0, hp0⟩ := Kd.R_reads ho0
  obtain ⟨B2, d2, rfl, hd2, hp2⟩ := Kd.R_reads ho2
  obtain ⟨B4, d4, rfl, hd4, hp4⟩ := Kd.R_reads ho4
  have hB2 : Below w.heap.size w w2 := below_then HB1.out (by omega) hb
  have hz2 : w.heap.size + 1 < w2.heap.size := by have := hb.size; omega
  have hy2 : w.heap.size < w2.heap.size := by omega
  obtain ⟨hc2, hf2⟩ := bcell hb
  have HB2 := Aside0.mk hB2
  have HO0 := Aside0.mk ho0
  have HO2 := Aside0.mk ho2
  have HO4 := Aside0.mk ho4
  have HP0 := Aside0.mk hp0
  have HP2 := Aside0.mk hp2
  have HP4 := Aside0.mk hp4
  clear hB2 hb ho0 ho2 ho4 hp0 hp2 hp4
  go_wp2_with fail
  refine (do_reset w2.heap.size 2 75 _ _ _ _ (blk_new w2 _) rfl rfl).mono ?_
  rintro e w3 ⟨rfl, hB3, hb3⟩
  have hb : Below w2.heap.size w2 w3 := (below_alloc (Below.refl _ _) _).trans hB3
  have hB3' : Below w.heap.size w w3 := below_then HB2.out (by omega) hb
  have hz3 : w.heap.size + 1 < w3.heap.size := by have := hb.size; omega
  have hy3 : w.heap.size < w3.heap.size := by omega
  obtain ⟨hc3, hf3⟩ := bcell hb
  have k0 := blk_cell hb3 0
  have k1 := blk_cell hb3 1
  have k2 := blk_cell hb3 2
  have k3 := blk_cell hb3 3
  have k4 := blk_cell hb3 4
  have k5 := blk_cell hb3 5
  simp at k0 k1 k2 k3 k4 k5
  have HB3 := Aside0.mk hB3'
  have HO0' := Aside0.mk (Kd.R_below HO0.out hb)
  have HO2' := Aside0.mk (Kd.R_below HO2.out hb)
  have HO4' := Aside0.mk (Kd.R_below HO4.out hb)
  clear hB3 hb3 hb hB3' HO0 HO2 HO4
  go_wp2_with fail
  refine (drive_disk _ _ _ _ _ _ _ _ _ _ _ _ _).mono ?_
  rintro e w4 ⟨rfl, hb⟩
  have hB4 : Below w.heap.size w w4 := below_then HB3.out (by omega) hb
  have hz4 : w.heap.size + 1 < w4.heap.size := by have := hb.size; omega
  have hy4 : w.heap.size < w4.heap.size := by omega
  obtain ⟨hc4, hf4⟩ := bcell hb
  have HB4 := Aside0.mk hB4
  have HO0 := Aside0.mk (Kd.R_below HO0'.out hb)
  have HO2 := Aside0.mk (Kd.R_below HO2'.out hb)
  have HO4 := Aside0.mk (Kd.R_below HO4'.out hb)
  clear hB4 hb HO0' HO2' HO4' k0 k1 k2 k3 k4 k5
  go_wp2_with fail
  refine bodyPost_ret (v := .tuple #[.agg #[.slice B0 l0_0.length d0, .int .i64 a0_1, .slice none 0 0, .int .i64 0, .slice B4 l0_4.length d4, .int .i64 a0_5], .int .i64 0]) ?_ rfl ?_
  · simp [results, Try.results83, go_sem, hc4, hc3, hc2, hc1, hy1, hz1, hy2, hz2, hy3, hz3, hy4, hz4]
  · refine ⟨_, _, _, rfl, ?_, ?_, ?_, ?_⟩
    · exact R_store6 HO0.out (fun k hk => ⟨(fun e => by cases e), hk.2⟩) hz1 (by omega)
    · exact Kd.R_nil _ _ _ _ _
    · exact R_store6 HO4.out (fun k hk => ⟨hk.1, (fun e => by cases e)⟩) hz1 (by omega)
    · exact below_store6 HB4.out (by omega)

set_option maxHeartbeats 800000 in
set_option maxRecDepth 100000 in
theorem onFile_reset_2 (A0_0 : Option Addr) (c0_0 : Nat) (l0_0 : List Int) (a0_1 : Int) (A0_2 : Option Addr) (c0_2 : Nat) (l0_2 : List Int) (a0_3 : Int) (A0_4 : Option Addr) (c0_4 : Nat) (l0_4 : List Int) (a0_5 : Int) (w : World) (hr0_0 : Kd.C (Kd.int .u8) w A0_0 l0_0.length l0_0) (hc0_0 : l0_0.length ≤ c0_0) (hr0_2 : Kd.C (Kd.int .u8) w A0_2 l0_2.length l0_2) (hc0_2 : l0_2.length ≤ c0_2) (hr0_4 : Kd.C (Kd.int .u8) w A0_4 l0_4.length l0_4) (hc0_4 : l0_4.length ≤ c0_4) (hv : okDisk l0_0 a0_1 l0_2 a0_3 l0_4 a0_5 = true) :
    Calls Try.prog 83 #[.agg #[.slice A0_0 l0_0.length c0_0, .int .i64 a0_1, .slice A0_2 l0_2.length c0_2, .int .i64 a0_3, .slice A0_4 l0_4.length c0_4, .int .i64 a0_5], .int .i64 2, .func (Fn.func 84) #[] #[]] w fun e w' => ∃ v0_ v2_ v4_ : Value, e = .returned (.tuple #[.agg #[v0_, .int .i64 a0_1, v2_, .int .i64 a0_3, v4_, .int .i64 0], .int .i64 0]) ∧ Kd.R (Kd.int .u8) 5 w' w.heap.size (fun k_ => some k_ ≠ (v2_ : Value).ownBlock ∧ some k_ ≠ (v4_ : Value).ownBlock) v0_ l0_0 ∧ Kd.R (Kd.int .u8) 5 w' w.heap.size (fun k_ => some k_ ≠ (v0_ : Value).ownBlock ∧ some k_ ≠ (v4_ : Value).ownBlock) v2_ l0_2 ∧ Kd.R (Kd.int .u8) 5 w' w.heap.size (fun k_ => some k_ ≠ (v0_ : Value).ownBlock ∧ some k_ ≠ (v2_ : Value).ownBlock) v4_ [] ∧ Below w.heap.size w w' := by
  have HR0 := Aside0.mk hr0_0
  have HR2 := Aside0.mk hr0_2
  have HR4 := Aside0.mk hr0_4
  clear hr0_0 hr0_2 hr0_4
  obtain ⟨⟨x0, x1, x2⟩, ⟨y0, y1, y2⟩, ⟨z0, z1, z2⟩⟩ := okDisk_iff hv
  have HV := Aside0.mk hv
  clear hv
  go_enter Try.func83, Try.ntmps83
  go_wp2_with fail
  refine (validDisk_any _ _ _ _ _ _ _ _ _ _ _ _ _).mono ?_
  rintro e w1 ⟨rfl, hb⟩
  have hvv : (okFile l0_0.length a0_1 && (okFile l0_2.length a0_3 && okFile l0_4.length a0_5)) = true := HV.out
  rw [hvv]
  clear hvv
  have hB1 : Below w.heap.size w w1 := below_then (below_alloc (below_alloc (Below.refl _ _) _) _) (by simp; omega) hb
  have hz1 : w.heap.size + 1 < w1.heap.size := by have := hb.size; simp at this; omega
  have hy1 : w.heap.size < w1.heap.size := by omega
  obtain ⟨hc1, hf1⟩ := bcell hb
  have HB1 := Aside0.mk hB1
  clear hB1 hb
  go_wp2_with fail
  refine (driveOf_any A0_0 A0_2 A0_4 c0_0 c0_2 c0_4 l0_0 l0_2 l0_4 a0_1 a0_3 a0_5 w1 (Kd.C_below HR0.out HB1.out) hc0_0 (Kd.C_below HR2.out HB1.out) hc0_2 (Kd.C_below HR4.out HB1.out) hc0_4 x0 y0 z0).mono ?_
  rintro e w2 ⟨v0, v2, v4, rfl, ho0, ho2, ho4, hb⟩
  obtain ⟨B0, d0, rfl, hd0, hp0⟩ := Kd.R_reads ho0
  obtain ⟨B2, d2, rfl, hd2, hp2⟩ := Kd.R_reads ho2
  obtain ⟨B4, d4, rfl, hd4, hp4⟩ := Kd.R_reads ho4
  have hB2 : Below w.heap.size w w2 := below_then HB1.out (by omega) hb
  have hz2 : w.heap.size + 1 < w2.heap.size := by have := hb.size; omega
  have hy2 : w.heap.size < w2.heap.size := by omega
  obtain ⟨hc2, hf2⟩ := bcell hb
  have HB2 := Aside0.mk hB2
  have HO0 := Aside0.mk ho0
  have HO2 := Aside0.mk ho2
  have HO4 := Aside0.mk ho4
  have HP0 := Aside0.mk hp0
  have HP2 := Aside0.mk hp2
  have HP4 := Aside0.mk hp4
  clear hB2 hb ho0 ho2 ho4 hp0 hp2 hp4
  go_wp2_with fail
  refine (do_reset w2.heap.size 4 75 _ _ _ _ (blk_new w2 _) rfl rfl).mono ?_
  rintro e w3 ⟨rfl, hB3, hb3⟩
  have hb : Below w2.heap.size w2 w3 := (below_alloc (Below.refl _ _) _).trans hB3
  have hB3' : Below w.heap.size w w3 := below_then HB2.out (by omega) hb
  have hz3 : w.heap.size + 1 < w3.heap.size := by have := hb.size; omega
  have hy3 : w.heap.size < w3.heap.size := by omega
  obtain ⟨hc3, hf3⟩ := bcell hb
  have k0 := blk_cell hb3 0
  have k1 := blk_cell hb3 1
  have k2 := blk_cell hb3 2
  have k3 := blk_cell hb3 3
  have k4 := blk_cell hb3 4
  have k5 := blk_cell hb3 5
  simp at k0 k1 k2 k3 k4 k5
  have HB3 := Aside0.mk hB3'
  have HO0' := Aside0.mk (Kd.R_below HO0.out hb)
  have HO2' := Aside0.mk (Kd.R_below HO2.out hb)
  have HO4' := Aside0.mk (Kd.R_below HO4.out hb)
  clear hB3 hb3 hb hB3' HO0 HO2 HO4
  go_wp2_with fail
  refine (drive_disk _ _ _ _ _ _ _ _ _ _ _ _ _).mono ?_
  rintro e w4 ⟨rfl, hb⟩
  have hB4 : Below w.heap.size w w4 := below_then HB3.out (by omega) hb
  have hz4 : w.heap.size + 1 < w4.heap.size := by have := hb.size; omega
  have hy4 : w.heap.size < w4.heap.size := by omega
  obtain ⟨hc4, hf4⟩ := bcell hb
  have HB4 := Aside0.mk hB4
  have HO0 := Aside0.mk (Kd.R_below HO0'.out hb)
  have HO2 := Aside0.mk (Kd.R_below HO2'.out hb)
  have HO4 := Aside0.mk (Kd.R_below HO4'.out hb)
  clear hB4 hb HO0' HO2' HO4' k0 k1 k2 k3 k4 k5
  go_wp2_with fail
  refine bodyPost_ret (v := .tuple #[.agg #[.slice B0 l0_0.length d0, .int .i64 a0_1, .slice B2 l0_2.length d2, .int .i64 a0_3, .slice none 0 0, .int .i64 0], .int .i64 0]) ?_ rfl ?_
  · simp [results, Try.results83, go_sem, hc4, hc3, hc2, hc1, hy1, hz1, hy2, hz2, hy3, hz3, hy4, hz4]
  · refine ⟨_, _, _, rfl, ?_, ?_, ?_, ?_⟩
    · exact R_store6 HO0.out (fun k hk => ⟨hk.1, (fun e => by cases e)⟩) hz1 (by omega)
    · exact R_store6 HO2.out (fun k hk => ⟨hk.1, (fun e => by cases e)⟩) hz1 (by omega)
    · exact Kd.R_nil _ _ _ _ _
    · exact below_store6 HB4.out (by omega)

set_option maxHeartbeats 800000 in
set_option maxRecDepth 100000 in
theorem onFile_sync_0 (A0_0 : Option Addr) (c0_0 : Nat) (l0_0 : List Int) (a0_1 : Int) (A0_2 : Option Addr) (c0_2 : Nat) (l0_2 : List Int) (a0_3 : Int) (A0_4 : Option Addr) (c0_4 : Nat) (l0_4 : List Int) (a0_5 : Int) (w : World) (hr0_0 : Kd.C (Kd.int .u8) w A0_0 l0_0.length l0_0) (hc0_0 : l0_0.length ≤ c0_0) (hr0_2 : Kd.C (Kd.int .u8) w A0_2 l0_2.length l0_2) (hc0_2 : l0_2.length ≤ c0_2) (hr0_4 : Kd.C (Kd.int .u8) w A0_4 l0_4.length l0_4) (hc0_4 : l0_4.length ≤ c0_4) (hv : okDisk l0_0 a0_1 l0_2 a0_3 l0_4 a0_5 = true) :
    Calls Try.prog 83 #[.agg #[.slice A0_0 l0_0.length c0_0, .int .i64 a0_1, .slice A0_2 l0_2.length c0_2, .int .i64 a0_3, .slice A0_4 l0_4.length c0_4, .int .i64 a0_5], .int .i64 0, .func (Fn.func 87) #[] #[]] w fun e w' => ∃ v0_ v2_ v4_ : Value, e = .returned (.tuple #[.agg #[v0_, .int .i64 (l0_0.length : Int), v2_, .int .i64 a0_3, v4_, .int .i64 a0_5], .int .i64 0]) ∧ Kd.R (Kd.int .u8) 5 w' w.heap.size (fun k_ => some k_ ≠ (v2_ : Value).ownBlock ∧ some k_ ≠ (v4_ : Value).ownBlock) v0_ l0_0 ∧ Kd.R (Kd.int .u8) 5 w' w.heap.size (fun k_ => some k_ ≠ (v0_ : Value).ownBlock ∧ some k_ ≠ (v4_ : Value).ownBlock) v2_ l0_2 ∧ Kd.R (Kd.int .u8) 5 w' w.heap.size (fun k_ => some k_ ≠ (v0_ : Value).ownBlock ∧ some k_ ≠ (v2_ : Value).ownBlock) v4_ l0_4 ∧ Below w.heap.size w w' := by
  have HR0 := Aside0.mk hr0_0
  have HR2 := Aside0.mk hr0_2
  have HR4 := Aside0.mk hr0_4
  clear hr0_0 hr0_2 hr0_4
  obtain ⟨⟨x0, x1, x2⟩, ⟨y0, y1, y2⟩, ⟨z0, z1, z2⟩⟩ := okDisk_iff hv
  have HV := Aside0.mk hv
  clear hv
  go_enter Try.func83, Try.ntmps83
  go_wp2_with fail
  refine (validDisk_any _ _ _ _ _ _ _ _ _ _ _ _ _).mono ?_
  rintro e w1 ⟨rfl, hb⟩
  have hvv : (okFile l0_0.length a0_1 && (okFile l0_2.length a0_3 && okFile l0_4.length a0_5)) = true := HV.out
  rw [hvv]
  clear hvv
  have hB1 : Below w.heap.size w w1 := below_then (below_alloc (below_alloc (Below.refl _ _) _) _) (by simp; omega) hb
  have hz1 : w.heap.size + 1 < w1.heap.size := by have := hb.size; simp at this; omega
  have hy1 : w.heap.size < w1.heap.size := by omega
  obtain ⟨hc1, hf1⟩ := bcell hb
  have HB1 := Aside0.mk hB1
  clear hB1 hb
  go_wp2_with fail
  refine (driveOf_any A0_0 A0_2 A0_4 c0_0 c0_2 c0_4 l0_0 l0_2 l0_4 a0_1 a0_3 a0_5 w1 (Kd.C_below HR0.out HB1.out) hc0_0 (Kd.C_below HR2.out HB1.out) hc0_2 (Kd.C_below HR4.out HB1.out) hc0_4 x0 y0 z0).mono ?_
  rintro e w2 ⟨v0, v2, v4, rfl, ho0, ho2, ho4, hb⟩
  obtain ⟨B0, d0, rfl, hd0, hp0⟩ := Kd.R_reads ho0
  obtain ⟨B2, d2, rfl, hd2, hp2⟩ := Kd.R_reads ho2
  obtain ⟨B4, d4, rfl, hd4, hp4⟩ := Kd.R_reads ho4
  have hB2 : Below w.heap.size w w2 := below_then HB1.out (by omega) hb
  have hz2 : w.heap.size + 1 < w2.heap.size := by have := hb.size; omega
  have hy2 : w.heap.size < w2.heap.size := by omega
  obtain ⟨hc2, hf2⟩ := bcell hb
  have HB2 := Aside0.mk hB2
  have HO0 := Aside0.mk ho0
  have HO2 := Aside0.mk ho2
  have HO4 := Aside0.mk ho4
  have HP0 := Aside0.mk hp0
  have HP2 := Aside0.mk hp2
  have HP4 := Aside0.mk hp4
  clear hB2 hb ho0 ho2 ho4 hp0 hp2 hp4
  go_wp2_with fail
  refine (do_sync w2.heap.size 0 _ _ 75 _ _ _ _ (blk_new w2 _) rfl rfl).mono ?_
  rintro e w3 ⟨rfl, hB3, hb3⟩
  have hb : Below w2.heap.size w2 w3 := (below_alloc (Below.refl _ _) _).trans hB3
  have hB3' : Below w.heap.size w w3 := below_then HB2.out (by omega) hb
  have hz3 : w.heap.size + 1 < w3.heap.size := by have := hb.size; omega
  have hy3 : w.heap.size < w3.heap.size := by omega
  obtain ⟨hc3, hf3⟩ := bcell hb
  have k0 := blk_cell hb3 0
  have k1 := blk_cell hb3 1
  have k2 := blk_cell hb3 2
  have k3 := blk_cell hb3 3
  have k4 := blk_cell hb3 4
  have k5 := blk_cell hb3 5
  simp at k0 k1 k2 k3 k4 k5
  have HB3 := Aside0.mk hB3'
  have HO0' := Aside0.mk (Kd.R_below HO0.out hb)
  have HO2' := Aside0.mk (Kd.R_below HO2.out hb)
  have HO4' := Aside0.mk (Kd.R_below HO4.out hb)
  clear hB3 hb3 hb hB3' HO0 HO2 HO4
  go_wp2_with fail
  refine (drive_disk _ _ _ _ _ _ _ _ _ _ _ _ _).mono ?_
  rintro e w4 ⟨rfl, hb⟩
  have hB4 : Below w.heap.size w w4 := below_then HB3.out (by omega) hb
  have hz4 : w.heap.size + 1 < w4.heap.size := by have := hb.size; omega
  have hy4 : w.heap.size < w4.heap.size := by omega
  obtain ⟨hc4, hf4⟩ := bcell hb
  have HB4 := Aside0.mk hB4
  have HO0 := Aside0.mk (Kd.R_below HO0'.out hb)
  have HO2 := Aside0.mk (Kd.R_below HO2'.out hb)
  have HO4 := Aside0.mk (Kd.R_below HO4'.out hb)
  clear hB4 hb HO0' HO2' HO4' k0 k1 k2 k3 k4 k5
  go_wp2_with fail
  refine bodyPost_ret (v := .tuple #[.agg #[.slice B0 l0_0.length d0, .int .i64 (l0_0.length : Int), .slice B2 l0_2.length d2, .int .i64 a0_3, .slice B4 l0_4.length d4, .int .i64 a0_5], .int .i64 0]) ?_ rfl ?_
  · simp [results, Try.results83, go_sem, hc4, hc3, hc2, hc1, hy1, hz1, hy2, hz2, hy3, hz3, hy4, hz4]
  · refine ⟨_, _, _, rfl, ?_, ?_, ?_, ?_⟩
    · exact R_store6 HO0.out (fun k hk => hk) hz1 (by omega)
    · exact R_store6 HO2.out (fun k hk => hk) hz1 (by omega)
    · exact R_store6 HO4.out (fun k hk => hk) hz1 (by omega)
    · exact below_store6 HB4.out (by omega)

set_option maxHeartbeats 800000 in
set_option maxRecDepth 100000 in
theorem onFile_sync_1 (A0_0 : Option Addr) (c0_0 : Nat) (l0_0 : List Int) (a0_1 : Int) (A0_2 : Option Addr) (c0_2 : Nat) (l0_2 : List Int) (a0_3 : Int) (A0_4 : Option Addr) (c0_4 : Nat) (l0_4 : List Int) (a0_5 : Int) (w : World) (hr0_0 : Kd.C (Kd.int .u8) w A0_0 l0_0.length l0_0) (hc0_0 : l0_0.length ≤ c0_0) (hr0_2 : Kd.C (Kd.int .u8) w A0_2 l0_2.length l0_2) (hc0_2 : l0_2.length ≤ c0_2) (hr0_4 : Kd.C (Kd.int .u8) w A0_4 l0_4.length l0_4) (hc0_4 : l0_4.length ≤ c0_4) (hv : okDisk l0_0 a0_1 l0_2 a0_3 l0_4 a0_5 = true) :
    Calls Try.prog 83 #[.agg #[.slice A0_0 l0_0.length c0_0, .int .i64 a0_1, .slice A0_2 l0_2.length c0_2, .int .i64 a0_3, .slice A0_4 l0_4.length c0_4, .int .i64 a0_5], .int .i64 1, .func (Fn.func 87) #[] #[]] w fun e w' => ∃ v0_ v2_ v4_ : Value, e = .returned (.tuple #[.agg #[v0_, .int .i64 a0_1, v2_, .int .i64 (l0_2.length : Int), v4_, .int .i64 a0_5], .int .i64 0]) ∧ Kd.R (Kd.int .u8) 5 w' w.heap.size (fun k_ => some k_ ≠ (v2_ : Value).ownBlock ∧ some k_ ≠ (v4_ : Value).ownBlock) v0_ l0_0 ∧ Kd.R (Kd.int .u8) 5 w' w.heap.size (fun k_ => some k_ ≠ (v0_ : Value).ownBlock ∧ some k_ ≠ (v4_ : Value).ownBlock) v2_ l0_2 ∧ Kd.R (Kd.int .u8) 5 w' w.heap.size (fun k_ => some k_ ≠ (v0_ : Value).ownBlock ∧ some k_ ≠ (v2_ : Value).ownBlock) v4_ l0_4 ∧ Below w.heap.size w w' := by
  have HR0 := Aside0.mk hr0_0
  have HR2 := Aside0.mk hr0_2
  have HR4 := Aside0.mk hr0_4
  clear hr0_0 hr0_2 hr0_4
  obtain ⟨⟨x0, x1, x2⟩, ⟨y0, y1, y2⟩, ⟨z0, z1, z2⟩⟩ := okDisk_iff hv
  have HV := Aside0.mk hv
  clear hv
  go_enter Try.func83, Try.ntmps83
  go_wp2_with fail
  refine (validDisk_any _ _ _ _ _ _ _ _ _ _ _ _ _).mono ?_
  rintro e w1 ⟨rfl, hb⟩
  have hvv : (okFile l0_0.length a0_1 && (okFile l0_2.length a0_3 && okFile l0_4.length a0_5)) = true := HV.out
  rw [hvv]
  clear hvv
  have hB1 : Below w.heap.size w w1 := below_then (below_alloc (below_alloc (Below.refl _ _) _) _) (by simp; omega) hb
  have hz1 : w.heap.size + 1 < w1.heap.size := by have := hb.size; simp at this; omega
  have hy1 : w.heap.size < w1.heap.size := by omega
  obtain ⟨hc1, hf1⟩ := bcell hb
  have HB1 := Aside0.mk hB1
  clear hB1 hb
  go_wp2_with fail
  refine (driveOf_any A0_0 A0_2 A0_4 c0_0 c0_2 c0_4 l0_0 l0_2 l0_4 a0_1 a0_3 a0_5 w1 (Kd.C_below HR0.out HB1.out) hc0_0 (Kd.C_below HR2.out HB1.out) hc0_2 (Kd.C_below HR4.out HB1.out) hc0_4 x0 y0 z0).mono ?_
  rintro e w2 ⟨v0, v2, v4, rfl, ho0, ho2, ho4, hb⟩
  obtain ⟨B0, d0, rfl, hd0, hp0⟩ := Kd.R_reads ho0
  obtain ⟨B2, d2, rfl, hd2, hp2⟩ := Kd.R_reads ho2
  obtain ⟨B4, d4, rfl, hd4, hp4⟩ := Kd.R_reads ho4
  have hB2 : Below w.heap.size w w2 := below_then HB1.out (by omega) hb
  have hz2 : w.heap.size + 1 < w2.heap.size := by have := hb.size; omega
  have hy2 : w.heap.size < w2.heap.size := by omega
  obtain ⟨hc2, hf2⟩ := bcell hb
  have HB2 := Aside0.mk hB2
  have HO0 := Aside0.mk ho0
  have HO2 := Aside0.mk ho2
  have HO4 := Aside0.mk ho4
  have HP0 := Aside0.mk hp0
  have HP2 := Aside0.mk hp2
  have HP4 := Aside0.mk hp4
  clear hB2 hb ho0 ho2 ho4 hp0 hp2 hp4
  go_wp2_with fail
  refine (do_sync w2.heap.size 2 _ _ 75 _ _ _ _ (blk_new w2 _) rfl rfl).mono ?_
  rintro e w3 ⟨rfl, hB3, hb3⟩
  have hb : Below w2.heap.size w2 w3 := (below_alloc (Below.refl _ _) _).trans hB3
  have hB3' : Below w.heap.size w w3 := below_then HB2.out (by omega) hb
  have hz3 : w.heap.size + 1 < w3.heap.size := by have := hb.size; omega
  have hy3 : w.heap.size < w3.heap.size := by omega
  obtain ⟨hc3, hf3⟩ := bcell hb
  have k0 := blk_cell hb3 0
  have k1 := blk_cell hb3 1
  have k2 := blk_cell hb3 2
  have k3 := blk_cell hb3 3
  have k4 := blk_cell hb3 4
  have k5 := blk_cell hb3 5
  simp at k0 k1 k2 k3 k4 k5
  have HB3 := Aside0.mk hB3'
  have HO0' := Aside0.mk (Kd.R_below HO0.out hb)
  have HO2' := Aside0.mk (Kd.R_below HO2.out hb)
  have HO4' := Aside0.mk (Kd.R_below HO4.out hb)
  clear hB3 hb3 hb hB3' HO0 HO2 HO4
  go_wp2_with fail
  refine (drive_disk _ _ _ _ _ _ _ _ _ _ _ _ _).mono ?_
  rintro e w4 ⟨rfl, hb⟩
  have hB4 : Below w.heap.size w w4 := below_then HB3.out (by omega) hb
  have hz4 : w.heap.size + 1 < w4.heap.size := by have := hb.size; omega
  have hy4 : w.heap.size < w4.heap.size := by omega
  obtain ⟨hc4, hf4⟩ := bcell hb
  have HB4 := Aside0.mk hB4
  have HO0 := Aside0.mk (Kd.R_below HO0'.out hb)
  have HO2 := Aside0.mk (Kd.R_below HO2'.out hb)
  have HO4 := Aside0.mk (Kd.R_below HO4'.out hb)
  clear hB4 hb HO0' HO2' HO4' k0 k1 k2 k3 k4 k5
  go_wp2_with fail
  refine bodyPost_ret (v := .tuple #[.agg #[.slice B0 l0_0.length d0, .int .i64 a0_1, .slice B2 l0_2.length d2, .int .i64 (l0_2.length : Int), .slice B4 l0_4.length d4, .int .i64 a0_5], .int .i64 0]) ?_ rfl ?_
  · simp [results, Try.results83, go_sem, hc4, hc3, hc2, hc1, hy1, hz1, hy2, hz2, hy3, hz3, hy4, hz4]
  · refine ⟨_, _, _, rfl, ?_, ?_, ?_, ?_⟩
    · exact R_store6 HO0.out (fun k hk => hk) hz1 (by omega)
    · exact R_store6 HO2.out (fun k hk => hk) hz1 (by omega)
    · exact R_store6 HO4.out (fun k hk => hk) hz1 (by omega)
    · exact below_store6 HB4.out (by omega)

set_option maxHeartbeats 800000 in
set_option maxRecDepth 100000 in
theorem onFile_sync_2 (A0_0 : Option Addr) (c0_0 : Nat) (l0_0 : List Int) (a0_1 : Int) (A0_2 : Option Addr) (c0_2 : Nat) (l0_2 : List Int) (a0_3 : Int) (A0_4 : Option Addr) (c0_4 : Nat) (l0_4 : List Int) (a0_5 : Int) (w : World) (hr0_0 : Kd.C (Kd.int .u8) w A0_0 l0_0.length l0_0) (hc0_0 : l0_0.length ≤ c0_0) (hr0_2 : Kd.C (Kd.int .u8) w A0_2 l0_2.length l0_2) (hc0_2 : l0_2.length ≤ c0_2) (hr0_4 : Kd.C (Kd.int .u8) w A0_4 l0_4.length l0_4) (hc0_4 : l0_4.length ≤ c0_4) (hv : okDisk l0_0 a0_1 l0_2 a0_3 l0_4 a0_5 = true) :
    Calls Try.prog 83 #[.agg #[.slice A0_0 l0_0.length c0_0, .int .i64 a0_1, .slice A0_2 l0_2.length c0_2, .int .i64 a0_3, .slice A0_4 l0_4.length c0_4, .int .i64 a0_5], .int .i64 2, .func (Fn.func 87) #[] #[]] w fun e w' => ∃ v0_ v2_ v4_ : Value, e = .returned (.tuple #[.agg #[v0_, .int .i64 a0_1, v2_, .int .i64 a0_3, v4_, .int .i64 (l0_4.length : Int)], .int .i64 0]) ∧ Kd.R (Kd.int .u8) 5 w' w.heap.size (fun k_ => some k_ ≠ (v2_ : Value).ownBlock ∧ some k_ ≠ (v4_ : Value).ownBlock) v0_ l0_0 ∧ Kd.R (Kd.int .u8) 5 w' w.heap.size (fun k_ => some k_ ≠ (v0_ : Value).ownBlock ∧ some k_ ≠ (v4_ : Value).ownBlock) v2_ l0_2 ∧ Kd.R (Kd.int .u8) 5 w' w.heap.size (fun k_ => some k_ ≠ (v0_ : Value).ownBlock ∧ some k_ ≠ (v2_ : Value).ownBlock) v4_ l0_4 ∧ Below w.heap.size w w' := by
  have HR0 := Aside0.mk hr0_0
  have HR2 := Aside0.mk hr0_2
  have HR4 := Aside0.mk hr0_4
  clear hr0_0 hr0_2 hr0_4
  obtain ⟨⟨x0, x1, x2⟩, ⟨y0, y1, y2⟩, ⟨z0, z1, z2⟩⟩ := okDisk_iff hv
  have HV := Aside0.mk hv
  clear hv
  go_enter Try.func83, Try.ntmps83
  go_wp2_with fail
  refine (validDisk_any _ _ _ _ _ _ _ _ _ _ _ _ _).mono ?_
  rintro e w1 ⟨rfl, hb⟩
  have hvv : (okFile l0_0.length a0_1 && (okFile l0_2.length a0_3 && okFile l0_4.length a0_5)) = true := HV.out
  rw [hvv]
  clear hvv
  have hB1 : Below w.heap.size w w1 := below_then (below_alloc (below_alloc (Below.refl _ _) _) _) (by simp; omega) hb
  have hz1 : w.heap.size + 1 < w1.heap.size := by have := hb.size; simp at this; omega
  have hy1 : w.heap.size < w1.heap.size := by omega
  obtain ⟨hc1, hf1⟩ := bcell hb
  have HB1 := Aside0.mk hB1
  clear hB1 hb
  go_wp2_with fail
  refine (driveOf_any A0_0 A0_2 A0_4 c0_0 c0_2 c0_4 l0_0 l0_2 l0_4 a0_1 a0_3 a0_5 w1 (Kd.C_below HR0.out HB1.out) hc0_0 (Kd.C_below HR2.out HB1.out) hc0_2 (Kd.C_below HR4.out HB1.out) hc0_4 x0 y0 z0).mono ?_
  rintro e w2 ⟨v0, v2, v4, rfl, ho0, ho2, ho4, hb⟩
  obtain ⟨B0, d0, rfl, hd0, hp0⟩ := Kd.R_reads ho0
  obtain ⟨B2, d2, rfl, hd2, hp2⟩ := Kd.R_reads ho2
  obtain ⟨B4, d4, rfl, hd4, hp4⟩ := Kd.R_reads ho4
  have hB2 : Below w.heap.size w w2 := below_then HB1.out (by omega) hb
  have hz2 : w.heap.size + 1 < w2.heap.size := by have := hb.size; omega
  have hy2 : w.heap.size < w2.heap.size := by omega
  obtain ⟨hc2, hf2⟩ := bcell hb
  have HB2 := Aside0.mk hB2
  have HO0 := Aside0.mk ho0
  have HO2 := Aside0.mk ho2
  have HO4 := Aside0.mk ho4
  have HP0 := Aside0.mk hp0
  have HP2 := Aside0.mk hp2
  have HP4 := Aside0.mk hp4
  clear hB2 hb ho0 ho2 ho4 hp0 hp2 hp4
  go_wp2_with fail
  refine (do_sync w2.heap.size 4 _ _ 75 _ _ _ _ (blk_new w2 _) rfl rfl).mono ?_
  rintro e w3 ⟨rfl, hB3, hb3⟩
  have hb : Below w2.heap.size w2 w3 := (below_alloc (Below.refl _ _) _).trans hB3
  have hB3' : Below w.heap.size w w3 := below_then HB2.out (by omega) hb
  have hz3 : w.heap.size + 1 < w3.heap.size := by have := hb.size; omega
  have hy3 : w.heap.size < w3.heap.size := by omega
  obtain ⟨hc3, hf3⟩ := bcell hb
  have k0 := blk_cell hb3 0
  have k1 := blk_cell hb3 1
  have k2 := blk_cell hb3 2
  have k3 := blk_cell hb3 3
  have k4 := blk_cell hb3 4
  have k5 := blk_cell hb3 5
  simp at k0 k1 k2 k3 k4 k5
  have HB3 := Aside0.mk hB3'
  have HO0' := Aside0.mk (Kd.R_below HO0.out hb)
  have HO2' := Aside0.mk (Kd.R_below HO2.out hb)
  have HO4' := Aside0.mk (Kd.R_below HO4.out hb)
  clear hB3 hb3 hb hB3' HO0 HO2 HO4
  go_wp2_with fail
  refine (drive_disk _ _ _ _ _ _ _ _ _ _ _ _ _).mono ?_
  rintro e w4 ⟨rfl, hb⟩
  have hB4 : Below w.heap.size w w4 := below_then HB3.out (by omega) hb
  have hz4 : w.heap.size + 1 < w4.heap.size := by have := hb.size; omega
  have hy4 : w.heap.size < w4.heap.size := by omega
  obtain ⟨hc4, hf4⟩ := bcell hb
  have HB4 := Aside0.mk hB4
  have HO0 := Aside0.mk (Kd.R_below HO0'.out hb)
  have HO2 := Aside0.mk (Kd.R_below HO2'.out hb)
  have HO4 := Aside0.mk (Kd.R_below HO4'.out hb)
  clear hB4 hb HO0' HO2' HO4' k0 k1 k2 k3 k4 k5
  go_wp2_with fail
  refine bodyPost_ret (v := .tuple #[.agg #[.slice B0 l0_0.length d0, .int .i64 a0_1, .slice B2 l0_2.length d2, .int .i64 a0_3, .slice B4 l0_4.length d4, .int .i64 (l0_4.length : Int)], .int .i64 0]) ?_ rfl ?_
  · simp [results, Try.results83, go_sem, hc4, hc3, hc2, hc1, hy1, hz1, hy2, hz2, hy3, hz3, hy4, hz4]
  · refine ⟨_, _, _, rfl, ?_, ?_, ?_, ?_⟩
    · exact R_store6 HO0.out (fun k hk => hk) hz1 (by omega)
    · exact R_store6 HO2.out (fun k hk => hk) hz1 (by omega)
    · exact R_store6 HO4.out (fun k hk => hk) hz1 (by omega)
    · exact below_store6 HB4.out (by omega)

set_option maxHeartbeats 800000 in
set_option maxRecDepth 100000 in
theorem onFile_no_0 (A0_0 : Option Addr) (c0_0 : Nat) (l0_0 : List Int) (a0_1 : Int) (A0_2 : Option Addr) (c0_2 : Nat) (l0_2 : List Int) (a0_3 : Int) (A0_4 : Option Addr) (c0_4 : Nat) (l0_4 : List Int) (a0_5 : Int) (bb : Nat) (A2 : Option Addr) (c2 : Nat) (b : List Int) (w : World) (hr0_0 : Kd.C (Kd.int .u8) w A0_0 l0_0.length l0_0) (hc0_0 : l0_0.length ≤ c0_0) (hr0_2 : Kd.C (Kd.int .u8) w A0_2 l0_2.length l0_2) (hc0_2 : l0_2.length ≤ c0_2) (hr0_4 : Kd.C (Kd.int .u8) w A0_4 l0_4.length l0_4) (hc0_4 : l0_4.length ≤ c0_4) (hbb : w.cell? ⟨bb, 0, none⟩ = some (.slice A2 b.length c2)) (hlt : bb < w.heap.size) (hrb : Kd.C (Kd.int .u8) w A2 b.length b) (hcb : b.length ≤ c2) (hx : 200000 < l0_0.length + b.length) (hbl : b.length ≤ 140737488355328) (hv : okDisk l0_0 a0_1 l0_2 a0_3 l0_4 a0_5 = true) :
    Calls Try.prog 83 #[.agg #[.slice A0_0 l0_0.length c0_0, .int .i64 a0_1, .slice A0_2 l0_2.length c0_2, .int .i64 a0_3, .slice A0_4 l0_4.length c0_4, .int .i64 a0_5], .int .i64 0, .func (Fn.func 90) #[] #[.pointer (some ⟨bb, 0, none⟩)]] w fun e w' => ∃ v0_ v2_ v4_ : Value, e = .returned (.tuple #[.agg #[v0_, .int .i64 a0_1, v2_, .int .i64 a0_3, v4_, .int .i64 a0_5], .int .i64 11]) ∧ Kd.R (Kd.int .u8) 5 w' w.heap.size (fun k_ => some k_ ≠ (v2_ : Value).ownBlock ∧ some k_ ≠ (v4_ : Value).ownBlock) v0_ l0_0 ∧ Kd.R (Kd.int .u8) 5 w' w.heap.size (fun k_ => some k_ ≠ (v0_ : Value).ownBlock ∧ some k_ ≠ (v4_ : Value).ownBlock) v2_ l0_2 ∧ Kd.R (Kd.int .u8) 5 w' w.heap.size (fun k_ => some k_ ≠ (v0_ : Value).ownBlock ∧ some k_ ≠ (v2_ : Value).ownBlock) v4_ l0_4 ∧ Below w.heap.size w w' := by
  have HR0 := Aside0.mk hr0_0
  have HR2 := Aside0.mk hr0_2
  have HR4 := Aside0.mk hr0_4
  clear hr0_0 hr0_2 hr0_4
  have HBB := Aside0.mk hbb
  have HRB := Aside0.mk hrb
  clear hbb hrb
  obtain ⟨⟨x0, x1, x2⟩, ⟨y0, y1, y2⟩, ⟨z0, z1, z2⟩⟩ := okDisk_iff hv
  have HV := Aside0.mk hv
  clear hv
  go_enter Try.func83, Try.ntmps83
  go_wp2_with fail
  refine (validDisk_any _ _ _ _ _ _ _ _ _ _ _ _ _).mono ?_
  rintro e w1 ⟨rfl, hb⟩
  have hvv : (okFile l0_0.length a0_1 && (okFile l0_2.length a0_3 && okFile l0_4.length a0_5)) = true := HV.out
  rw [hvv]
  clear hvv
  have hB1 : Below w.heap.size w w1 := below_then (below_alloc (below_alloc (Below.refl _ _) _) _) (by simp; omega) hb
  have hz1 : w.heap.size + 1 < w1.heap.size := by have := hb.size; simp at this; omega
  have hy1 : w.heap.size < w1.heap.size := by omega
  obtain ⟨hc1, hf1⟩ := bcell hb
  have HB1 := Aside0.mk hB1
  clear hB1 hb
  go_wp2_with fail
  refine (driveOf_any A0_0 A0_2 A0_4 c0_0 c0_2 c0_4 l0_0 l0_2 l0_4 a0_1 a0_3 a0_5 w1 (Kd.C_below HR0.out HB1.out) hc0_0 (Kd.C_below HR2.out HB1.out) hc0_2 (Kd.C_below HR4.out HB1.out) hc0_4 x0 y0 z0).mono ?_
  rintro e w2 ⟨v0, v2, v4, rfl, ho0, ho2, ho4, hb⟩
  obtain ⟨B0, d0, rfl, hd0, hp0⟩ := Kd.R_reads ho0
  obtain ⟨B2, d2, rfl, hd2, hp2⟩ := Kd.R_reads ho2
  obtain ⟨B4, d4, rfl, hd4, hp4⟩ := Kd.R_reads ho4
  have hB2 : Below w.heap.size w w2 := below_then HB1.out (by omega) hb
  have hz2 : w.heap.size + 1 < w2.heap.size := by have := hb.size; omega
  have hy2 : w.heap.size < w2.heap.size := by omega
  obtain ⟨hc2, hf2⟩ := bcell hb
  have HB2 := Aside0.mk hB2
  have HO0 := Aside0.mk ho0
  have HO2 := Aside0.mk ho2
  have HO4 := Aside0.mk ho4
  have HP0 := Aside0.mk hp0
  have HP2 := Aside0.mk hp2
  have HP4 := Aside0.mk hp4
  clear hB2 hb ho0 ho2 ho4 hp0 hp2 hp4
  go_wp2_with fail
  refine (do_append_no w2.heap.size 0 _ _ _ _ 75 bb _ _ _ _ (blk_new w2 _) rfl (((below_alloc (Below.refl _ _) _).cell (p := ⟨bb, 0, none⟩) (by show bb < _; omega)).trans ((HB2.out.cell (p := ⟨bb, 0, none⟩) hlt).trans HBB.out)) (by omega) hbl hx).mono ?_
  rintro e w3 ⟨rfl, rfl⟩
  have hB3 := below_alloc (Below.refl w2.heap.size w2) (.cells #[.slice B0 l0_0.length d0, .int .i64 a0_1, .slice B2 l0_2.length d2, .int .i64 a0_3, .slice B4 l0_4.length d4, .int .i64 a0_5] 75)
  have hb3 := blk_new w2 (.cells #[.slice B0 l0_0.length d0, .int .i64 a0_1, .slice B2 l0_2.length d2, .int .i64 a0_3, .slice B4 l0_4.length d4, .int .i64 a0_5] 75)
  generalize (w2.alloc (.cells #[.slice B0 l0_0.length d0, .int .i64 a0_1, .slice B2 l0_2.length d2, .int .i64 a0_3, .slice B4 l0_4.length d4, .int .i64 a0_5] 75)) = w3 at *
  have hb : Below w2.heap.size w2 w3 := hB3
  have hB3' : Below w.heap.size w w3 := below_then HB2.out (by omega) hb
  have hz3 : w.heap.size + 1 < w3.heap.size := by have := hb.size; omega
  have hy3 : w.heap.size < w3.heap.size := by omega
  obtain ⟨hc3, hf3⟩ := bcell hb
  have k0 := blk_cell hb3 0
  have k1 := blk_cell hb3 1
  have k2 := blk_cell hb3 2
  have k3 := blk_cell hb3 3
  have k4 := blk_cell hb3 4
  have k5 := blk_cell hb3 5
  simp at k0 k1 k2 k3 k4 k5
  have HB3 := Aside0.mk hB3'
  have HO0' := Aside0.mk (Kd.R_below HO0.out hb)
  have HO2' := Aside0.mk (Kd.R_below HO2.out hb)
  have HO4' := Aside0.mk (Kd.R_below HO4.out hb)
  clear hB3 hb3 hb hB3' HO0 HO2 HO4
  go_wp2_with fail
  refine (drive_disk _ _ _ _ _ _ _ _ _ _ _ _ _).mono ?_
  rintro e w4 ⟨rfl, hb⟩
  have hB4 : Below w.heap.size w w4 := below_then HB3.out (by omega) hb
  have hz4 : w.heap.size + 1 < w4.heap.size := by have := hb.size; omega
  have hy4 : w.heap.size < w4.heap.size := by omega
  obtain ⟨hc4, hf4⟩ := bcell hb
  have HB4 := Aside0.mk hB4
  have HO0 := Aside0.mk (Kd.R_below HO0'.out hb)
  have HO2 := Aside0.mk (Kd.R_below HO2'.out hb)
  have HO4 := Aside0.mk (Kd.R_below HO4'.out hb)
  clear hB4 hb HO0' HO2' HO4' k0 k1 k2 k3 k4 k5
  go_wp2_with fail
  refine bodyPost_ret (v := .tuple #[.agg #[.slice B0 l0_0.length d0, .int .i64 a0_1, .slice B2 l0_2.length d2, .int .i64 a0_3, .slice B4 l0_4.length d4, .int .i64 a0_5], .int .i64 11]) ?_ rfl ?_
  · simp [results, Try.results83, go_sem, hc4, hc3, hc2, hc1, hy1, hz1, hy2, hz2, hy3, hz3, hy4, hz4]
  · refine ⟨_, _, _, rfl, ?_, ?_, ?_, ?_⟩
    · exact R_store6 HO0.out (fun k hk => hk) hz1 (by omega)
    · exact R_store6 HO2.out (fun k hk => hk) hz1 (by omega)
    · exact R_store6 HO4.out (fun k hk => hk) hz1 (by omega)
    · exact below_store6 HB4.out (by omega)

set_option maxHeartbeats 800000 in
set_option maxRecDepth 100000 in
theorem onFile_no_1 (A0_0 : Option Addr) (c0_0 : Nat) (l0_0 : List Int) (a0_1 : Int) (A0_2 : Option Addr) (c0_2 : Nat) (l0_2 : List Int) (a0_3 : Int) (A0_4 : Option Addr) (c0_4 : Nat) (l0_4 : List Int) (a0_5 : Int) (bb : Nat) (A2 : Option Addr) (c2 : Nat) (b : List Int) (w : World) (hr0_0 : Kd.C (Kd.int .u8) w A0_0 l0_0.length l0_0) (hc0_0 : l0_0.length ≤ c0_0) (hr0_2 : Kd.C (Kd.int .u8) w A0_2 l0_2.length l0_2) (hc0_2 : l0_2.length ≤ c0_2) (hr0_4 : Kd.C (Kd.int .u8) w A0_4 l0_4.length l0_4) (hc0_4 : l0_4.length ≤ c0_4) (hbb : w.cell? ⟨bb, 0, none⟩ = some (.slice A2 b.length c2)) (hlt : bb < w.heap.size) (hrb : Kd.C (Kd.int .u8) w A2 b.length b) (hcb : b.length ≤ c2) (hx : 200000 < l0_2.length + b.length) (hbl : b.length ≤ 140737488355328) (hv : okDisk l0_0 a0_1 l0_2 a0_3 l0_4 a0_5 = true) :
    Calls Try.prog 83 #[.agg #[.slice A0_0 l0_0.length c0_0, .int .i64 a0_1, .slice A0_2 l0_2.length c0_2, .int .i64 a0_3, .slice A0_4 l0_4.length c0_4, .int .i64 a0_5], .int .i64 1, .func (Fn.func 90) #[] #[.pointer (some ⟨bb, 0, none⟩)]] w fun e w' => ∃ v0_ v2_ v4_ : Value, e = .returned (.tuple #[.agg #[v0_, .int .i64 a0_1, v2_, .int .i64 a0_3, v4_, .int .i64 a0_5], .int .i64 11]) ∧ Kd.R (Kd.int .u8) 5 w' w.heap.size (fun k_ => some k_ ≠ (v2_ : Value).ownBlock ∧ some k_ ≠ (v4_ : Value).ownBlock) v0_ l0_0 ∧ Kd.R (Kd.int .u8) 5 w' w.heap.size (fun k_ => some k_ ≠ (v0_ : Value).ownBlock ∧ some k_ ≠ (v4_ : Value).ownBlock) v2_ l0_2 ∧ Kd.R (Kd.int .u8) 5 w' w.heap.size (fun k_ => some k_ ≠ (v0_ : Value).ownBlock ∧ some k_ ≠ (v2_ : Value).ownBlock) v4_ l0_4 ∧ Below w.heap.size w w' := by
  have HR0 := Aside0.mk hr0_0
  have HR2 := Aside0.mk hr0_2
  have HR4 := Aside0.mk hr0_4
  clear hr0_0 hr0_2 hr0_4
  have HBB := Aside0.mk hbb
  have HRB := Aside0.mk hrb
  clear hbb hrb
  obtain ⟨⟨x0, x1, x2⟩, ⟨y0, y1, y2⟩, ⟨z0, z1, z2⟩⟩ := okDisk_iff hv
  have HV := Aside0.mk hv
  clear hv
  go_enter Try.func83, Try.ntmps83
  go_wp2_with fail
  refine (validDisk_any _ _ _ _ _ _ _ _ _ _ _ _ _).mono ?_
  rintro e w1 ⟨rfl, hb⟩
  have hvv : (okFile l0_0.length a0_1 && (okFile l0_2.length a0_3 && okFile l0_4.length a0_5)) = true := HV.out
  rw [hvv]
  clear hvv
  have hB1 : Below w.heap.size w w1 := below_then (below_alloc (below_alloc (Below.refl _ _) _) _) (by simp; omega) hb
  have hz1 : w.heap.size + 1 < w1.heap.size := by have := hb.size; simp at this; omega
  have hy1 : w.heap.size < w1.heap.size := by omega
  obtain ⟨hc1, hf1⟩ := bcell hb
  have HB1 := Aside0.mk hB1
  clear hB1 hb
  go_wp2_with fail
  refine (driveOf_any A0_0 A0_2 A0_4 c0_0 c0_2 c0_4 l0_0 l0_2 l0_4 a0_1 a0_3 a0_5 w1 (Kd.C_below HR0.out HB1.out) hc0_0 (Kd.C_below HR2.out HB1.out) hc0_2 (Kd.C_below HR4.out HB1.out) hc0_4 x0 y0 z0).mono ?_
  rintro e w2 ⟨v0, v2, v4, rfl, ho0, ho2, ho4, hb⟩
  obtain ⟨B0, d0, rfl, hd0, hp0⟩ := Kd.R_reads ho0
  obtain ⟨B2, d2, rfl, hd2, hp2⟩ := Kd.R_reads ho2
  obtain ⟨B4, d4, rfl, hd4, hp4⟩ := Kd.R_reads ho4
  have hB2 : Below w.heap.size w w2 := below_then HB1.out (by omega) hb
  have hz2 : w.heap.size + 1 < w2.heap.size := by have := hb.size; omega
  have hy2 : w.heap.size < w2.heap.size := by omega
  obtain ⟨hc2, hf2⟩ := bcell hb
  have HB2 := Aside0.mk hB2
  have HO0 := Aside0.mk ho0
  have HO2 := Aside0.mk ho2
  have HO4 := Aside0.mk ho4
  have HP0 := Aside0.mk hp0
  have HP2 := Aside0.mk hp2
  have HP4 := Aside0.mk hp4
  clear hB2 hb ho0 ho2 ho4 hp0 hp2 hp4
  go_wp2_with fail
  refine (do_append_no w2.heap.size 2 _ _ _ _ 75 bb _ _ _ _ (blk_new w2 _) rfl (((below_alloc (Below.refl _ _) _).cell (p := ⟨bb, 0, none⟩) (by show bb < _; omega)).trans ((HB2.out.cell (p := ⟨bb, 0, none⟩) hlt).trans HBB.out)) (by omega) hbl hx).mono ?_
  rintro e w3 ⟨rfl, rfl⟩
  have hB3 := below_alloc (Below.refl w2.heap.size w2) (.cells #[.slice B0 l0_0.length d0, .int .i64 a0_1, .slice B2 l0_2.length d2, .int .i64 a0_3, .slice B4 l0_4.length d4, .int .i64 a0_5] 75)
  have hb3 := blk_new w2 (.cells #[.slice B0 l0_0.length d0, .int .i64 a0_1, .slice B2 l0_2.length d2, .int .i64 a0_3, .slice B4 l0_4.length d4, .int .i64 a0_5] 75)
  generalize (w2.alloc (.cells #[.slice B0 l0_0.length d0, .int .i64 a0_1, .slice B2 l0_2.length d2, .int .i64 a0_3, .slice B4 l0_4.length d4, .int .i64 a0_5] 75)) = w3 at *
  have hb : Below w2.heap.size w2 w3 := hB3
  have hB3' : Below w.heap.size w w3 := below_then HB2.out (by omega) hb
  have hz3 : w.heap.size + 1 < w3.heap.size := by have := hb.size; omega
  have hy3 : w.heap.size < w3.heap.size := by omega
  obtain ⟨hc3, hf3⟩ := bcell hb
  have k0 := blk_cell hb3 0
  have k1 := blk_cell hb3 1
  have k2 := blk_cell hb3 2
  have k3 := blk_cell hb3 3
  have k4 := blk_cell hb3 4
  have k5 := blk_cell hb3 5
  simp at k0 k1 k2 k3 k4 k5
  have HB3 := Aside0.mk hB3'
  have HO0' := Aside0.mk (Kd.R_below HO0.out hb)
  have HO2' := Aside0.mk (Kd.R_below HO2.out hb)
  have HO4' := Aside0.mk (Kd.R_below HO4.out hb)
  clear hB3 hb3 hb hB3' HO0 HO2 HO4
  go_wp2_with fail
  refine (drive_disk _ _ _ _ _ _ _ _ _ _ _ _ _).mono ?_
  rintro e w4 ⟨rfl, hb⟩
  have hB4 : Below w.heap.size w w4 := below_then HB3.out (by omega) hb
  have hz4 : w.heap.size + 1 < w4.heap.size := by have := hb.size; omega
  have hy4 : w.heap.size < w4.heap.size := by omega
  obtain ⟨hc4, hf4⟩ := bcell hb
  have HB4 := Aside0.mk hB4
  have HO0 := Aside0.mk (Kd.R_below HO0'.out hb)
  have HO2 := Aside0.mk (Kd.R_below HO2'.out hb)
  have HO4 := Aside0.mk (Kd.R_below HO4'.out hb)
  clear hB4 hb HO0' HO2' HO4' k0 k1 k2 k3 k4 k5
  go_wp2_with fail
  refine bodyPost_ret (v := .tuple #[.agg #[.slice B0 l0_0.length d0, .int .i64 a0_1, .slice B2 l0_2.length d2, .int .i64 a0_3, .slice B4 l0_4.length d4, .int .i64 a0_5], .int .i64 11]) ?_ rfl ?_
  · simp [results, Try.results83, go_sem, hc4, hc3, hc2, hc1, hy1, hz1, hy2, hz2, hy3, hz3, hy4, hz4]
  · refine ⟨_, _, _, rfl, ?_, ?_, ?_, ?_⟩
    · exact R_store6 HO0.out (fun k hk => hk) hz1 (by omega)
    · exact R_store6 HO2.out (fun k hk => hk) hz1 (by omega)
    · exact R_store6 HO4.out (fun k hk => hk) hz1 (by omega)
    · exact below_store6 HB4.out (by omega)

set_option maxHeartbeats 800000 in
set_option maxRecDepth 100000 in
theorem onFile_no_2 (A0_0 : Option Addr) (c0_0 : Nat) (l0_0 : List Int) (a0_1 : Int) (A0_2 : Option Addr) (c0_2 : Nat) (l0_2 : List Int) (a0_3 : Int) (A0_4 : Option Addr) (c0_4 : Nat) (l0_4 : List Int) (a0_5 : Int) (bb : Nat) (A2 : Option Addr) (c2 : Nat) (b : List Int) (w : World) (hr0_0 : Kd.C (Kd.int .u8) w A0_0 l0_0.length l0_0) (hc0_0 : l0_0.length ≤ c0_0) (hr0_2 : Kd.C (Kd.int .u8) w A0_2 l0_2.length l0_2) (hc0_2 : l0_2.length ≤ c0_2) (hr0_4 : Kd.C (Kd.int .u8) w A0_4 l0_4.length l0_4) (hc0_4 : l0_4.length ≤ c0_4) (hbb : w.cell? ⟨bb, 0, none⟩ = some (.slice A2 b.length c2)) (hlt : bb < w.heap.size) (hrb : Kd.C (Kd.int .u8) w A2 b.length b) (hcb : b.length ≤ c2) (hx : 200000 < l0_4.length + b.length) (hbl : b.length ≤ 140737488355328) (hv : okDisk l0_0 a0_1 l0_2 a0_3 l0_4 a0_5 = true) :
    Calls Try.prog 83 #[.agg #[.slice A0_0 l0_0.length c0_0, .int .i64 a0_1, .slice A0_2 l0_2.length c0_2, .int .i64 a0_3, .slice A0_4 l0_4.length c0_4, .int .i64 a0_5], .int .i64 2, .func (Fn.func 90) #[] #[.pointer (some ⟨bb, 0, none⟩)]] w fun e w' => ∃ v0_ v2_ v4_ : Value, e = .returned (.tuple #[.agg #[v0_, .int .i64 a0_1, v2_, .int .i64 a0_3, v4_, .int .i64 a0_5], .int .i64 11]) ∧ Kd.R (Kd.int .u8) 5 w' w.heap.size (fun k_ => some k_ ≠ (v2_ : Value).ownBlock ∧ some k_ ≠ (v4_ : Value).ownBlock) v0_ l0_0 ∧ Kd.R (Kd.int .u8) 5 w' w.heap.size (fun k_ => some k_ ≠ (v0_ : Value).ownBlock ∧ some k_ ≠ (v4_ : Value).ownBlock) v2_ l0_2 ∧ Kd.R (Kd.int .u8) 5 w' w.heap.size (fun k_ => some k_ ≠ (v0_ : Value).ownBlock ∧ some k_ ≠ (v2_ : Value).ownBlock) v4_ l0_4 ∧ Below w.heap.size w w' := by
  have HR0 := Aside0.mk hr0_0
  have HR2 := Aside0.mk hr0_2
  have HR4 := Aside0.mk hr0_4
  clear hr0_0 hr0_2 hr0_4
  have HBB := Aside0.mk hbb
  have HRB := Aside0.mk hrb
  clear hbb hrb
  obtain ⟨⟨x0, x1, x2⟩, ⟨y0, y1, y2⟩, ⟨z0, z1, z2⟩⟩ := okDisk_iff hv
  have HV := Aside0.mk hv
  clear hv
  go_enter Try.func83, Try.ntmps83
  go_wp2_with fail
  refine (validDisk_any _ _ _ _ _ _ _ _ _ _ _ _ _).mono ?_
  rintro e w1 ⟨rfl, hb⟩
  have hvv : (okFile l0_0.length a0_1 && (okFile l0_2.length a0_3 && okFile l0_4.length a0_5)) = true := HV.out
  rw [hvv]
  clear hvv
  have hB1 : Below w.heap.size w w1 := below_then (below_alloc (below_alloc (Below.refl _ _) _) _) (by simp; omega) hb
  have hz1 : w.heap.size + 1 < w1.heap.size := by have := hb.size; simp at this; omega
  have hy1 : w.heap.size < w1.heap.size := by omega
  obtain ⟨hc1, hf1⟩ := bcell hb
  have HB1 := Aside0.mk hB1
  clear hB1 hb
  go_wp2_with fail
  refine (driveOf_any A0_0 A0_2 A0_4 c0_0 c0_2 c0_4 l0_0 l0_2 l0_4 a0_1 a0_3 a0_5 w1 (Kd.C_below HR0.out HB1.out) hc0_0 (Kd.C_below HR2.out HB1.out) hc0_2 (Kd.C_below HR4.out HB1.out) hc0_4 x0 y0 z0).mono ?_
  rintro e w2 ⟨v0, v2, v4, rfl, ho0, ho2, ho4, hb⟩
  obtain ⟨B0, d0, rfl, hd0, hp0⟩ := Kd.R_reads ho0
  obtain ⟨B2, d2, rfl, hd2, hp2⟩ := Kd.R_reads ho2
  obtain ⟨B4, d4, rfl, hd4, hp4⟩ := Kd.R_reads ho4
  have hB2 : Below w.heap.size w w2 := below_then HB1.out (by omega) hb
  have hz2 : w.heap.size + 1 < w2.heap.size := by have := hb.size; omega
  have hy2 : w.heap.size < w2.heap.size := by omega
  obtain ⟨hc2, hf2⟩ := bcell hb
  have HB2 := Aside0.mk hB2
  have HO0 := Aside0.mk ho0
  have HO2 := Aside0.mk ho2
  have HO4 := Aside0.mk ho4
  have HP0 := Aside0.mk hp0
  have HP2 := Aside0.mk hp2
  have HP4 := Aside0.mk hp4
  clear hB2 hb ho0 ho2 ho4 hp0 hp2 hp4
  go_wp2_with fail
  refine (do_append_no w2.heap.size 4 _ _ _ _ 75 bb _ _ _ _ (blk_new w2 _) rfl (((below_alloc (Below.refl _ _) _).cell (p := ⟨bb, 0, none⟩) (by show bb < _; omega)).trans ((HB2.out.cell (p := ⟨bb, 0, none⟩) hlt).trans HBB.out)) (by omega) hbl hx).mono ?_
  rintro e w3 ⟨rfl, rfl⟩
  have hB3 := below_alloc (Below.refl w2.heap.size w2) (.cells #[.slice B0 l0_0.length d0, .int .i64 a0_1, .slice B2 l0_2.length d2, .int .i64 a0_3, .slice B4 l0_4.length d4, .int .i64 a0_5] 75)
  have hb3 := blk_new w2 (.cells #[.slice B0 l0_0.length d0, .int .i64 a0_1, .slice B2 l0_2.length d2, .int .i64 a0_3, .slice B4 l0_4.length d4, .int .i64 a0_5] 75)
  generalize (w2.alloc (.cells #[.slice B0 l0_0.length d0, .int .i64 a0_1, .slice B2 l0_2.length d2, .int .i64 a0_3, .slice B4 l0_4.length d4, .int .i64 a0_5] 75)) = w3 at *
  have hb : Below w2.heap.size w2 w3 := hB3
  have hB3' : Below w.heap.size w w3 := below_then HB2.out (by omega) hb
  have hz3 : w.heap.size + 1 < w3.heap.size := by have := hb.size; omega
  have hy3 : w.heap.size < w3.heap.size := by omega
  obtain ⟨hc3, hf3⟩ := bcell hb
  have k0 := blk_cell hb3 0
  have k1 := blk_cell hb3 1
  have k2 := blk_cell hb3 2
  have k3 := blk_cell hb3 3
  have k4 := blk_cell hb3 4
  have k5 := blk_cell hb3 5
  simp at k0 k1 k2 k3 k4 k5
  have HB3 := Aside0.mk hB3'
  have HO0' := Aside0.mk (Kd.R_below HO0.out hb)
  have HO2' := Aside0.mk (Kd.R_below HO2.out hb)
  have HO4' := Aside0.mk (Kd.R_below HO4.out hb)
  clear hB3 hb3 hb hB3' HO0 HO2 HO4
  go_wp2_with fail
  refine (drive_disk _ _ _ _ _ _ _ _ _ _ _ _ _).mono ?_
  rintro e w4 ⟨rfl, hb⟩
  have hB4 : Below w.heap.size w w4 := below_then HB3.out (by omega) hb
  have hz4 : w.heap.size + 1 < w4.heap.size := by have := hb.size; omega
  have hy4 : w.heap.size < w4.heap.size := by omega
  obtain ⟨hc4, hf4⟩ := bcell hb
  have HB4 := Aside0.mk hB4
  have HO0 := Aside0.mk (Kd.R_below HO0'.out hb)
  have HO2 := Aside0.mk (Kd.R_below HO2'.out hb)
  have HO4 := Aside0.mk (Kd.R_below HO4'.out hb)
  clear hB4 hb HO0' HO2' HO4' k0 k1 k2 k3 k4 k5
  go_wp2_with fail
  refine bodyPost_ret (v := .tuple #[.agg #[.slice B0 l0_0.length d0, .int .i64 a0_1, .slice B2 l0_2.length d2, .int .i64 a0_3, .slice B4 l0_4.length d4, .int .i64 a0_5], .int .i64 11]) ?_ rfl ?_
  · simp [results, Try.results83, go_sem, hc4, hc3, hc2, hc1, hy1, hz1, hy2, hz2, hy3, hz3, hy4, hz4]
  · refine ⟨_, _, _, rfl, ?_, ?_, ?_, ?_⟩
    · exact R_store6 HO0.out (fun k hk => hk) hz1 (by omega)
    · exact R_store6 HO2.out (fun k hk => hk) hz1 (by omega)
    · exact R_store6 HO4.out (fun k hk => hk) hz1 (by omega)
    · exact below_store6 HB4.out (by omega)

set_option maxHeartbeats 800000 in
set_option maxRecDepth 100000 in
theorem onFile_yes_0 (A0_0 : Option Addr) (c0_0 : Nat) (l0_0 : List Int) (a0_1 : Int) (A0_2 : Option Addr) (c0_2 : Nat) (l0_2 : List Int) (a0_3 : Int) (A0_4 : Option Addr) (c0_4 : Nat) (l0_4 : List Int) (a0_5 : Int) (bb : Nat) (A2 : Option Addr) (c2 : Nat) (b : List Int) (w : World) (hr0_0 : Kd.C (Kd.int .u8) w A0_0 l0_0.length l0_0) (hc0_0 : l0_0.length ≤ c0_0) (hr0_2 : Kd.C (Kd.int .u8) w A0_2 l0_2.length l0_2) (hc0_2 : l0_2.length ≤ c0_2) (hr0_4 : Kd.C (Kd.int .u8) w A0_4 l0_4.length l0_4) (hc0_4 : l0_4.length ≤ c0_4) (hbb : w.cell? ⟨bb, 0, none⟩ = some (.slice A2 b.length c2)) (hlt : bb < w.heap.size) (hrb : Kd.C (Kd.int .u8) w A2 b.length b) (hcb : b.length ≤ c2) (hx : l0_0.length + b.length ≤ 200000) (hv : okDisk l0_0 a0_1 l0_2 a0_3 l0_4 a0_5 = true) :
    Calls Try.prog 83 #[.agg #[.slice A0_0 l0_0.length c0_0, .int .i64 a0_1, .slice A0_2 l0_2.length c0_2, .int .i64 a0_3, .slice A0_4 l0_4.length c0_4, .int .i64 a0_5], .int .i64 0, .func (Fn.func 90) #[] #[.pointer (some ⟨bb, 0, none⟩)]] w fun e w' => ∃ v0_ v2_ v4_ : Value, e = .returned (.tuple #[.agg #[v0_, .int .i64 a0_1, v2_, .int .i64 a0_3, v4_, .int .i64 a0_5], .int .i64 0]) ∧ Kd.R (Kd.int .u8) 5 w' w.heap.size (fun k_ => some k_ ≠ (v2_ : Value).ownBlock ∧ some k_ ≠ (v4_ : Value).ownBlock) v0_ (l0_0 ++ b) ∧ Kd.R (Kd.int .u8) 5 w' w.heap.size (fun k_ => some k_ ≠ (v0_ : Value).ownBlock ∧ some k_ ≠ (v4_ : Value).ownBlock) v2_ l0_2 ∧ Kd.R (Kd.int .u8) 5 w' w.heap.size (fun k_ => some k_ ≠ (v0_ : Value).ownBlock ∧ some k_ ≠ (v2_ : Value).ownBlock) v4_ l0_4 ∧ Below w.heap.size w w' := by
  have HR0 := Aside0.mk hr0_0
  have HR2 := Aside0.mk hr0_2
  have HR4 := Aside0.mk hr0_4
  clear hr0_0 hr0_2 hr0_4
  have HBB := Aside0.mk hbb
  have HRB := Aside0.mk hrb
  clear hbb hrb
  obtain ⟨⟨x0, x1, x2⟩, ⟨y0, y1, y2⟩, ⟨z0, z1, z2⟩⟩ := okDisk_iff hv
  have HV := Aside0.mk hv
  clear hv
  go_enter Try.func83, Try.ntmps83
  go_wp2_with fail
  refine (validDisk_any _ _ _ _ _ _ _ _ _ _ _ _ _).mono ?_
  rintro e w1 ⟨rfl, hb⟩
  have hvv : (okFile l0_0.length a0_1 && (okFile l0_2.length a0_3 && okFile l0_4.length a0_5)) = true := HV.out
  rw [hvv]
  clear hvv
  have hB1 : Below w.heap.size w w1 := below_then (below_alloc (below_alloc (Below.refl _ _) _) _) (by simp; omega) hb
  have hz1 : w.heap.size + 1 < w1.heap.size := by have := hb.size; simp at this; omega
  have hy1 : w.heap.size < w1.heap.size := by omega
  obtain ⟨hc1, hf1⟩ := bcell hb
  have HB1 := Aside0.mk hB1
  clear hB1 hb
  go_wp2_with fail
  refine (driveOf_any A0_0 A0_2 A0_4 c0_0 c0_2 c0_4 l0_0 l0_2 l0_4 a0_1 a0_3 a0_5 w1 (Kd.C_below HR0.out HB1.out) hc0_0 (Kd.C_below HR2.out HB1.out) hc0_2 (Kd.C_below HR4.out HB1.out) hc0_4 x0 y0 z0).mono ?_
  rintro e w2 ⟨v0, v2, v4, rfl, ho0, ho2, ho4, hb⟩
  obtain ⟨B0, d0, rfl, hd0, hp0⟩ := Kd.R_reads ho0
  obtain ⟨B2, d2, rfl, hd2, hp2⟩ := Kd.R_reads ho2
  obtain ⟨B4, d4, rfl, hd4, hp4⟩ := Kd.R_reads ho4
  have hB2 : Below w.heap.size w w2 := below_then HB1.out (by omega) hb
  have hz2 : w.heap.size + 1 < w2.heap.size := by have := hb.size; omega
  have hy2 : w.heap.size < w2.heap.size := by omega
  obtain ⟨hc2, hf2⟩ := bcell hb
  have HB2 := Aside0.mk hB2
  have HO0 := Aside0.mk ho0
  have HO2 := Aside0.mk ho2
  have HO4 := Aside0.mk ho4
  have HP0 := Aside0.mk hp0
  have HP2 := Aside0.mk hp2
  have HP4 := Aside0.mk hp4
  clear hB2 hb ho0 ho2 ho4 hp0 hp2 hp4
  go_wp2_with fail
  refine (do_append_yes w2.heap.size 0 _ _ 75 bb _ _ l0_0 b _ _ (blk_new w2 _) rfl (((below_alloc (Below.refl _ _) _).cell (p := ⟨bb, 0, none⟩) (by show bb < _; omega)).trans ((HB2.out.cell (p := ⟨bb, 0, none⟩) hlt).trans HBB.out)) (Kd.C_alloc HP0.out _) hd0 (Kd.C_alloc (Kd.C_below HRB.out HB2.out) _) hcb hx).mono ?_
  rintro e w3 ⟨rfl, hB3, v9, hb3, ho9⟩
  obtain ⟨B9, d9, rfl, hd9, _⟩ := Kd.R_reads ho9
  have HO9 := Aside0.mk ho9
  clear ho9
  have hb : Below w2.heap.size w2 w3 := (below_alloc (Below.refl _ _) _).trans hB3
  have hB3' : Below w.heap.size w w3 := below_then HB2.out (by omega) hb
  have hz3 : w.heap.size + 1 < w3.heap.size := by have := hb.size; omega
  have hy3 : w.heap.size < w3.heap.size := by omega
  obtain ⟨hc3, hf3⟩ := bcell hb
  have k0 := blk_cell hb3 0
  have k1 := blk_cell hb3 1
  have k2 := blk_cell hb3 2
  have k3 := blk_cell hb3 3
  have k4 := blk_cell hb3 4
  have k5 := blk_cell hb3 5
  simp at k0 k1 k2 k3 k4 k5
  have HB3 := Aside0.mk hB3'
  have HO0' := Aside0.mk (Kd.R_below (Kd.R_bound HO0.out) hb)
  have HO2' := Aside0.mk (Kd.R_below (Kd.R_bound HO2.out) hb)
  have HO4' := Aside0.mk (Kd.R_below (Kd.R_bound HO4.out) hb)
  have lt0 := Kd.R_lt HO0.out
  have lt2 := Kd.R_lt HO2.out
  have lt4 := Kd.R_lt HO4.out
  clear hB3 hb3 hb hB3' HO0 HO2 HO4
  go_wp2_with fail
  refine (drive_disk _ _ _ _ _ _ _ _ _ _ _ _ _).mono ?_
  rintro e w4 ⟨rfl, hb⟩
  have hB4 : Below w.heap.size w w4 := below_then HB3.out (by omega) hb
  have hz4 : w.heap.size + 1 < w4.heap.size := by have := hb.size; omega
  have hy4 : w.heap.size < w4.heap.size := by omega
  obtain ⟨hc4, hf4⟩ := bcell hb
  have HB4 := Aside0.mk hB4
  have HO0 := Aside0.mk (Kd.R_below HO0'.out hb)
  have HO2 := Aside0.mk (Kd.R_below HO2'.out hb)
  have HO4 := Aside0.mk (Kd.R_below HO4'.out hb)
  have HO9' := Aside0.mk (Kd.R_below HO9.out hb)
  clear hB4 hb HO0' HO2' HO4' k0 k1 k2 k3 k4 k5
  go_wp2_with fail
  refine bodyPost_ret (v := .tuple #[.agg #[.slice B9 (l0_0 ++ b).length d9, .int .i64 a0_1, .slice B2 l0_2.length d2, .int .i64 a0_3, .slice B4 l0_4.length d4, .int .i64 a0_5], .int .i64 0]) ?_ rfl ?_
  · simp [results, Try.results83, go_sem, hc4, hc3, hc2, hc1, hy1, hz1, hy2, hz2, hy3, hz3, hy4, hz4]
  · have base9 : ∀ k, (Value.slice B9 (l0_0 ++ b).length d9).ownBlock = some k → ¬ k < w2.heap.size := fun k h => by have := Kd.R_base HO9'.out k h; simp at this; omega
    refine ⟨_, _, _, rfl, ?_, ?_, ?_, ?_⟩
    · exact R_store6 (Kd.R_bound HO9'.out) (fun k hk => ⟨(fun e => by have z := hk.2.1; simp at z; have := lt2 k e.symm; omega), (fun e => by have z := hk.2.1; simp at z; have := lt4 k e.symm; omega)⟩) (by simp; omega) (by simp; omega)
    · exact R_store6 HO2.out (fun k hk => ⟨(fun e => base9 k e.symm hk.2.2.1), hk.1.2⟩) hz1 (by omega)
    · exact R_store6 HO4.out (fun k hk => ⟨(fun e => base9 k e.symm hk.2.2.1), hk.1.2⟩) hz1 (by omega)
    · exact below_store6 HB4.out (by omega)

set_option maxHeartbeats 800000 in
set_option maxRecDepth 100000 in
theorem onFile_yes_1 (A0_0 : Option Addr) (c0_0 : Nat) (l0_0 : List Int) (a0_1 : Int) (A0_2 : Option Addr) (c0_2 : Nat) (l0_2 : List Int) (a0_3 : Int) (A0_4 : Option Addr) (c0_4 : Nat) (l0_4 : List Int) (a0_5 : Int) (bb : Nat) (A2 : Option Addr) (c2 : Nat) (b : List Int) (w : World) (hr0_0 : Kd.C (Kd.int .u8) w A0_0 l0_0.length l0_0) (hc0_0 : l0_0.length ≤ c0_0) (hr0_2 : Kd.C (Kd.int .u8) w A0_2 l0_2.length l0_2) (hc0_2 : l0_2.length ≤ c0_2) (hr0_4 : Kd.C (Kd.int .u8) w A0_4 l0_4.length l0_4) (hc0_4 : l0_4.length ≤ c0_4) (hbb : w.cell? ⟨bb, 0, none⟩ = some (.slice A2 b.length c2)) (hlt : bb < w.heap.size) (hrb : Kd.C (Kd.int .u8) w A2 b.length b) (hcb : b.length ≤ c2) (hx : l0_2.length + b.length ≤ 200000) (hv : okDisk l0_0 a0_1 l0_2 a0_3 l0_4 a0_5 = true) :
    Calls Try.prog 83 #[.agg #[.slice A0_0 l0_0.length c0_0, .int .i64 a0_1, .slice A0_2 l0_2.length c0_2, .int .i64 a0_3, .slice A0_4 l0_4.length c0_4, .int .i64 a0_5], .int .i64 1, .func (Fn.func 90) #[] #[.pointer (some ⟨bb, 0, none⟩)]] w fun e w' => ∃ v0_ v2_ v4_ : Value, e = .returned (.tuple #[.agg #[v0_, .int .i64 a0_1, v2_, .int .i64 a0_3, v4_, .int .i64 a0_5], .int .i64 0]) ∧ Kd.R (Kd.int .u8) 5 w' w.heap.size (fun k_ => some k_ ≠ (v2_ : Value).ownBlock ∧ some k_ ≠ (v4_ : Value).ownBlock) v0_ l0_0 ∧ Kd.R (Kd.int .u8) 5 w' w.heap.size (fun k_ => some k_ ≠ (v0_ : Value).ownBlock ∧ some k_ ≠ (v4_ : Value).ownBlock) v2_ (l0_2 ++ b) ∧ Kd.R (Kd.int .u8) 5 w' w.heap.size (fun k_ => some k_ ≠ (v0_ : Value).ownBlock ∧ some k_ ≠ (v2_ : Value).ownBlock) v4_ l0_4 ∧ Below w.heap.size w w' := by
  have HR0 := Aside0.mk hr0_0
  have HR2 := Aside0.mk hr0_2
  have HR4 := Aside0.mk hr0_4
  clear hr0_0 hr0_2 hr0_4
  have HBB := Aside0.mk hbb
  have HRB := Aside0.mk hrb
  clear hbb hrb
  obtain ⟨⟨x0, x1, x2⟩, ⟨y0, y1, y2⟩, ⟨z0, z1, z2⟩⟩ := okDisk_iff hv
  have HV := Aside0.mk hv
  clear hv
  go_enter Try.func83, Try.ntmps83
  go_wp2_with fail
  refine (validDisk_any _ _ _ _ _ _ _ _ _ _ _ _ _).mono ?_
  rintro e w1 ⟨rfl, hb⟩
  have hvv : (okFile l0_0.length a0_1 && (okFile l0_2.length a0_3 && okFile l0_4.length a0_5)) = true := HV.out
  rw [hvv]
  clear hvv
  have hB1 : Below w.heap.size w w1 := below_then (below_alloc (below_alloc (Below.refl _ _) _) _) (by simp; omega) hb
  have hz1 : w.heap.size + 1 < w1.heap.size := by have := hb.size; simp at this; omega
  have hy1 : w.heap.size < w1.heap.size := by omega
  obtain ⟨hc1, hf1⟩ := bcell hb
  have HB1 := Aside0.mk hB1
  clear hB1 hb
  go_wp2_with fail
  refine (driveOf_any A0_0 A0_2 A0_4 c0_0 c0_2 c0_4 l0_0 l0_2 l0_4 a0_1 a0_3 a0_5 w1 (Kd.C_below HR0.out HB1.out) hc0_0 (Kd.C_below HR2.out HB1.out) hc0_2 (Kd.C_below HR4.out HB1.out) hc0_4 x0 y0 z0).mono ?_
  rintro e w2 ⟨v0, v2, v4, rfl, ho0, ho2, ho4, hb⟩
  obtain ⟨B0, d0, rfl, hd0, hp0⟩ := Kd.R_reads ho0
  obtain ⟨B2, d2, rfl, hd2, hp2⟩ := Kd.R_reads ho2
  obtain ⟨B4, d4, rfl, hd4, hp4⟩ := Kd.R_reads ho4
  have hB2 : Below w.heap.size w w2 := below_then HB1.out (by omega) hb
  have hz2 : w.heap.size + 1 < w2.heap.size := by have := hb.size; omega
  have hy2 : w.heap.size < w2.heap.size := by omega
  obtain ⟨hc2, hf2⟩ := bcell hb
  have HB2 := Aside0.mk hB2
  have HO0 := Aside0.mk ho0
  have HO2 := Aside0.mk ho2
  have HO4 := Aside0.mk ho4
  have HP0 := Aside0.mk hp0
  have HP2 := Aside0.mk hp2
  have HP4 := Aside0.mk hp4
  clear hB2 hb ho0 ho2 ho4 hp0 hp2 hp4
  go_wp2_with fail
  refine (do_append_yes w2.heap.size 2 _ _ 75 bb _ _ l0_2 b _ _ (blk_new w2 _) rfl (((below_alloc (Below.refl _ _) _).cell (p := ⟨bb, 0, none⟩) (by show bb < _; omega)).trans ((HB2.out.cell (p := ⟨bb, 0, none⟩) hlt).trans HBB.out)) (Kd.C_alloc HP2.out _) hd2 (Kd.C_alloc (Kd.C_below HRB.out HB2.out) _) hcb hx).mono ?_
  rintro e w3 ⟨rfl, hB3, v9, hb3, ho9⟩
  obtain ⟨B9, d9, rfl, hd9, _⟩ := Kd.R_reads ho9
  have HO9 := Aside0.mk ho9
  clear ho9
  have hb : Below w2.heap.size w2 w3 := (below_alloc (Below.refl _ _) _).trans hB3
  have hB3' : Below w.heap.size w w3 := below_then HB2.out (by omega) hb
  have hz3 : w.heap.size + 1 < w3.heap.size := by have := hb.size; omega
  have hy3 : w.heap.size < w3.heap.size := by omega
  obtain ⟨hc3, hf3⟩ := bcell hb
  have k0 := blk_cell hb3 0
  have k1 := blk_cell hb3 1
  have k2 := blk_cell hb3 2
  have k3 := blk_cell hb3 3
  have k4 := blk_cell hb3 4
  have k5 := blk_cell hb3 5
  simp at k0 k1 k2 k3 k4 k5
  have HB3 := Aside0.mk hB3'
  have HO0' := Aside0.mk (Kd.R_below (Kd.R_bound HO0.out) hb)
  have HO2' := Aside0.mk (Kd.R_below (Kd.R_bound HO2.out) hb)
  have HO4' := Aside0.mk (Kd.R_below (Kd.R_bound HO4.out) hb)
  have lt0 := Kd.R_lt HO0.out
  have lt2 := Kd.R_lt HO2.out
  have lt4 := Kd.R_lt HO4.out
  clear hB3 hb3 hb hB3' HO0 HO2 HO4
  go_wp2_with fail
  refine (drive_disk _ _ _ _ _ _ _ _ _ _ _ _ _).mono ?_
  rintro e w4 ⟨rfl, hb⟩
  have hB4 : Below w.heap.size w w4 := below_then HB3.out (by omega) hb
  have hz4 : w.heap.size + 1 < w4.heap.size := by have := hb.size; omega
  have hy4 : w.heap.size < w4.heap.size := by omega
  obtain ⟨hc4, hf4⟩ := bcell hb
  have HB4 := Aside0.mk hB4
  have HO0 := Aside0.mk (Kd.R_below HO0'.out hb)
  have HO2 := Aside0.mk (Kd.R_below HO2'.out hb)
  have HO4 := Aside0.mk (Kd.R_below HO4'.out hb)
  have HO9' := Aside0.mk (Kd.R_below HO9.out hb)
  clear hB4 hb HO0' HO2' HO4' k0 k1 k2 k3 k4 k5
  go_wp2_with fail
  refine bodyPost_ret (v := .tuple #[.agg #[.slice B0 l0_0.length d0, .int .i64 a0_1, .slice B9 (l0_2 ++ b).length d9, .int .i64 a0_3, .slice B4 l0_4.length d4, .int .i64 a0_5], .int .i64 0]) ?_ rfl ?_
  · simp [results, Try.results83, go_sem, hc4, hc3, hc2, hc1, hy1, hz1, hy2, hz2, hy3, hz3, hy4, hz4]
  · have base9 : ∀ k, (Value.slice B9 (l0_2 ++ b).length d9).ownBlock = some k → ¬ k < w2.heap.size := fun k h => by have := Kd.R_base HO9'.out k h; simp at this; omega
    refine ⟨_, _, _, rfl, ?_, ?_, ?_, ?_⟩
    · exact R_store6 HO0.out (fun k hk => ⟨(fun e => base9 k e.symm hk.2.2.1), hk.1.2⟩) hz1 (by omega)
    · exact R_store6 (Kd.R_bound HO9'.out) (fun k hk => ⟨(fun e => by have z := hk.2.1; simp at z; have := lt0 k e.symm; omega), (fun e => by have z := hk.2.1; simp at z; have := lt4 k e.symm; omega)⟩) (by simp; omega) (by simp; omega)
    · exact R_store6 HO4.out (fun k hk => ⟨hk.1.1, (fun e => base9 k e.symm hk.2.2.1)⟩) hz1 (by omega)
    · exact below_store6 HB4.out (by omega)

set_option maxHeartbeats 800000 in
set_option maxRecDepth 100000 in
theorem onFile_yes_2 (A0_0 : Option Addr) (c0_0 : Nat) (l0_0 : List Int) (a0_1 : Int) (A0_2 : Option Addr) (c0_2 : Nat) (l0_2 : List Int) (a0_3 : Int) (A0_4 : Option Addr) (c0_4 : Nat) (l0_4 : List Int) (a0_5 : Int) (bb : Nat) (A2 : Option Addr) (c2 : Nat) (b : List Int) (w : World) (hr0_0 : Kd.C (Kd.int .u8) w A0_0 l0_0.length l0_0) (hc0_0 : l0_0.length ≤ c0_0) (hr0_2 : Kd.C (Kd.int .u8) w A0_2 l0_2.length l0_2) (hc0_2 : l0_2.length ≤ c0_2) (hr0_4 : Kd.C (Kd.int .u8) w A0_4 l0_4.length l0_4) (hc0_4 : l0_4.length ≤ c0_4) (hbb : w.cell? ⟨bb, 0, none⟩ = some (.slice A2 b.length c2)) (hlt : bb < w.heap.size) (hrb : Kd.C (Kd.int .u8) w A2 b.length b) (hcb : b.length ≤ c2) (hx : l0_4.length + b.length ≤ 200000) (hv : okDisk l0_0 a0_1 l0_2 a0_3 l0_4 a0_5 = true) :
    Calls Try.prog 83 #[.agg #[.slice A0_0 l0_0.length c0_0, .int .i64 a0_1, .slice A0_2 l0_2.length c0_2, .int .i64 a0_3, .slice A0_4 l0_4.length c0_4, .int .i64 a0_5], .int .i64 2, .func (Fn.func 90) #[] #[.pointer (some ⟨bb, 0, none⟩)]] w fun e w' => ∃ v0_ v2_ v4_ : Value, e = .returned (.tuple #[.agg #[v0_, .int .i64 a0_1, v2_, .int .i64 a0_3, v4_, .int .i64 a0_5], .int .i64 0]) ∧ Kd.R (Kd.int .u8) 5 w' w.heap.size (fun k_ => some k_ ≠ (v2_ : Value).ownBlock ∧ some k_ ≠ (v4_ : Value).ownBlock) v0_ l0_0 ∧ Kd.R (Kd.int .u8) 5 w' w.heap.size (fun k_ => some k_ ≠ (v0_ : Value).ownBlock ∧ some k_ ≠ (v4_ : Value).ownBlock) v2_ l0_2 ∧ Kd.R (Kd.int .u8) 5 w' w.heap.size (fun k_ => some k_ ≠ (v0_ : Value).ownBlock ∧ some k_ ≠ (v2_ : Value).ownBlock) v4_ (l0_4 ++ b) ∧ Below w.heap.size w w' := by
  have HR0 := Aside0.mk hr0_0
  have HR2 := Aside0.mk hr0_2
  have HR4 := Aside0.mk hr0_4
  clear hr0_0 hr0_2 hr0_4
  have HBB := Aside0.mk hbb
  have HRB := Aside0.mk hrb
  clear hbb hrb
  obtain ⟨⟨x0, x1, x2⟩, ⟨y0, y1, y2⟩, ⟨z0, z1, z2⟩⟩ := okDisk_iff hv
  have HV := Aside0.mk hv
  clear hv
  go_enter Try.func83, Try.ntmps83
  go_wp2_with fail
  refine (validDisk_any _ _ _ _ _ _ _ _ _ _ _ _ _).mono ?_
  rintro e w1 ⟨rfl, hb⟩
  have hvv : (okFile l0_0.length a0_1 && (okFile l0_2.length a0_3 && okFile l0_4.length a0_5)) = true := HV.out
  rw [hvv]
  clear hvv
  have hB1 : Below w.heap.size w w1 := below_then (below_alloc (below_alloc (Below.refl _ _) _) _) (by simp; omega) hb
  have hz1 : w.heap.size + 1 < w1.heap.size := by have := hb.size; simp at this; omega
  have hy1 : w.heap.size < w1.heap.size := by omega
  obtain ⟨hc1, hf1⟩ := bcell hb
  have HB1 := Aside0.mk hB1
  clear hB1 hb
  go_wp2_with fail
  refine (driveOf_any A0_0 A0_2 A0_4 c0_0 c0_2 c0_4 l0_0 l0_2 l0_4 a0_1 a0_3 a0_5 w1 (Kd.C_below HR0.out HB1.out) hc0_0 (Kd.C_below HR2.out HB1.out) hc0_2 (Kd.C_below HR4.out HB1.out) hc0_4 x0 y0 z0).mono ?_
  rintro e w2 ⟨v0, v2, v4, rfl, ho0, ho2, ho4, hb⟩
  obtain ⟨B0, d0, rfl, hd0, hp0⟩ := Kd.R_reads ho0
  obtain ⟨B2, d2, rfl, hd2, hp2⟩ := Kd.R_reads ho2
  obtain ⟨B4, d4, rfl, hd4, hp4⟩ := Kd.R_reads ho4
  have hB2 : Below w.heap.size w w2 := below_then HB1.out (by omega) hb
  have hz2 : w.heap.size + 1 < w2.heap.size := by have := hb.size; omega
  have hy2 : w.heap.size < w2.heap.size := by omega
  obtain ⟨hc2, hf2⟩ := bcell hb
  have HB2 := Aside0.mk hB2
  have HO0 := Aside0.mk ho0
  have HO2 := Aside0.mk ho2
  have HO4 := Aside0.mk ho4
  have HP0 := Aside0.mk hp0
  have HP2 := Aside0.mk hp2
  have HP4 := Aside0.mk hp4
  clear hB2 hb ho0 ho2 ho4 hp0 hp2 hp4
  go_wp2_with fail
  refine (do_append_yes w2.heap.size 4 _ _ 75 bb _ _ l0_4 b _ _ (blk_new w2 _) rfl (((below_alloc (Below.refl _ _) _).cell (p := ⟨bb, 0, none⟩) (by show bb < _; omega)).trans ((HB2.out.cell (p := ⟨bb, 0, none⟩) hlt).trans HBB.out)) (Kd.C_alloc HP4.out _) hd4 (Kd.C_alloc (Kd.C_below HRB.out HB2.out) _) hcb hx).mono ?_
  rintro e w3 ⟨rfl, hB3, v9, hb3, ho9⟩
  obtain ⟨B9, d9, rfl, hd9, _⟩ := Kd.R_reads ho9
  have HO9 := Aside0.mk ho9
  clear ho9
  have hb : Below w2.heap.size w2 w3 := (below_alloc (Below.refl _ _) _).trans hB3
  have hB3' : Below w.heap.size w w3 := below_then HB2.out (by omega) hb
  have hz3 : w.heap.size + 1 < w3.heap.size := by have := hb.size; omega
  have hy3 : w.heap.size < w3.heap.size := by omega
  obtain ⟨hc3, hf3⟩ := bcell hb
  have k0 := blk_cell hb3 0
  have k1 := blk_cell hb3 1
  have k2 := blk_cell hb3 2
  have k3 := blk_cell hb3 3
  have k4 := blk_cell hb3 4
  have k5 := blk_cell hb3 5
  simp at k0 k1 k2 k3 k4 k5
  have HB3 := Aside0.mk hB3'
  have HO0' := Aside0.mk (Kd.R_below (Kd.R_bound HO0.out) hb)
  have HO2' := Aside0.mk (Kd.R_below (Kd.R_bound HO2.out) hb)
  have HO4' := Aside0.mk (Kd.R_below (Kd.R_bound HO4.out) hb)
  have lt0 := Kd.R_lt HO0.out
  have lt2 := Kd.R_lt HO2.out
  have lt4 := Kd.R_lt HO4.out
  clear hB3 hb3 hb hB3' HO0 HO2 HO4
  go_wp2_with fail
  refine (drive_disk _ _ _ _ _ _ _ _ _ _ _ _ _).mono ?_
  rintro e w4 ⟨rfl, hb⟩
  have hB4 : Below w.heap.size w w4 := below_then HB3.out (by omega) hb
  have hz4 : w.heap.size + 1 < w4.heap.size := by have := hb.size; omega
  have hy4 : w.heap.size < w4.heap.size := by omega
  obtain ⟨hc4, hf4⟩ := bcell hb
  have HB4 := Aside0.mk hB4
  have HO0 := Aside0.mk (Kd.R_below HO0'.out hb)
  have HO2 := Aside0.mk (Kd.R_below HO2'.out hb)
  have HO4 := Aside0.mk (Kd.R_below HO4'.out hb)
  have HO9' := Aside0.mk (Kd.R_below HO9.out hb)
  clear hB4 hb HO0' HO2' HO4' k0 k1 k2 k3 k4 k5
  go_wp2_with fail
  refine bodyPost_ret (v := .tuple #[.agg #[.slice B0 l0_0.length d0, .int .i64 a0_1, .slice B2 l0_2.length d2, .int .i64 a0_3, .slice B9 (l0_4 ++ b).length d9, .int .i64 a0_5], .int .i64 0]) ?_ rfl ?_
  · simp [results, Try.results83, go_sem, hc4, hc3, hc2, hc1, hy1, hz1, hy2, hz2, hy3, hz3, hy4, hz4]
  · have base9 : ∀ k, (Value.slice B9 (l0_4 ++ b).length d9).ownBlock = some k → ¬ k < w2.heap.size := fun k h => by have := Kd.R_base HO9'.out k h; simp at this; omega
    refine ⟨_, _, _, rfl, ?_, ?_, ?_, ?_⟩
    · exact R_store6 HO0.out (fun k hk => ⟨hk.1.1, (fun e => base9 k e.symm hk.2.2.1)⟩) hz1 (by omega)
    · exact R_store6 HO2.out (fun k hk => ⟨hk.1.1, (fun e => base9 k e.symm hk.2.2.1)⟩) hz1 (by omega)
    · exact R_store6 (Kd.R_bound HO9'.out) (fun k hk => ⟨(fun e => by have z := hk.2.1; simp at z; have := lt0 k e.symm; omega), (fun e => by have z := hk.2.1; simp at z; have := lt2 k e.symm; omega)⟩) (by simp; omega) (by simp; omega)
    · exact below_store6 HB4.out (by omega)

end Go.Proofs.Ytbapokpkgonjkaa.Print
