/- Texts of this session, joined by its own program. -/
import Derived.Test.YtbapokpkgonjkaaCDSync0
import Derived.Test.YtbapokpkgonjkaaCDSync6
import Derived.Deep.RegionHeld3
/- DiskReset, DiskSync, DiskAppend: what each answers, in new memory. -/
namespace Go.Proofs.Ytbapokpkgonjkaa.Print
open Go.RowKit Go.Proofs.YtbapokpkgonjkaaW.PrintWords Go.Proofs.YtbapokpkgonjkaaW.PrintLast Go.Proofs.YtbapokpkgonjkaaW.PrintMore
set_option linter.unusedVariables false
set_option linter.unusedSimpArgs false

set_option maxHeartbeats 400000 in
set_option maxRecDepth 100000 in
theorem onFile_bad_disk (A0_0 : Option Addr) (c0_0 : Nat) (l0_0 : List Int) (a0_1 : Int) (A0_2 : Option Addr) (c0_2 : Nat) (l0_2 : List Int) (a0_3 : Int) (A0_4 : Option Addr) (c0_4 : Nat) (l0_4 : List Int) (a0_5 : Int) (n : Int) (F : Value) (w : World) (hv : okDisk l0_0 a0_1 l0_2 a0_3 l0_4 a0_5 = false) :
    Calls Try.prog 83 #[.agg #[.slice A0_0 l0_0.length c0_0, .int .i64 a0_1, .slice A0_2 l0_2.length c0_2, .int .i64 a0_3, .slice A0_4 l0_4.length c0_4, .int .i64 a0_5], .int .i64 n, F] w fun e w' => ∃ v0_ v2_ v4_ : Value, e = .returned (.tuple #[.agg #[v0_, .int .i64 0, v2_, .int .i64 0, v4_, .int .i64 0], .int .i64 1]) ∧ Kd.R (Kd.int .u8) 5 w' w.heap.size (fun k_ => some k_ ≠ (v2_ : Value).ownBlock ∧ some k_ ≠ (v4_ : Value).ownBlock) v0_ [] ∧ Kd.R (Kd.int .u8) 5 w' w.heap.size (fun k_ => some k_ ≠ (v0_ : Value).ownBlock ∧ some k_ ≠ (v4_ : Value).ownBlock) v2_ [] ∧ Kd.R (Kd.int .u8) 5 w' w.heap.size (fun k_ => some k_ ≠ (v0_ : Value).ownBlock ∧ some k_ ≠ (v2_ : Value).ownBlock) v4_ [] ∧ Below w.heap.size w w' := by
  have HV := Aside0.mk hv
  clear hv
  go_enter Try.func83, Try.ntmps83
  go_wp2_with fail
  refine (validDisk_any _ _ _ _ _ _ _ _ _ _ _ _ _).mono ?_
  rintro e w1 ⟨rfl, hb⟩
  have hvv : (okFile l0_0.length a0_1 && (okFile l0_2.length a0_3 && okFile l0_4.length a0_5)) = false := HV.out
  rw [hvv]
  clear hvv
  have hB1 : Below w.heap.size w w1 := below_then (below_alloc (below_alloc (Below.refl _ _) _) _) (by simp; omega) hb
  have hz1 : w.heap.size + 1 < w1.heap.size := by have := hb.size; simp at this; omega
  have hy1 : w.heap.size < w1.heap.size := by omega
  obtain ⟨hc1, hf1⟩ := bcell hb
  have HB1 := Aside0.mk hB1
  clear hB1 hb
  go_wp2_with fail
  refine bodyPost_ret (v := .tuple #[.agg #[.slice none 0 0, .int .i64 0, .slice none 0 0, .int .i64 0, .slice none 0 0, .int .i64 0], .int .i64 1]) ?_ rfl ?_
  · simp [results, Try.results83, go_sem, hc1, hy1, hz1]
  · exact ⟨_, _, _, rfl, Kd.R_nil _ _ _ _ _, Kd.R_nil _ _ _ _ _, Kd.R_nil _ _ _ _ _, below_store6 HB1.out (by omega)⟩

set_option maxHeartbeats 400000 in
set_option maxRecDepth 100000 in
theorem onFile_bad_neg (A0_0 : Option Addr) (c0_0 : Nat) (l0_0 : List Int) (a0_1 : Int) (A0_2 : Option Addr) (c0_2 : Nat) (l0_2 : List Int) (a0_3 : Int) (A0_4 : Option Addr) (c0_4 : Nat) (l0_4 : List Int) (a0_5 : Int) (n : Int) (F : Value) (w : World) (hv : okDisk l0_0 a0_1 l0_2 a0_3 l0_4 a0_5 = true) (hn : n < 0) :
    Calls Try.prog 83 #[.agg #[.slice A0_0 l0_0.length c0_0, .int .i64 a0_1, .slice A0_2 l0_2.length c0_2, .int .i64 a0_3, .slice A0_4 l0_4.length c0_4, .int .i64 a0_5], .int .i64 n, F] w fun e w' => ∃ v0_ v2_ v4_ : Value, e = .returned (.tuple #[.agg #[v0_, .int .i64 0, v2_, .int .i64 0, v4_, .int .i64 0], .int .i64 1]) ∧ Kd.R (Kd.int .u8) 5 w' w.heap.size (fun k_ => some k_ ≠ (v2_ : Value).ownBlock ∧ some k_ ≠ (v4_ : Value).ownBlock) v0_ [] ∧ Kd.R (Kd.int .u8) 5 w' w.heap.size (fun k_ => some k_ ≠ (v0_ : Value).ownBlock ∧ some k_ ≠ (v4_ : Value).ownBlock) v2_ [] ∧ Kd.R (Kd.int .u8) 5 w' w.heap.size (fun k_ => some k_ ≠ (v0_ : Value).ownBlock ∧ some k_ ≠ (v2_ : Value).ownBlock) v4_ [] ∧ Below w.heap.size w w' := by
  have HV := Aside0.mk hv
  clear hv
  have hneg : decide (n < 0) = true := by simp; omega
  go_enter Try.func83, Try.ntmps83
  go_wp2_with fail
  refine (validDisk_any _ _ _ _ _ _ _ _ _ _ _ _ _).mono ?_
  rintro e w1 ⟨rfl, hb⟩
  have hvv : (okFile l0_0.length a0_1 && (okFile l0_2.length a0_3 && okFile l0_4.length a0_5)) = true := HV.out
  rw [hvv]
  clear hvv
  have hB1 : Below w.heap.size w w1 := below_then (below_alloc (below_alloc (Below.refl _ _) _) _) (by simp; omega) hb
  have hz1 : w.heap.size + 1 < w1.heap.size := by have := hb.size; simp at this; omega
  have hy1 : w.heap.size < w1.heap.size := by omega
  obtain ⟨hc1, hf1⟩ := bcell hb
  have HB1 := Aside0.mk hB1
  clear hB1 hb
  go_wp2_with fail
  refine bodyPost_ret (v := .tuple #[.agg #[.slice none 0 0, .int .i64 0, .slice none 0 0, .int .i64 0, .slice none 0 0, .int .i64 0], .int .i64 1]) ?_ rfl ?_
  · simp [results, Try.results83, go_sem, hc1, hy1, hz1]
  · exact ⟨_, _, _, rfl, Kd.R_nil _ _ _ _ _, Kd.R_nil _ _ _ _ _, Kd.R_nil _ _ _ _ _, below_store6 HB1.out (by omega)⟩

set_option maxHeartbeats 400000 in
set_option maxRecDepth 100000 in
theorem onFile_bad_big (A0_0 : Option Addr) (c0_0 : Nat) (l0_0 : List Int) (a0_1 : Int) (A0_2 : Option Addr) (c0_2 : Nat) (l0_2 : List Int) (a0_3 : Int) (A0_4 : Option Addr) (c0_4 : Nat) (l0_4 : List Int) (a0_5 : Int) (n : Int) (F : Value) (w : World) (hv : okDisk l0_0 a0_1 l0_2 a0_3 l0_4 a0_5 = true) (hn : 2 < n) :
    Calls Try.prog 83 #[.agg #[.slice A0_0 l0_0.length c0_0, .int .i64 a0_1, .slice A0_2 l0_2.length c0_2, .int .i64 a0_3, .slice A0_4 l0_4.length c0_4, .int .i64 a0_5], .int .i64 n, F] w fun e w' => ∃ v0_ v2_ v4_ : Value, e = .returned (.tuple #[.agg #[v0_, .int .i64 0, v2_, .int .i64 0, v4_, .int .i64 0], .int .i64 1]) ∧ Kd.R (Kd.int .u8) 5 w' w.heap.size (fun k_ => some k_ ≠ (v2_ : Value).ownBlock ∧ some k_ ≠ (v4_ : Value).ownBlock) v0_ [] ∧ Kd.R (Kd.int .u8) 5 w' w.heap.size (fun k_ => some k_ ≠ (v0_ : Value).ownBlock ∧ some k_ ≠ (v4_ : Value).ownBlock) v2_ [] ∧ Kd.R (Kd.int .u8) 5 w' w.heap.size (fun k_ => some k_ ≠ (v0_ : Value).ownBlock ∧ some k_ ≠ (v2_ : Value).ownBlock) v4_ [] ∧ Below w.heap.size w w' := by
  have HV := Aside0.mk hv
  clear hv
  have hneg : decide (n < 0) = false := by simp; omega
  have hbig : decide (2 < n) = true := by simp; omega
  go_enter Try.func83, Try.ntmps83
  go_wp2_with fail
  refine (validDisk_any _ _ _ _ _ _ _ _ _ _ _ _ _).mono ?_
  rintro e w1 ⟨rfl, hb⟩
  have hvv : (okFile l0_0.length a0_1 && (okFile l0_2.length a0_3 && okFile l0_4.length a0_5)) = true := HV.out
  rw [hvv]
  clear hvv
  have hB1 : Below w.heap.size w w1 := below_then (below_alloc (below_alloc (Below.refl _ _) _) _) (by simp; omega) hb
  have hz1 : w.heap.size + 1 < w1.heap.size := by have := hb.size; simp at this; omega
  have hy1 : w.heap.size < w1.heap.size := by omega
  obtain ⟨hc1, hf1⟩ := bcell hb
  have HB1 := Aside0.mk hB1
  clear hB1 hb
  go_wp2_with fail
  refine bodyPost_ret (v := .tuple #[.agg #[.slice none 0 0, .int .i64 0, .slice none 0 0, .int .i64 0, .slice none 0 0, .int .i64 0], .int .i64 1]) ?_ rfl ?_
  · simp [results, Try.results83, go_sem, hc1, hy1, hz1]
  · exact ⟨_, _, _, rfl, Kd.R_nil _ _ _ _ _, Kd.R_nil _ _ _ _ _, Kd.R_nil _ _ _ _ _, below_store6 HB1.out (by omega)⟩

def impl_DiskReset.f (l0_0 : List Int) (a0_1 : Int) (l0_2 : List Int) (a0_3 : Int) (l0_4 : List Int) (a0_5 : Int) (a1 : Int) : Option (List Int × Int × List Int × Int × List Int × Int × Int) :=
  if okDisk l0_0 a0_1 l0_2 a0_3 l0_4 a0_5 = true then (if a1 = 0 then some ([], 0, l0_2, a0_3, l0_4, a0_5, 0) else if a1 = 1 then some (l0_0, a0_1, [], 0, l0_4, a0_5, 0) else if a1 = 2 then some (l0_0, a0_1, l0_2, a0_3, [], 0, 0) else some ([], 0, [], 0, [], 0, 1)) else some ([], 0, [], 0, [], 0, 1)

set_option maxHeartbeats 1600000 in
set_option maxRecDepth 100000 in
theorem impl_DiskReset.calls (A0_0 : Option Addr) (c0_0 : Nat) (l0_0 : List Int) (a0_1 : Int) (A0_2 : Option Addr) (c0_2 : Nat) (l0_2 : List Int) (a0_3 : Int) (A0_4 : Option Addr) (c0_4 : Nat) (l0_4 : List Int) (a0_5 : Int) (a1 : Int) (r1 : List Int) (r2 : Int) (r3 : List Int) (r4 : Int) (r5 : List Int) (r6 : Int) (r7 : Int) (w : World) (hr0_0 : Kd.C (Kd.int .u8) w A0_0 l0_0.length l0_0) (hc0_0 : l0_0.length ≤ c0_0) (hr0_2 : Kd.C (Kd.int .u8) w A0_2 l0_2.length l0_2) (hc0_2 : l0_2.length ≤ c0_2) (hr0_4 : Kd.C (Kd.int .u8) w A0_4 l0_4.length l0_4) (hc0_4 : l0_4.length ≤ c0_4) (h : impl_DiskReset.f l0_0 a0_1 l0_2 a0_3 l0_4 a0_5 a1 = some (r1, r2, r3, r4, r5, r6, r7)) :
    Calls Try.prog 46 #[.agg #[.slice A0_0 l0_0.length c0_0, .int .i64 a0_1, .slice A0_2 l0_2.length c0_2, .int .i64 a0_3, .slice A0_4 l0_4.length c0_4, .int .i64 a0_5], .int .i64 a1] w fun e w' => ∃ v0_ v2_ v4_ : Value, e = .returned (.tuple #[.agg #[v0_, .int .i64 r2, v2_, .int .i64 r4, v4_, .int .i64 r6], .int .i64 r7]) ∧ Kd.R (Kd.int .u8) 5 w' w.heap.size (fun k_ => some k_ ≠ (v2_ : Value).ownBlock ∧ some k_ ≠ (v4_ : Value).ownBlock) v0_ r1 ∧ Kd.R (Kd.int .u8) 5 w' w.heap.size (fun k_ => some k_ ≠ (v0_ : Value).ownBlock ∧ some k_ ≠ (v4_ : Value).ownBlock) v2_ r3 ∧ Kd.R (Kd.int .u8) 5 w' w.heap.size (fun k_ => some k_ ≠ (v0_ : Value).ownBlock ∧ some k_ ≠ (v2_ : Value).ownBlock) v4_ r5 ∧ Below w.heap.size w w' := by
  have HR0 := Aside0.mk hr0_0
  have HR2 := Aside0.mk hr0_2
  have HR4 := Aside0.mk hr0_4
  clear hr0_0 hr0_2 hr0_4
  rcases hv : okDisk l0_0 a0_1 l0_2 a0_3 l0_4 a0_5 with _ | _
  · have h' : impl_DiskReset.f l0_0 a0_1 l0_2 a0_3 l0_4 a0_5 a1 = some ([], 0, [], 0, [], 0, 1) := by unfold impl_DiskReset.f; rw [hv, if_neg (by decide)]
    rw [h'] at h
    simp only [Option.some.injEq, Prod.mk.injEq] at h
    obtain ⟨rfl, rfl, rfl, rfl, rfl, rfl, rfl⟩ := h
    clear h'
    go_enter Try.func46, Try.ntmps46
    go_wp2_with fail
    refine (onFile_bad_disk A0_0 c0_0 l0_0 a0_1 A0_2 c0_2 l0_2 a0_3 A0_4 c0_4 l0_4 a0_5 a1 _ _ hv).mono ?_
    rintro e w1 ⟨v0, v2, v4, rfl, ho0, ho2, ho4, hb⟩
    obtain ⟨B0, d0, rfl, hd0, _⟩ := Kd.R_reads ho0
    obtain ⟨B2, d2, rfl, hd2, _⟩ := Kd.R_reads ho2
    obtain ⟨B4, d4, rfl, hd4, _⟩ := Kd.R_reads ho4
    have hB1 : Below w.heap.size w w1 := below_then (by with_reducible repeat (first | exact Below.refl _ _ | apply below_alloc)) (by simp; omega) hb
    have hz1 : w.heap.size + 1 < w1.heap.size := by have := hb.size; simp at this; omega
    have hy1 : w.heap.size < w1.heap.size := by omega
    have hzb := hb.size
    obtain ⟨hc1, hf1⟩ := bcell hb
    have HB1 := Aside0.mk hB1
    have HO0 := Aside0.mk ho0
    have HO2 := Aside0.mk ho2
    have HO4 := Aside0.mk ho4
    clear hB1 hb ho0 ho2 ho4
    go_wp2_with fail
    refine bodyPost_ret (v := .tuple #[.agg #[.slice B0 (([] : List Int)).length d0, .int .i64 (0), .slice B2 (([] : List Int)).length d2, .int .i64 (0), .slice B4 (([] : List Int)).length d4, .int .i64 (0)], .int .i64 (1)]) ?_ rfl ?_
    · simp [results, Try.results46, go_sem, hc1, hy1, hz1]
    · refine ⟨_, _, _, rfl, ?_, ?_, ?_, ?_⟩
      · exact R_store6 HO0.out (fun k hk => hk) (by simp) (by simp; omega)
      · exact R_store6 HO2.out (fun k hk => hk) (by simp) (by simp; omega)
      · exact R_store6 HO4.out (fun k hk => hk) (by simp) (by simp; omega)
      · exact below_store6 HB1.out (by omega)
  · by_cases e0 : a1 = 0
    · subst e0
      have h' : impl_DiskReset.f l0_0 a0_1 l0_2 a0_3 l0_4 a0_5 0 = some ([], 0, l0_2, a0_3, l0_4, a0_5, 0) := by unfold impl_DiskReset.f; rw [if_pos hv, if_pos rfl]
      rw [h'] at h
      simp only [Option.some.injEq, Prod.mk.injEq] at h
      obtain ⟨rfl, rfl, rfl, rfl, rfl, rfl, rfl⟩ := h
      clear h'
      go_enter Try.func46, Try.ntmps46
      go_wp2_with fail
      refine (onFile_reset_0 A0_0 c0_0 l0_0 a0_1 A0_2 c0_2 l0_2 a0_3 A0_4 c0_4 l0_4 a0_5 _ (Kd.C_alloc (Kd.C_alloc HR0.out _) _) hc0_0 (Kd.C_alloc (Kd.C_alloc HR2.out _) _) hc0_2 (Kd.C_alloc (Kd.C_alloc HR4.out _) _) hc0_4 hv).mono ?_
      rintro e w1 ⟨v0, v2, v4, rfl, ho0, ho2, ho4, hb⟩
      obtain ⟨B0, d0, rfl, hd0, _⟩ := Kd.R_reads ho0
      obtain ⟨B2, d2, rfl, hd2, _⟩ := Kd.R_reads ho2
      obtain ⟨B4, d4, rfl, hd4, _⟩ := Kd.R_reads ho4
      have hB1 : Below w.heap.size w w1 := below_then (by with_reducible repeat (first | exact Below.refl _ _ | apply below_alloc)) (by simp; omega) hb
      have hz1 : w.heap.size + 1 < w1.heap.size := by have := hb.size; simp at this; omega
      have hy1 : w.heap.size < w1.heap.size := by omega
      have hzb := hb.size
      obtain ⟨hc1, hf1⟩ := bcell hb
      have HB1 := Aside0.mk hB1
      have HO0 := Aside0.mk ho0
      have HO2 := Aside0.mk ho2
      have HO4 := Aside0.mk ho4
      clear hB1 hb ho0 ho2 ho4
      go_wp2_with fail
      refine bodyPost_ret (v := .tuple #[.agg #[.slice B0 (([] : List Int)).length d0, .int .i64 (0), .slice B2 (l0_2).length d2, .int .i64 (a0_3), .slice B4 (l0_4).length d4, .int .i64 (a0_5)], .int .i64 (0)]) ?_ rfl ?_
      · simp [results, Try.results46, go_sem, hc1, hy1, hz1]
      · refine ⟨_, _, _, rfl, ?_, ?_, ?_, ?_⟩
        · exact R_store6 HO0.out (fun k hk => hk) (by simp) (by simp; omega)
        · exact R_store6 HO2.out (fun k hk => hk) (by simp) (by simp; omega)
        · exact R_store6 HO4.out (fun k hk => hk) (by simp) (by simp; omega)
        · exact below_store6 HB1.out (by omega)
    · by_cases e1 : a1 = 1
      · subst e1
        have h' : impl_DiskReset.f l0_0 a0_1 l0_2 a0_3 l0_4 a0_5 1 = some (l0_0, a0_1, [], 0, l0_4, a0_5, 0) := by unfold impl_DiskReset.f; rw [if_pos hv, if_neg (by omega), if_pos rfl]
        rw [h'] at h
        simp only [Option.some.injEq, Prod.mk.injEq] at h
        obtain ⟨rfl, rfl, rfl, rfl, rfl, rfl, rfl⟩ := h
        clear h'
        go_enter Try.func46, Try.ntmps46
        go_wp2_with fail
        refine (onFile_reset_1 A0_0 c0_0 l0_0 a0_1 A0_2 c0_2 l0_2 a0_3 A0_4 c0_4 l0_4 a0_5 _ (Kd.C_alloc (Kd.C_alloc HR0.out _) _) hc0_0 (Kd.C_alloc (Kd.C_alloc HR2.out _) _) hc0_2 (Kd.C_alloc (Kd.C_alloc HR4.out _) _) hc0_4 hv).mono ?_
        rintro e w1 ⟨v0, v2, v4, rfl, ho0, ho2, ho4, hb⟩
        obtain ⟨B0, d0, rfl, hd0, _⟩ := Kd.R_reads ho0
        obtain ⟨B2, d2, rfl, hd2, _⟩ := Kd.R_reads ho2
        obtain ⟨B4, d4, rfl, hd4, _⟩ := Kd.R_reads ho4
        have hB1 : Below w.heap.size w w1 := below_then (by with_reducible repeat (first | exact Below.refl _ _ | apply below_alloc)) (by simp; omega) hb
        have hz1 : w.heap.size + 1 < w1.heap.size := by have := hb.size; simp at this; omega
        have hy1 : w.heap.size < w1.heap.size := by omega
        have hzb := hb.size
        obtain ⟨hc1, hf1⟩ := bcell hb
        have HB1 := Aside0.mk hB1
        have HO0 := Aside0.mk ho0
        have HO2 := Aside0.mk ho2
        have HO4 := Aside0.mk ho4
        clear hB1 hb ho0 ho2 ho4
        go_wp2_with fail
        refine bodyPost_ret (v := .tuple #[.agg #[.slice B0 (l0_0).length d0, .int .i64 (a0_1), .slice B2 (([] : List Int)).length d2, .int .i64 (0), .slice B4 (l0_4).length d4, .int .i64 (a0_5)], .int .i64 (0)]) ?_ rfl ?_
        · simp [results, Try.results46, go_sem, hc1, hy1, hz1]
        · refine ⟨_, _, _, rfl, ?_, ?_, ?_, ?_⟩
          · exact R_store6 HO0.out (fun k hk => hk) (by simp) (by simp; omega)
          · exact R_store6 HO2.out (fun k hk => hk) (by simp) (by simp; omega)
          · exact R_store6 HO4.out (fun k hk => hk) (by simp) (by simp; omega)
          · exact below_store6 HB1.out (by omega)
      · by_cases e2 : a1 = 2
        · subst e2
          have h' : impl_DiskReset.f l0_0 a0_1 l0_2 a0_3 l0_4 a0_5 2 = some (l0_0, a0_1, l0_2, a0_3, [], 0, 0) := by unfold impl_DiskReset.f; rw [if_pos hv, if_neg (by omega), if_neg (by omega), if_pos rfl]
          rw [h'] at h
          simp only [Option.some.injEq, Prod.mk.injEq] at h
          obtain ⟨rfl, rfl, rfl, rfl, rfl, rfl, rfl⟩ := h
          clear h'
          go_enter Try.func46, Try.ntmps46
          go_wp2_with fail
          refine (onFile_reset_2 A0_0 c0_0 l0_0 a0_1 A0_2 c0_2 l0_2 a0_3 A0_4 c0_4 l0_4 a0_5 _ (Kd.C_alloc (Kd.C_alloc HR0.out _) _) hc0_0 (Kd.C_alloc (Kd.C_alloc HR2.out _) _) hc0_2 (Kd.C_alloc (Kd.C_alloc HR4.out _) _) hc0_4 hv).mono ?_
          rintro e w1 ⟨v0, v2, v4, rfl, ho0, ho2, ho4, hb⟩
          obtain ⟨B0, d0, rfl, hd0, _⟩ := Kd.R_reads ho0
          obtain ⟨B2, d2, rfl, hd2, _⟩ := Kd.R_reads ho2
          obtain ⟨B4, d4, rfl, hd4, _⟩ := Kd.R_reads ho4
          have hB1 : Below w.heap.size w w1 := below_then (by with_reducible repeat (first | exact Below.refl _ _ | apply below_alloc)) (by simp; omega) hb
          have hz1 : w.heap.size + 1 < w1.heap.size := by have := hb.size; simp at this; omega
          have hy1 : w.heap.size < w1.heap.size := by omega
          have hzb := hb.size
          obtain ⟨hc1, hf1⟩ := bcell hb
          have HB1 := Aside0.mk hB1
          have HO0 := Aside0.mk ho0
          have HO2 := Aside0.mk ho2
          have HO4 := Aside0.mk ho4
          clear hB1 hb ho0 ho2 ho4
          go_wp2_with fail
          refine bodyPost_ret (v := .tuple #[.agg #[.slice B0 (l0_0).length d0, .int .i64 (a0_1), .slice B2 (l0_2).length d2, .int .i64 (a0_3), .slice B4 (([] : List Int)).length d4, .int .i64 (0)], .int .i64 (0)]) ?_ rfl ?_
          · simp [results, Try.results46, go_sem, hc1, hy1, hz1]
          · refine ⟨_, _, _, rfl, ?_, ?_, ?_, ?_⟩
            · exact R_store6 HO0.out (fun k hk => hk) (by simp) (by simp; omega)
            · exact R_store6 HO2.out (fun k hk => hk) (by simp) (by simp; omega)
            · exact R_store6 HO4.out (fun k hk => hk) (by simp) (by simp; omega)
            · exact below_store6 HB1.out (by omega)
        · by_cases hn : a1 < 0
          · have h' : impl_DiskReset.f l0_0 a0_1 l0_2 a0_3 l0_4 a0_5 a1 = some ([], 0, [], 0, [], 0, 1) := by unfold impl_DiskReset.f; rw [if_pos hv, if_neg (by omega), if_neg (by omega), if_neg (by omega)]
            rw [h'] at h
            simp only [Option.some.injEq, Prod.mk.injEq] at h
            obtain ⟨rfl, rfl, rfl, rfl, rfl, rfl, rfl⟩ := h
            clear h'
            go_enter Try.func46, Try.ntmps46
            go_wp2_with fail
            refine (onFile_bad_neg A0_0 c0_0 l0_0 a0_1 A0_2 c0_2 l0_2 a0_3 A0_4 c0_4 l0_4 a0_5 a1 _ _ hv hn).mono ?_
            rintro e w1 ⟨v0, v2, v4, rfl, ho0, ho2, ho4, hb⟩
            obtain ⟨B0, d0, rfl, hd0, _⟩ := Kd.R_reads ho0
            obtain ⟨B2, d2, rfl, hd2, _⟩ := Kd.R_reads ho2
            obtain ⟨B4, d4, rfl, hd4, _⟩ := Kd.R_reads ho4
            have hB1 : Below w.heap.size w w1 := below_then (by with_reducible repeat (first | exact Below.refl _ _ | apply below_alloc)) (by simp; omega) hb
            have hz1 : w.heap.size + 1 < w1.heap.size := by have := hb.size; simp at this; omega
            have hy1 : w.heap.size < w1.heap.size := by omega
            have hzb := hb.size
            obtain ⟨hc1, hf1⟩ := bcell hb
            have HB1 := Aside0.mk hB1
            have HO0 := Aside0.mk ho0
            have HO2 := Aside0.mk ho2
            have HO4 := Aside0.mk ho4
            clear hB1 hb ho0 ho2 ho4
            go_wp2_with fail
            refine bodyPost_ret (v := .tuple #[.agg #[.slice B0 (([] : List Int)).length d0, .int .i64 (0), .slice B2 (([] : List Int)).length d2, .int .i64 (0), .slice B4 (([] : List Int)).length d4, .int .i64 (0)], .int .i64 (1)]) ?_ rfl ?_
            · simp [results, Try.results46, go_sem, hc1, hy1, hz1]
            · refine ⟨_, _, _, rfl, ?_, ?_, ?_, ?_⟩
              · exact R_store6 HO0.out (fun k hk => hk) (by simp) (by simp; omega)
              · exact R_store6 HO2.out (fun k hk => hk) (by simp) (by simp; omega)
              · exact R_store6 HO4.out (fun k hk => hk) (by simp) (by simp; omega)
              · exact below_store6 HB1.out (by omega)
          · have h' : impl_DiskReset.f l0_0 a0_1 l0_2 a0_3 l0_4 a0_5 a1 = some ([], 0, [], 0, [], 0, 1) := by unfold impl_DiskReset.f; rw [if_pos hv, if_neg (by omega), if_neg (by omega), if_neg (by omega)]
            rw [h'] at h
            simp only [Option.some.injEq, Prod.mk.injEq] at h
            obtain ⟨rfl, rfl, rfl, rfl, rfl, rfl, rfl⟩ := h
            clear h'
            go_enter Try.func46, Try.ntmps46
            go_wp2_with fail
            refine (onFile_bad_big A0_0 c0_0 l0_0 a0_1 A0_2 c0_2 l0_2 a0_3 A0_4 c0_4 l0_4 a0_5 a1 _ _ hv (by omega)).mono ?_
            rintro e w1 ⟨v0, v2, v4, rfl, ho0, ho2, ho4, hb⟩
            obtain ⟨B0, d0, rfl, hd0, _⟩ := Kd.R_reads ho0
            obtain ⟨B2, d2, rfl, hd2, _⟩ := Kd.R_reads ho2
            obtain ⟨B4, d4, rfl, hd4, _⟩ := Kd.R_reads ho4
            have hB1 : Below w.heap.size w w1 := below_then (by with_reducible repeat (first | exact Below.refl _ _ | apply below_alloc)) (by simp; omega) hb
            have hz1 : w.heap.size + 1 < w1.heap.size := by have := hb.size; simp at this; omega
            have hy1 : w.heap.size < w1.heap.size := by omega
            have hzb := hb.size
            obtain ⟨hc1, hf1⟩ := bcell hb
            have HB1 := Aside0.mk hB1
            have HO0 := Aside0.mk ho0
            have HO2 := Aside0.mk ho2
            have HO4 := Aside0.mk ho4
            clear hB1 hb ho0 ho2 ho4
            go_wp2_with fail
            refine bodyPost_ret (v := .tuple #[.agg #[.slice B0 (([] : List Int)).length d0, .int .i64 (0), .slice B2 (([] : List Int)).length d2, .int .i64 (0), .slice B4 (([] : List Int)).length d4, .int .i64 (0)], .int .i64 (1)]) ?_ rfl ?_
            · simp [results, Try.results46, go_sem, hc1, hy1, hz1]
            · refine ⟨_, _, _, rfl, ?_, ?_, ?_, ?_⟩
              · exact R_store6 HO0.out (fun k hk => hk) (by simp) (by simp; omega)
              · exact R_store6 HO2.out (fun k hk => hk) (by simp) (by simp; omega)
              · exact R_store6 HO4.out (fun k hk => hk) (by simp) (by simp; omega)
              · exact below_store6 HB1.out (by omega)

def impl_DiskSync.f (l0_0 : List Int) (a0_1 : Int) (l0_2 : List Int) (a0_3 : Int) (l0_4 : List Int) (a0_5 : Int) (a1 : Int) : Option (List Int × Int × List Int × Int × List Int × Int × Int) :=
  if okDisk l0_0 a0_1 l0_2 a0_3 l0_4 a0_5 = true then (if a1 = 0 then some (l0_0, (l0_0.length : Int), l0_2, a0_3, l0_4, a0_5, 0) else if a1 = 1 then some (l0_0, a0_1, l0_2, (l0_2.length : Int), l0_4, a0_5, 0) else if a1 = 2 then some (l0_0, a0_1, l0_2, a0_3, l0_4, (l0_4.length : Int), 0) else some ([], 0, [], 0, [], 0, 1)) else some ([], 0, [], 0, [], 0, 1)

set_option maxHeartbeats 1600000 in
set_option maxRecDepth 100000 in
theorem impl_DiskSync.calls (A0_0 : Option Addr) (c0_0 : Nat) (l0_0 : List Int) (a0_1 : Int) (A0_2 : Option Addr) (c0_2 : Nat) (l0_2 : List Int) (a0_3 : Int) (A0_4 : Option Addr) (c0_4 : Nat) (l0_4 : List Int) (a0_5 : Int) (a1 : Int) (r1 : List Int) (r2 : Int) (r3 : List Int) (r4 : Int) (r5 : List Int) (r6 : Int) (r7 : Int) (w : World) (hr0_0 : Kd.C (Kd.int .u8) w A0_0 l0_0.length l0_0) (hc0_0 : l0_0.length ≤ c0_0) (hr0_2 : Kd.C (Kd.int .u8) w A0_2 l0_2.length l0_2) (hc0_2 : l0_2.length ≤ c0_2) (hr0_4 : Kd.C (Kd.int .u8) w A0_4 l0_4.length l0_4) (hc0_4 : l0_4.length ≤ c0_4) (h : impl_DiskSync.f l0_0 a0_1 l0_2 a0_3 l0_4 a0_5 a1 = some (r1, r2, r3, r4, r5, r6, r7)) :
    Calls Try.prog 48 #[.agg #[.slice A0_0 l0_0.length c0_0, .int .i64 a0_1, .slice A0_2 l0_2.length c0_2, .int .i64 a0_3, .slice A0_4 l0_4.length c0_4, .int .i64 a0_5], .int .i64 a1] w fun e w' => ∃ v0_ v2_ v4_ : Value, e = .returned (.tuple #[.agg #[v0_, .int .i64 r2, v2_, .int .i64 r4, v4_, .int .i64 r6], .int .i64 r7]) ∧ Kd.R (Kd.int .u8) 5 w' w.heap.size (fun k_ => some k_ ≠ (v2_ : Value).ownBlock ∧ some k_ ≠ (v4_ : Value).ownBlock) v0_ r1 ∧ Kd.R (Kd.int .u8) 5 w' w.heap.size (fun k_ => some k_ ≠ (v0_ : Value).ownBlock ∧ some k_ ≠ (v4_ : Value).ownBlock) v2_ r3 ∧ Kd.R (Kd.int .u8) 5 w' w.heap.size (fun k_ => some k_ ≠ (v0_ : Value).ownBlock ∧ some k_ ≠ (v2_ : Value).ownBlock) v4_ r5 ∧ Below w.heap.size w w' := by
  have HR0 := Aside0.mk hr0_0
  have HR2 := Aside0.mk hr0_2
  have HR4 := Aside0.mk hr0_4
  clear hr0_0 hr0_2 hr0_4
  rcases hv : okDisk l0_0 a0_1 l0_2 a0_3 l0_4 a0_5 with _ | _
  · have h' : impl_DiskSync.f l0_0 a0_1 l0_2 a0_3 l0_4 a0_5 a1 = some ([], 0, [], 0, [], 0, 1) := by unfold impl_DiskSync.f; rw [hv, if_neg (by decide)]
    rw [h'] at h
    simp only [Option.some.injEq, Prod.mk.injEq] at h
    obtain ⟨rfl, rfl, rfl, rfl, rfl, rfl, rfl⟩ := h
    clear h'
    go_enter Try.func48, Try.ntmps48
    go_wp2_with fail
    refine (onFile_bad_disk A0_0 c0_0 l0_0 a0_1 A0_2 c0_2 l0_2 a0_3 A0_4 c0_4 l0_4 a0_5 a1 _ _ hv).mono ?_
    rintro e w1 ⟨v0, v2, v4, rfl, ho0, ho2, ho4, hb⟩
    obtain ⟨B0, d0, rfl, hd0, _⟩ := Kd.R_reads ho0
    obtain ⟨B2, d2, rfl, hd2, _⟩ := Kd.R_reads ho2
    obtain ⟨B4, d4, rfl, hd4, _⟩ := Kd.R_reads ho4
    have hB1 : Below w.heap.size w w1 := below_then (by with_reducible repeat (first | exact Below.refl _ _ | apply below_alloc)) (by simp; omega) hb
    have hz1 : w.heap.size + 1 < w1.heap.size := by have := hb.size; simp at this; omega
    have hy1 : w.heap.size < w1.heap.size := by omega
    have hzb := hb.size
    obtain ⟨hc1, hf1⟩ := bcell hb
    have HB1 := Aside0.mk hB1
    have HO0 := Aside0.mk ho0
    have HO2 := Aside0.mk ho2
    have HO4 := Aside0.mk ho4
    clear hB1 hb ho0 ho2 ho4
    go_wp2_with fail
    refine bodyPost_ret (v := .tuple #[.agg #[.slice B0 (([] : List Int)).length d0, .int .i64 (0), .slice B2 (([] : List Int)).length d2, .int .i64 (0), .slice B4 (([] : List Int)).length d4, .int .i64 (0)], .int .i64 (1)]) ?_ rfl ?_
    · simp [results, Try.results48, go_sem, hc1, hy1, hz1]
    · refine ⟨_, _, _, rfl, ?_, ?_, ?_, ?_⟩
      · exact R_store6 HO0.out (fun k hk => hk) (by simp) (by simp; omega)
      · exact R_store6 HO2.out (fun k hk => hk) (by simp) (by simp; omega)
      · exact R_store6 HO4.out (fun k hk => hk) (by simp) (by simp; omega)
      · exact below_store6 HB1.out (by omega)
  · by_cases e0 : a1 = 0
    · subst e0
      have h' : impl_DiskSync.f l0_0 a0_1 l0_2 a0_3 l0_4 a0_5 0 = some (l0_0, (l0_0.length : Int), l0_2, a0_3, l0_4, a0_5, 0) := by unfold impl_DiskSync.f; rw [if_pos hv, if_pos rfl]
      rw [h'] at h
      simp only [Option.some.injEq, Prod.mk.injEq] at h
      obtain ⟨rfl, rfl, rfl, rfl, rfl, rfl, rfl⟩ := h
      clear h'
      go_enter Try.func48, Try.ntmps48
      go_wp2_with fail
      refine (onFile_sync_0 A0_0 c0_0 l0_0 a0_1 A0_2 c0_2 l0_2 a0_3 A0_4 c0_4 l0_4 a0_5 _ (Kd.C_alloc (Kd.C_alloc HR0.out _) _) hc0_0 (Kd.C_alloc (Kd.C_alloc HR2.out _) _) hc0_2 (Kd.C_alloc (Kd.C_alloc HR4.out _) _) hc0_4 hv).mono ?_
      rintro e w1 ⟨v0, v2, v4, rfl, ho0, ho2, ho4, hb⟩
      obtain ⟨B0, d0, rfl, hd0, _⟩ := Kd.R_reads ho0
      obtain ⟨B2, d2, rfl, hd2, _⟩ := Kd.R_reads ho2
      obtain ⟨B4, d4, rfl, hd4, _⟩ := Kd.R_reads ho4
      have hB1 : Below w.heap.size w w1 := below_then (by with_reducible repeat (first | exact Below.refl _ _ | apply below_alloc)) (by simp; omega) hb
      have hz1 : w.heap.size + 1 < w1.heap.size := by have := hb.size; simp at this; omega
      have hy1 : w.heap.size < w1.heap.size := by omega
      have hzb := hb.size
      obtain ⟨hc1, hf1⟩ := bcell hb
      have HB1 := Aside0.mk hB1
      have HO0 := Aside0.mk ho0
      have HO2 := Aside0.mk ho2
      have HO4 := Aside0.mk ho4
      clear hB1 hb ho0 ho2 ho4
      go_wp2_with fail
      refine bodyPost_ret (v := .tuple #[.agg #[.slice B0 (l0_0).length d0, .int .i64 ((l0_0.length : Int)), .slice B2 (l0_2).length d2, .int .i64 (a0_3), .slice B4 (l0_4).length d4, .int .i64 (a0_5)], .int .i64 (0)]) ?_ rfl ?_
      · simp [results, Try.results48, go_sem, hc1, hy1, hz1]
      · refine ⟨_, _, _, rfl, ?_, ?_, ?_, ?_⟩
        · exact R_store6 HO0.out (fun k hk => hk) (by simp) (by simp; omega)
        · exact R_store6 HO2.out (fun k hk => hk) (by simp) (by simp; omega)
        · exact R_store6 HO4.out (fun k hk => hk) (by simp) (by simp; omega)
        · exact below_store6 HB1.out (by omega)
    · by_cases e1 : a1 = 1
      · subst e1
        have h' : impl_DiskSync.f l0_0 a0_1 l0_2 a0_3 l0_4 a0_5 1 = some (l0_0, a0_1, l0_2, (l0_2.length : Int), l0_4, a0_5, 0) := by unfold impl_DiskSync.f; rw [if_pos hv, if_neg (by omega), if_pos rfl]
        rw [h'] at h
        simp only [Option.some.injEq, Prod.mk.injEq] at h
        obtain ⟨rfl, rfl, rfl, rfl, rfl, rfl, rfl⟩ := h
        clear h'
        go_enter Try.func48, Try.ntmps48
        go_wp2_with fail
        refine (onFile_sync_1 A0_0 c0_0 l0_0 a0_1 A0_2 c0_2 l0_2 a0_3 A0_4 c0_4 l0_4 a0_5 _ (Kd.C_alloc (Kd.C_alloc HR0.out _) _) hc0_0 (Kd.C_alloc (Kd.C_alloc HR2.out _) _) hc0_2 (Kd.C_alloc (Kd.C_alloc HR4.out _) _) hc0_4 hv).mono ?_
        rintro e w1 ⟨v0, v2, v4, rfl, ho0, ho2, ho4, hb⟩
        obtain ⟨B0, d0, rfl, hd0, _⟩ := Kd.R_reads ho0
        obtain ⟨B2, d2, rfl, hd2, _⟩ := Kd.R_reads ho2
        obtain ⟨B4, d4, rfl, hd4, _⟩ := Kd.R_reads ho4
        have hB1 : Below w.heap.size w w1 := below_then (by with_reducible repeat (first | exact Below.refl _ _ | apply below_alloc)) (by simp; omega) hb
        have hz1 : w.heap.size + 1 < w1.heap.size := by have := hb.size; simp at this; omega
        have hy1 : w.heap.size < w1.heap.size := by omega
        have hzb := hb.size
        obtain ⟨hc1, hf1⟩ := bcell hb
        have HB1 := Aside0.mk hB1
        have HO0 := Aside0.mk ho0
        have HO2 := Aside0.mk ho2
        have HO4 := Aside0.mk ho4
        clear hB1 hb ho0 ho2 ho4
        go_wp2_with fail
        refine bodyPost_ret (v := .tuple #[.agg #[.slice B0 (l0_0).length d0, .int .i64 (a0_1), .slice B2 (l0_2).length d2, .int .i64 ((l0_2.length : Int)), .slice B4 (l0_4).length d4, .int .i64 (a0_5)], .int .i64 (0)]) ?_ rfl ?_
        · simp [results, Try.results48, go_sem, hc1, hy1, hz1]
        · refine ⟨_, _, _, rfl, ?_, ?_, ?_, ?_⟩
          · exact R_store6 HO0.out (fun k hk => hk) (by simp) (by simp; omega)
          · exact R_store6 HO2.out (fun k hk => hk) (by simp) (by simp; omega)
          · exact R_store6 HO4.out (fun k hk => hk) (by simp) (by simp; omega)
          · exact below_store6 HB1.out (by omega)
      · by_cases e2 : a1 = 2
        · subst e2
          have h' : impl_DiskSync.f l0_0 a0_1 l0_2 a0_3 l0_4 a0_5 2 = some (l0_0, a0_1, l0_2, a0_3, l0_4, (l0_4.length : Int), 0) := by unfold impl_DiskSync.f; rw [if_pos hv, if_neg (by omega), if_neg (by omega), if_pos rfl]
          rw [h'] at h
          simp only [Option.some.injEq, Prod.mk.injEq] at h
          obtain ⟨rfl, rfl, rfl, rfl, rfl, rfl, rfl⟩ := h
          clear h'
          go_enter Try.func48, Try.ntmps48
          go_wp2_with fail
          refine (onFile_sync_2 A0_0 c0_0 l0_0 a0_1 A0_2 c0_2 l0_2 a0_3 A0_4 c0_4 l0_4 a0_5 _ (Kd.C_alloc (Kd.C_alloc HR0.out _) _) hc0_0 (Kd.C_alloc (Kd.C_alloc HR2.out _) _) hc0_2 (Kd.C_alloc (Kd.C_alloc HR4.out _) _) hc0_4 hv).mono ?_
          rintro e w1 ⟨v0, v2, v4, rfl, ho0, ho2, ho4, hb⟩
          obtain ⟨B0, d0, rfl, hd0, _⟩ := Kd.R_reads ho0
          obtain ⟨B2, d2, rfl, hd2, _⟩ := Kd.R_reads ho2
          obtain ⟨B4, d4, rfl, hd4, _⟩ := Kd.R_reads ho4
          have hB1 : Below w.heap.size w w1 := below_then (by with_reducible repeat (first | exact Below.refl _ _ | apply below_alloc)) (by simp; omega) hb
          have hz1 : w.heap.size + 1 < w1.heap.size := by have := hb.size; simp at this; omega
          have hy1 : w.heap.size < w1.heap.size := by omega
          have hzb := hb.size
          obtain ⟨hc1, hf1⟩ := bcell hb
          have HB1 := Aside0.mk hB1
          have HO0 := Aside0.mk ho0
          have HO2 := Aside0.mk ho2
          have HO4 := Aside0.mk ho4
          clear hB1 hb ho0 ho2 ho4
          go_wp2_with fail
          refine bodyPost_ret (v := .tuple #[.agg #[.slice B0 (l0_0).length d0, .int .i64 (a0_1), .slice B2 (l0_2).length d2, .int .i64 (a0_3), .slice B4 (l0_4).length d4, .int .i64 ((l0_4.length : Int))], .int .i64 (0)]) ?_ rfl ?_
          · simp [results, Try.results48, go_sem, hc1, hy1, hz1]
          · refine ⟨_, _, _, rfl, ?_, ?_, ?_, ?_⟩
            · exact R_store6 HO0.out (fun k hk => hk) (by simp) (by simp; omega)
            · exact R_store6 HO2.out (fun k hk => hk) (by simp) (by simp; omega)
            · exact R_store6 HO4.out (fun k hk => hk) (by simp) (by simp; omega)
            · exact below_store6 HB1.out (by omega)
        · by_cases hn : a1 < 0
          · have h' : impl_DiskSync.f l0_0 a0_1 l0_2 a0_3 l0_4 a0_5 a1 = some ([], 0, [], 0, [], 0, 1) := by unfold impl_DiskSync.f; rw [if_pos hv, if_neg (by omega), if_neg (by omega), if_neg (by omega)]
            rw [h'] at h
            simp only [Option.some.injEq, Prod.mk.injEq] at h
            obtain ⟨rfl, rfl, rfl, rfl, rfl, rfl, rfl⟩ := h
            clear h'
            go_enter Try.func48, Try.ntmps48
            go_wp2_with fail
            refine (onFile_bad_neg A0_0 c0_0 l0_0 a0_1 A0_2 c0_2 l0_2 a0_3 A0_4 c0_4 l0_4 a0_5 a1 _ _ hv hn).mono ?_
            rintro e w1 ⟨v0, v2, v4, rfl, ho0, ho2, ho4, hb⟩
            obtain ⟨B0, d0, rfl, hd0, _⟩ := Kd.R_reads ho0
            obtain ⟨B2, d2, rfl, hd2, _⟩ := Kd.R_reads ho2
            obtain ⟨B4, d4, rfl, hd4, _⟩ := Kd.R_reads ho4
            have hB1 : Below w.heap.size w w1 := below_then (by with_reducible repeat (first | exact Below.refl _ _ | apply below_alloc)) (by simp; omega) hb
            have hz1 : w.heap.size + 1 < w1.heap.size := by have := hb.size; simp at this; omega
            have hy1 : w.heap.size < w1.heap.size := by omega
            have hzb := hb.size
            obtain ⟨hc1, hf1⟩ := bcell hb
            have HB1 := Aside0.mk hB1
            have HO0 := Aside0.mk ho0
            have HO2 := Aside0.mk ho2
            have HO4 := Aside0.mk ho4
            clear hB1 hb ho0 ho2 ho4
            go_wp2_with fail
            refine bodyPost_ret (v := .tuple #[.agg #[.slice B0 (([] : List Int)).length d0, .int .i64 (0), .slice B2 (([] : List Int)).length d2, .int .i64 (0), .slice B4 (([] : List Int)).length d4, .int .i64 (0)], .int .i64 (1)]) ?_ rfl ?_
            · simp [results, Try.results48, go_sem, hc1, hy1, hz1]
            · refine ⟨_, _, _, rfl, ?_, ?_, ?_, ?_⟩
              · exact R_store6 HO0.out (fun k hk => hk) (by simp) (by simp; omega)
              · exact R_store6 HO2.out (fun k hk => hk) (by simp) (by simp; omega)
              · exact R_store6 HO4.out (fun k hk => hk) (by simp) (by simp; omega)
              · exact below_store6 HB1.out (by omega)
          · have h' : impl_DiskSync.f l0_0 a0_1 l0_2 a0_3 l0_4 a0_5 a1 = some ([], 0, [], 0, [], 0, 1) := by unfold impl_DiskSync.f; rw [if_pos hv, if_neg (by omega), if_neg (by omega), if_neg (by omega)]
            rw [h'] at h
            simp only [Option.some.injEq, Prod.mk.injEq] at h
            obtain ⟨rfl, rfl, rfl, rfl, rfl, rfl, rfl⟩ := h
            clear h'
            go_enter Try.func48, Try.ntmps48
            go_wp2_with fail
            refine (onFile_bad_big A0_0 c0_0 l0_0 a0_1 A0_2 c0_2 l0_2 a0_3 A0_4 c0_4 l0_4 a0_5 a1 _ _ hv (by omega)).mono ?_
            rintro e w1 ⟨v0, v2, v4, rfl, ho0, ho2, ho4, hb⟩
            obtain ⟨B0, d0, rfl, hd0, _⟩ := Kd.R_reads ho0
            obtain ⟨B2, d2, rfl, hd2, _⟩ := Kd.R_reads ho2
            obtain ⟨B4, d4, rfl, hd4, _⟩ := Kd.R_reads ho4
            have hB1 : Below w.heap.size w w1 := below_then (by with_reducible repeat (first | exact Below.refl _ _ | apply below_alloc)) (by simp; omega) hb
            have hz1 : w.heap.size + 1 < w1.heap.size := by have := hb.size; simp at this; omega
            have hy1 : w.heap.size < w1.heap.size := by omega
            have hzb := hb.size
            obtain ⟨hc1, hf1⟩ := bcell hb
            have HB1 := Aside0.mk hB1
            have HO0 := Aside0.mk ho0
            have HO2 := Aside0.mk ho2
            have HO4 := Aside0.mk ho4
            clear hB1 hb ho0 ho2 ho4
            go_wp2_with fail
            refine bodyPost_ret (v := .tuple #[.agg #[.slice B0 (([] : List Int)).length d0, .int .i64 (0), .slice B2 (([] : List Int)).length d2, .int .i64 (0), .slice B4 (([] : List Int)).length d4, .int .i64 (0)], .int .i64 (1)]) ?_ rfl ?_
            · simp [results, Try.results48, go_sem, hc1, hy1, hz1]
            · refine ⟨_, _, _, rfl, ?_, ?_, ?_, ?_⟩
              · exact R_store6 HO0.out (fun k hk => hk) (by simp) (by simp; omega)
              · exact R_store6 HO2.out (fun k hk => hk) (by simp) (by simp; omega)
              · exact R_store6 HO4.out (fun k hk => hk) (by simp) (by simp; omega)
              · exact below_store6 HB1.out (by omega)

def impl_DiskAppend.f0 (l0_0 : List Int) (a0_1 : Int) (l0_2 : List Int) (a0_3 : Int) (l0_4 : List Int) (a0_5 : Int) (a1 : Int) (l2 : List Int) : Option (List Int × Int × List Int × Int × List Int × Int × Int) :=
  if okDisk l0_0 a0_1 l0_2 a0_3 l0_4 a0_5 = true then (if a1 = 0 then (if l0_0.length + l2.length ≤ 200000 then some (l0_0 ++ l2, a0_1, l0_2, a0_3, l0_4, a0_5, 0) else some (l0_0, a0_1, l0_2, a0_3, l0_4, a0_5, 11)) else if a1 = 1 then (if l0_2.length + l2.length ≤ 200000 then some (l0_0, a0_1, l0_2 ++ l2, a0_3, l0_4, a0_5, 0) else some (l0_0, a0_1, l0_2, a0_3, l0_4, a0_5, 11)) else if a1 = 2 then (if l0_4.length + l2.length ≤ 200000 then some (l0_0, a0_1, l0_2, a0_3, l0_4 ++ l2, a0_5, 0) else some (l0_0, a0_1, l0_2, a0_3, l0_4, a0_5, 11)) else some ([], 0, [], 0, [], 0, 1)) else some ([], 0, [], 0, [], 0, 1)

theorem reads_len {α : Type} {R : α → List Value → Prop} {size : Nat} {w : World} {A : Option Addr} {n : Nat} {l : List α} (h : ReadsRow R size w A n l) : l.length ≤ 9223372036854775807 := h.1 ▸ h.2.1
set_option maxHeartbeats 1600000 in
set_option maxRecDepth 100000 in
theorem impl_DiskAppend.calls0 (A0_0 : Option Addr) (c0_0 : Nat) (l0_0 : List Int) (a0_1 : Int) (A0_2 : Option Addr) (c0_2 : Nat) (l0_2 : List Int) (a0_3 : Int) (A0_4 : Option Addr) (c0_4 : Nat) (l0_4 : List Int) (a0_5 : Int) (a1 : Int) (A2 : Option Addr) (c2 : Nat) (l2 : List Int) (r1 : List Int) (r2 : Int) (r3 : List Int) (r4 : Int) (r5 : List Int) (r6 : Int) (r7 : Int) (w : World) (hr0_0 : Kd.C (Kd.int .u8) w A0_0 l0_0.length l0_0) (hc0_0 : l0_0.length ≤ c0_0) (hr0_2 : Kd.C (Kd.int .u8) w A0_2 l0_2.length l0_2) (hc0_2 : l0_2.length ≤ c0_2) (hr0_4 : Kd.C (Kd.int .u8) w A0_4 l0_4.length l0_4) (hc0_4 : l0_4.length ≤ c0_4) (hr2 : Kd.C (Kd.int .u8) w A2 l2.length l2) (hc2 : l2.length ≤ c2) (hl2 : l2.length ≤ 140737488355328) (h : impl_DiskAppend.f0 l0_0 a0_1 l0_2 a0_3 l0_4 a0_5 a1 l2 = some (r1, r2, r3, r4, r5, r6, r7)) :
    Calls Try.prog 50 #[.agg #[.slice A0_0 l0_0.length c0_0, .int .i64 a0_1, .slice A0_2 l0_2.length c0_2, .int .i64 a0_3, .slice A0_4 l0_4.length c0_4, .int .i64 a0_5], .int .i64 a1, .slice A2 l2.length c2] w fun e w' => ∃ v0_ v2_ v4_ : Value, e = .returned (.tuple #[.agg #[v0_, .int .i64 r2, v2_, .int .i64 r4, v4_, .int .i64 r6], .int .i64 r7]) ∧ Kd.R (Kd.int .u8) 5 w' w.heap.size (fun k_ => some k_ ≠ (v2_ : Value).ownBlock ∧ some k_ ≠ (v4_ : Value).ownBlock) v0_ r1 ∧ Kd.R (Kd.int .u8) 5 w' w.heap.size (fun k_ => some k_ ≠ (v0_ : Value).ownBlock ∧ some k_ ≠ (v4_ : Value).ownBlock) v2_ r3 ∧ Kd.R (Kd.int .u8) 5 w' w.heap.size (fun k_ => some k_ ≠ (v0_ : Value).ownBlock ∧ some k_ ≠ (v2_ : Value).ownBlock) v4_ r5 ∧ Below w.heap.size w w' := by
  have HR0 := Aside0.mk hr0_0
  have HR2 := Aside0.mk hr0_2
  have HR4 := Aside0.mk hr0_4
  clear hr0_0 hr0_2 hr0_4
  have HRB := Aside0.mk hr2
  clear hr2
  rcases hv : okDisk l0_0 a0_1 l0_2 a0_3 l0_4 a0_5 with _ | _
  · have h' : impl_DiskAppend.f0 l0_0 a0_1 l0_2 a0_3 l0_4 a0_5 a1 l2 = some ([], 0, [], 0, [], 0, 1) := by unfold impl_DiskAppend.f0; rw [hv, if_neg (by decide)]
    rw [h'] at h
    simp only [Option.some.injEq, Prod.mk.injEq] at h
    obtain ⟨rfl, rfl, rfl, rfl, rfl, rfl, rfl⟩ := h
    clear h'
    go_enter Try.func50, Try.ntmps50
    go_wp2_with fail
    refine (onFile_bad_disk A0_0 c0_0 l0_0 a0_1 A0_2 c0_2 l0_2 a0_3 A0_4 c0_4 l0_4 a0_5 a1 _ _ hv).mono ?_
    rintro e w1 ⟨v0, v2, v4, rfl, ho0, ho2, ho4, hb⟩
    obtain ⟨B0, d0, rfl, hd0, _⟩ := Kd.R_reads ho0
    obtain ⟨B2, d2, rfl, hd2, _⟩ := Kd.R_reads ho2
    obtain ⟨B4, d4, rfl, hd4, _⟩ := Kd.R_reads ho4
    have hB1 : Below w.heap.size w w1 := below_then (by with_reducible repeat (first | exact Below.refl _ _ | apply below_alloc)) (by simp; omega) hb
    have hz1 : w.heap.size + 1 < w1.heap.size := by have := hb.size; simp at this; omega
    have hy1 : w.heap.size < w1.heap.size := by omega
    have hx1 : w.heap.size + 1 + 1 < w1.heap.size := by have := hb.size; simp at this; omega
    have hzb := hb.size
    obtain ⟨hc1, hf1⟩ := bcell hb
    have HB1 := Aside0.mk hB1
    have HO0 := Aside0.mk ho0
    have HO2 := Aside0.mk ho2
    have HO4 := Aside0.mk ho4
    clear hB1 hb ho0 ho2 ho4
    go_wp2_with fail
    refine bodyPost_ret (v := .tuple #[.agg #[.slice B0 (([] : List Int)).length d0, .int .i64 (0), .slice B2 (([] : List Int)).length d2, .int .i64 (0), .slice B4 (([] : List Int)).length d4, .int .i64 (0)], .int .i64 (1)]) ?_ rfl ?_
    · simp [results, Try.results50, go_sem, hc1, hy1, hz1, hx1]
    · refine ⟨_, _, _, rfl, ?_, ?_, ?_, ?_⟩
      · exact R_store6 HO0.out (fun k hk => hk) (by simp) (by simp; omega)
      · exact R_store6 HO2.out (fun k hk => hk) (by simp) (by simp; omega)
      · exact R_store6 HO4.out (fun k hk => hk) (by simp) (by simp; omega)
      · exact below_store6 HB1.out (by omega)
  · by_cases e0 : a1 = 0
    · subst e0
      by_cases hx : l0_0.length + l2.length ≤ 200000
      · have h' : impl_DiskAppend.f0 l0_0 a0_1 l0_2 a0_3 l0_4 a0_5 0 l2 = some (l0_0 ++ l2, a0_1, l0_2, a0_3, l0_4, a0_5, 0) := by unfold impl_DiskAppend.f0; rw [if_pos hv, if_pos rfl, if_pos hx]
        rw [h'] at h
        simp only [Option.some.injEq, Prod.mk.injEq] at h
        obtain ⟨rfl, rfl, rfl, rfl, rfl, rfl, rfl⟩ := h
        clear h'
        go_enter Try.func50, Try.ntmps50
        go_wp2_with fail
        refine (onFile_yes_0 A0_0 c0_0 l0_0 a0_1 A0_2 c0_2 l0_2 a0_3 A0_4 c0_4 l0_4 a0_5 (w.heap.size + 1) A2 c2 l2 _ (Kd.C_alloc (Kd.C_alloc (Kd.C_alloc HR0.out _) _) _) hc0_0 (Kd.C_alloc (Kd.C_alloc (Kd.C_alloc HR2.out _) _) _) hc0_2 (Kd.C_alloc (Kd.C_alloc (Kd.C_alloc HR4.out _) _) _) hc0_4 (by go_simp) (by simp) (Kd.C_alloc (Kd.C_alloc (Kd.C_alloc HRB.out _) _) _) hc2 hx hv).mono ?_
        rintro e w1 ⟨v0, v2, v4, rfl, ho0, ho2, ho4, hb⟩
        obtain ⟨B0, d0, rfl, hd0, _⟩ := Kd.R_reads ho0
        obtain ⟨B2, d2, rfl, hd2, _⟩ := Kd.R_reads ho2
        obtain ⟨B4, d4, rfl, hd4, _⟩ := Kd.R_reads ho4
        have hB1 : Below w.heap.size w w1 := below_then (by with_reducible repeat (first | exact Below.refl _ _ | apply below_alloc)) (by simp; omega) hb
        have hz1 : w.heap.size + 1 < w1.heap.size := by have := hb.size; simp at this; omega
        have hy1 : w.heap.size < w1.heap.size := by omega
        have hx1 : w.heap.size + 1 + 1 < w1.heap.size := by have := hb.size; simp at this; omega
        have hzb := hb.size
        obtain ⟨hc1, hf1⟩ := bcell hb
        have HB1 := Aside0.mk hB1
        have HO0 := Aside0.mk ho0
        have HO2 := Aside0.mk ho2
        have HO4 := Aside0.mk ho4
        clear hB1 hb ho0 ho2 ho4
        go_wp2_with fail
        refine bodyPost_ret (v := .tuple #[.agg #[.slice B0 (l0_0 ++ l2).length d0, .int .i64 (a0_1), .slice B2 (l0_2).length d2, .int .i64 (a0_3), .slice B4 (l0_4).length d4, .int .i64 (a0_5)], .int .i64 (0)]) ?_ rfl ?_
        · simp [results, Try.results50, go_sem, hc1, hy1, hz1, hx1]
        · refine ⟨_, _, _, rfl, ?_, ?_, ?_, ?_⟩
          · exact R_store6 HO0.out (fun k hk => hk) (by simp) (by simp; omega)
          · exact R_store6 HO2.out (fun k hk => hk) (by simp) (by simp; omega)
          · exact R_store6 HO4.out (fun k hk => hk) (by simp) (by simp; omega)
          · exact below_store6 HB1.out (by omega)
      · have h' : impl_DiskAppend.f0 l0_0 a0_1 l0_2 a0_3 l0_4 a0_5 0 l2 = some (l0_0, a0_1, l0_2, a0_3, l0_4, a0_5, 11) := by unfold impl_DiskAppend.f0; rw [if_pos hv, if_pos rfl, if_neg hx]
        rw [h'] at h
        simp only [Option.some.injEq, Prod.mk.injEq] at h
        obtain ⟨rfl, rfl, rfl, rfl, rfl, rfl, rfl⟩ := h
        clear h'
        go_enter Try.func50, Try.ntmps50
        go_wp2_with fail
        refine (onFile_no_0 A0_0 c0_0 l0_0 a0_1 A0_2 c0_2 l0_2 a0_3 A0_4 c0_4 l0_4 a0_5 (w.heap.size + 1) A2 c2 l2 _ (Kd.C_alloc (Kd.C_alloc (Kd.C_alloc HR0.out _) _) _) hc0_0 (Kd.C_alloc (Kd.C_alloc (Kd.C_alloc HR2.out _) _) _) hc0_2 (Kd.C_alloc (Kd.C_alloc (Kd.C_alloc HR4.out _) _) _) hc0_4 (by go_simp) (by simp) (Kd.C_alloc (Kd.C_alloc (Kd.C_alloc HRB.out _) _) _) hc2 (by omega) hl2 hv).mono ?_
        rintro e w1 ⟨v0, v2, v4, rfl, ho0, ho2, ho4, hb⟩
        obtain ⟨B0, d0, rfl, hd0, _⟩ := Kd.R_reads ho0
        obtain ⟨B2, d2, rfl, hd2, _⟩ := Kd.R_reads ho2
        obtain ⟨B4, d4, rfl, hd4, _⟩ := Kd.R_reads ho4
        have hB1 : Below w.heap.size w w1 := below_then (by with_reducible repeat (first | exact Below.refl _ _ | apply below_alloc)) (by simp; omega) hb
        have hz1 : w.heap.size + 1 < w1.heap.size := by have := hb.size; simp at this; omega
        have hy1 : w.heap.size < w1.heap.size := by omega
        have hx1 : w.heap.size + 1 + 1 < w1.heap.size := by have := hb.size; simp at this; omega
        have hzb := hb.size
        obtain ⟨hc1, hf1⟩ := bcell hb
        have HB1 := Aside0.mk hB1
        have HO0 := Aside0.mk ho0
        have HO2 := Aside0.mk ho2
        have HO4 := Aside0.mk ho4
        clear hB1 hb ho0 ho2 ho4
        go_wp2_with fail
        refine bodyPost_ret (v := .tuple #[.agg #[.slice B0 (l0_0).length d0, .int .i64 (a0_1), .slice B2 (l0_2).length d2, .int .i64 (a0_3), .slice B4 (l0_4).length d4, .int .i64 (a0_5)], .int .i64 (11)]) ?_ rfl ?_
        · simp [results, Try.results50, go_sem, hc1, hy1, hz1, hx1]
        · refine ⟨_, _, _, rfl, ?_, ?_, ?_, ?_⟩
          · exact R_store6 HO0.out (fun k hk => hk) (by simp) (by simp; omega)
          · exact R_store6 HO2.out (fun k hk => hk) (by simp) (by simp; omega)
          · exact R_store6 HO4.out (fun k hk => hk) (by simp) (by simp; omega)
          · exact below_store6 HB1.out (by omega)
    · by_cases e1 : a1 = 1
      · subst e1
        by_cases hx : l0_2.length + l2.length ≤ 200000
        · have h' : impl_DiskAppend.f0 l0_0 a0_1 l0_2 a0_3 l0_4 a0_5 1 l2 = some (l0_0, a0_1, l0_2 ++ l2, a0_3, l0_4, a0_5, 0) := by unfold impl_DiskAppend.f0; rw [if_pos hv, if_neg (by omega), if_pos rfl, if_pos hx]
          rw [h'] at h
          simp only [Option.some.injEq, Prod.mk.injEq] at h
          obtain ⟨rfl, rfl, rfl, rfl, rfl, rfl, rfl⟩ := h
          clear h'
          go_enter Try.func50, Try.ntmps50
          go_wp2_with fail
          refine (onFile_yes_1 A0_0 c0_0 l0_0 a0_1 A0_2 c0_2 l0_2 a0_3 A0_4 c0_4 l0_4 a0_5 (w.heap.size + 1) A2 c2 l2 _ (Kd.C_alloc (Kd.C_alloc (Kd.C_alloc HR0.out _) _) _) hc0_0 (Kd.C_alloc (Kd.C_alloc (Kd.C_alloc HR2.out _) _) _) hc0_2 (Kd.C_alloc (Kd.C_alloc (Kd.C_alloc HR4.out _) _) _) hc0_4 (by go_simp) (by simp) (Kd.C_alloc (Kd.C_alloc (Kd.C_alloc HRB.out _) _) _) hc2 hx hv).mono ?_
          rintro e w1 ⟨v0, v2, v4, rfl, ho0, ho2, ho4, hb⟩
          obtain ⟨B0, d0, rfl, hd0, _⟩ := Kd.R_reads ho0
          obtain ⟨B2, d2, rfl, hd2, _⟩ := Kd.R_reads ho2
          obtain ⟨B4, d4, rfl, hd4, _⟩ := Kd.R_reads ho4
          have hB1 : Below w.heap.size w w1 := below_then (by with_reducible repeat (first | exact Below.refl _ _ | apply below_alloc)) (by simp; omega) hb
          have hz1 : w.heap.size + 1 < w1.heap.size := by have := hb.size; simp at this; omega
          have hy1 : w.heap.size < w1.heap.size := by omega
          have hx1 : w.heap.size + 1 + 1 < w1.heap.size := by have := hb.size; simp at this; omega
          have hzb := hb.size
          obtain ⟨hc1, hf1⟩ := bcell hb
          have HB1 := Aside0.mk hB1
          have HO0 := Aside0.mk ho0
          have HO2 := Aside0.mk ho2
          have HO4 := Aside0.mk ho4
          clear hB1 hb ho0 ho2 ho4
          go_wp2_with fail
          refine bodyPost_ret (v := .tuple #[.agg #[.slice B0 (l0_0).length d0, .int .i64 (a0_1), .slice B2 (l0_2 ++ l2).length d2, .int .i64 (a0_3), .slice B4 (l0_4).length d4, .int .i64 (a0_5)], .int .i64 (0)]) ?_ rfl ?_
          · simp [results, Try.results50, go_sem, hc1, hy1, hz1, hx1]
          · refine ⟨_, _, _, rfl, ?_, ?_, ?_, ?_⟩
            · exact R_store6 HO0.out (fun k hk => hk) (by simp) (by simp; omega)
            · exact R_store6 HO2.out (fun k hk => hk) (by simp) (by simp; omega)
            · exact R_store6 HO4.out (fun k hk => hk) (by simp) (by simp; omega)
            · exact below_store6 HB1.out (by omega)
        · have h' : impl_DiskAppend.f0 l0_0 a0_1 l0_2 a0_3 l0_4 a0_5 1 l2 = some (l0_0, a0_1, l0_2, a0_3, l0_4, a0_5, 11) := by unfold impl_DiskAppend.f0; rw [if_pos hv, if_neg (by omega), if_pos rfl, if_neg hx]
          rw [h'] at h
          simp only [Option.some.injEq, Prod.mk.injEq] at h
          obtain ⟨rfl, rfl, rfl, rfl, rfl, rfl, rfl⟩ := h
          clear h'
          go_enter Try.func50, Try.ntmps50
          go_wp2_with fail
          refine (onFile_no_1 A0_0 c0_0 l0_0 a0_1 A0_2 c0_2 l0_2 a0_3 A0_4 c0_4 l0_4 a0_5 (w.heap.size + 1) A2 c2 l2 _ (Kd.C_alloc (Kd.C_alloc (Kd.C_alloc HR0.out _) _) _) hc0_0 (Kd.C_alloc (Kd.C_alloc (Kd.C_alloc HR2.out _) _) _) hc0_2 (Kd.C_alloc (Kd.C_alloc (Kd.C_alloc HR4.out _) _) _) hc0_4 (by go_simp) (by simp) (Kd.C_alloc (Kd.C_alloc (Kd.C_alloc HRB.out _) _) _) hc2 (by omega) hl2 hv).mono ?_
          rintro e w1 ⟨v0, v2, v4, rfl, ho0, ho2, ho4, hb⟩
          obtain ⟨B0, d0, rfl, hd0, _⟩ := Kd.R_reads ho0
          obtain ⟨B2, d2, rfl, hd2, _⟩ := Kd.R_reads ho2
          obtain ⟨B4, d4, rfl, hd4, _⟩ := Kd.R_reads ho4
          have hB1 : Below w.heap.size w w1 := below_then (by with_reducible repeat (first | exact Below.refl _ _ | apply below_alloc)) (by simp; omega) hb
          have hz1 : w.heap.size + 1 < w1.heap.size := by have := hb.size; simp at this; omega
          have hy1 : w.heap.size < w1.heap.size := by omega
          have hx1 : w.heap.size + 1 + 1 < w1.heap.size := by have := hb.size; simp at this; omega
          have hzb := hb.size
          obtain ⟨hc1, hf1⟩ := bcell hb
          have HB1 := Aside0.mk hB1
          have HO0 := Aside0.mk ho0
          have HO2 := Aside0.mk ho2
          have HO4 := Aside0.mk ho4
          clear hB1 hb ho0 ho2 ho4
          go_wp2_with fail
          refine bodyPost_ret (v := .tuple #[.agg #[.slice B0 (l0_0).length d0, .int .i64 (a0_1), .slice B2 (l0_2).length d2, .int .i64 (a0_3), .slice B4 (l0_4).length d4, .int .i64 (a0_5)], .int .i64 (11)]) ?_ rfl ?_
          · simp [results, Try.results50, go_sem, hc1, hy1, hz1, hx1]
          · refine ⟨_, _, _, rfl, ?_, ?_, ?_, ?_⟩
            · exact R_store6 HO0.out (fun k hk => hk) (by simp) (by simp; omega)
            · exact R_store6 HO2.out (fun k hk => hk) (by simp) (by simp; omega)
            · exact R_store6 HO4.out (fun k hk => hk) (by simp) (by simp; omega)
            · exact below_store6 HB1.out (by omega)
      · by_cases e2 : a1 = 2
        · subst e2
          by_cases hx : l0_4.length + l2.length ≤ 200000
          · have h' : impl_DiskAppend.f0 l0_0 a0_1 l0_2 a0_3 l0_4 a0_5 2 l2 = some (l0_0, a0_1, l0_2, a0_3, l0_4 ++ l2, a0_5, 0) := by unfold impl_DiskAppend.f0; rw [if_pos hv, if_neg (by omega), if_neg (by omega), if_pos rfl, if_pos hx]
            rw [h'] at h
            simp only [Option.some.injEq, Prod.mk.injEq] at h
            obtain ⟨rfl, rfl, rfl, rfl, rfl, rfl, rfl⟩ := h
            clear h'
            go_enter Try.func50, Try.ntmps50
            go_wp2_with fail
            refine (onFile_yes_2 A0_0 c0_0 l0_0 a0_1 A0_2 c0_2 l0_2 a0_3 A0_4 c0_4 l0_4 a0_5 (w.heap.size + 1) A2 c2 l2 _ (Kd.C_alloc (Kd.C_alloc (Kd.C_alloc HR0.out _) _) _) hc0_0 (Kd.C_alloc (Kd.C_alloc (Kd.C_alloc HR2.out _) _) _) hc0_2 (Kd.C_alloc (Kd.C_alloc (Kd.C_alloc HR4.out _) _) _) hc0_4 (by go_simp) (by simp) (Kd.C_alloc (Kd.C_alloc (Kd.C_alloc HRB.out _) _) _) hc2 hx hv).mono ?_
            rintro e w1 ⟨v0, v2, v4, rfl, ho0, ho2, ho4, hb⟩
            obtain ⟨B0, d0, rfl, hd0, _⟩ := Kd.R_reads ho0
            obtain ⟨B2, d2, rfl, hd2, _⟩ := Kd.R_reads ho2
            obtain ⟨B4, d4, rfl, hd4, _⟩ := Kd.R_reads ho4
            have hB1 : Below w.heap.size w w1 := below_then (by with_reducible repeat (first | exact Below.refl _ _ | apply below_alloc)) (by simp; omega) hb
            have hz1 : w.heap.size + 1 < w1.heap.size := by have := hb.size; simp at this; omega
            have hy1 : w.heap.size < w1.heap.size := by omega
            have hx1 : w.heap.size + 1 + 1 < w1.heap.size := by have := hb.size; simp at this; omega
            have hzb := hb.size
            obtain ⟨hc1, hf1⟩ := bcell hb
            have HB1 := Aside0.mk hB1
            have HO0 := Aside0.mk ho0
            have HO2 := Aside0.mk ho2
            have HO4 := Aside0.mk ho4
            clear hB1 hb ho0 ho2 ho4
            go_wp2_with fail
            refine bodyPost_ret (v := .tuple #[.agg #[.slice B0 (l0_0).length d0, .int .i64 (a0_1), .slice B2 (l0_2).length d2, .int .i64 (a0_3), .slice B4 (l0_4 ++ l2).length d4, .int .i64 (a0_5)], .int .i64 (0)]) ?_ rfl ?_
            · simp [results, Try.results50, go_sem, hc1, hy1, hz1, hx1]
            · refine ⟨_, _, _, rfl, ?_, ?_, ?_, ?_⟩
              · exact R_store6 HO0.out (fun k hk => hk) (by simp) (by simp; omega)
              · exact R_store6 HO2.out (fun k hk => hk) (by simp) (by simp; omega)
              · exact R_store6 HO4.out (fun k hk => hk) (by simp) (by simp; omega)
              · exact below_store6 HB1.out (by omega)
          · have h' : impl_DiskAppend.f0 l0_0 a0_1 l0_2 a0_3 l0_4 a0_5 2 l2 = some (l0_0, a0_1, l0_2, a0_3, l0_4, a0_5, 11) := by unfold impl_DiskAppend.f0; rw [if_pos hv, if_neg (by omega), if_neg (by omega), if_pos rfl, if_neg hx]
            rw [h'] at h
            simp only [Option.some.injEq, Prod.mk.injEq] at h
            obtain ⟨rfl, rfl, rfl, rfl, rfl, rfl, rfl⟩ := h
            clear h'
            go_enter Try.func50, Try.ntmps50
            go_wp2_with fail
            refine (onFile_no_2 A0_0 c0_0 l0_0 a0_1 A0_2 c0_2 l0_2 a0_3 A0_4 c0_4 l0_4 a0_5 (w.heap.size + 1) A2 c2 l2 _ (Kd.C_alloc (Kd.C_alloc (Kd.C_alloc HR0.out _) _) _) hc0_0 (Kd.C_alloc (Kd.C_alloc (Kd.C_alloc HR2.out _) _) _) hc0_2 (Kd.C_alloc (Kd.C_alloc (Kd.C_alloc HR4.out _) _) _) hc0_4 (by go_simp) (by simp) (Kd.C_alloc (Kd.C_alloc (Kd.C_alloc HRB.out _) _) _) hc2 (by omega) hl2 hv).mono ?_
            rintro e w1 ⟨v0, v2, v4, rfl, ho0, ho2, ho4, hb⟩
            obtain ⟨B0, d0, rfl, hd0, _⟩ := Kd.R_reads ho0
            obtain ⟨B2, d2, rfl, hd2, _⟩ := Kd.R_reads ho2
            obtain ⟨B4, d4, rfl, hd4, _⟩ := Kd.R_reads ho4
            have hB1 : Below w.heap.size w w1 := below_then (by with_reducible repeat (first | exact Below.refl _ _ | apply below_alloc)) (by simp; omega) hb
            have hz1 : w.heap.size + 1 < w1.heap.size := by have := hb.size; simp at this; omega
            have hy1 : w.heap.size < w1.heap.size := by omega
            have hx1 : w.heap.size + 1 + 1 < w1.heap.size := by have := hb.size; simp at this; omega
            have hzb := hb.size
            obtain ⟨hc1, hf1⟩ := bcell hb
            have HB1 := Aside0.mk hB1
            have HO0 := Aside0.mk ho0
            have HO2 := Aside0.mk ho2
            have HO4 := Aside0.mk ho4
            clear hB1 hb ho0 ho2 ho4
            go_wp2_with fail
            refine bodyPost_ret (v := .tuple #[.agg #[.slice B0 (l0_0).length d0, .int .i64 (a0_1), .slice B2 (l0_2).length d2, .int .i64 (a0_3), .slice B4 (l0_4).length d4, .int .i64 (a0_5)], .int .i64 (11)]) ?_ rfl ?_
            · simp [results, Try.results50, go_sem, hc1, hy1, hz1, hx1]
            · refine ⟨_, _, _, rfl, ?_, ?_, ?_, ?_⟩
              · exact R_store6 HO0.out (fun k hk => hk) (by simp) (by simp; omega)
              · exact R_store6 HO2.out (fun k hk => hk) (by simp) (by simp; omega)
              · exact R_store6 HO4.out (fun k hk => hk) (by simp) (by simp; omega)
              · exact below_store6 HB1.out (by omega)
        · by_cases hn : a1 < 0
          · have h' : impl_DiskAppend.f0 l0_0 a0_1 l0_2 a0_3 l0_4 a0_5 a1 l2 = some ([], 0, [], 0, [], 0, 1) := by unfold impl_DiskAppend.f0; rw [if_pos hv, if_neg (by omega), if_neg (by omega), if_neg (by omega)]
            rw [h'] at h
            simp only [Option.some.injEq, Prod.mk.injEq] at h
            obtain ⟨rfl, rfl, rfl, rfl, rfl, rfl, rfl⟩ := h
            clear h'
            go_enter Try.func50, Try.ntmps50
            go_wp2_with fail
            refine (onFile_bad_neg A0_0 c0_0 l0_0 a0_1 A0_2 c0_2 l0_2 a0_3 A0_4 c0_4 l0_4 a0_5 a1 _ _ hv hn).mono ?_
            rintro e w1 ⟨v0, v2, v4, rfl, ho0, ho2, ho4, hb⟩
            obtain ⟨B0, d0, rfl, hd0, _⟩ := Kd.R_reads ho0
            obtain ⟨B2, d2, rfl, hd2, _⟩ := Kd.R_reads ho2
            obtain ⟨B4, d4, rfl, hd4, _⟩ := Kd.R_reads ho4
            have hB1 : Below w.heap.size w w1 := below_then (by with_reducible repeat (first | exact Below.refl _ _ | apply below_alloc)) (by simp; omega) hb
            have hz1 : w.heap.size + 1 < w1.heap.size := by have := hb.size; simp at this; omega
            have hy1 : w.heap.size < w1.heap.size := by omega
            have hx1 : w.heap.size + 1 + 1 < w1.heap.size := by have := hb.size; simp at this; omega
            have hzb := hb.size
            obtain ⟨hc1, hf1⟩ := bcell hb
            have HB1 := Aside0.mk hB1
            have HO0 := Aside0.mk ho0
            have HO2 := Aside0.mk ho2
            have HO4 := Aside0.mk ho4
            clear hB1 hb ho0 ho2 ho4
            go_wp2_with fail
            refine bodyPost_ret (v := .tuple #[.agg #[.slice B0 (([] : List Int)).length d0, .int .i64 (0), .slice B2 (([] : List Int)).length d2, .int .i64 (0), .slice B4 (([] : List Int)).length d4, .int .i64 (0)], .int .i64 (1)]) ?_ rfl ?_
            · simp [results, Try.results50, go_sem, hc1, hy1, hz1, hx1]
            · refine ⟨_, _, _, rfl, ?_, ?_, ?_, ?_⟩
              · exact R_store6 HO0.out (fun k hk => hk) (by simp) (by simp; omega)
              · exact R_store6 HO2.out (fun k hk => hk) (by simp) (by simp; omega)
              · exact R_store6 HO4.out (fun k hk => hk) (by simp) (by simp; omega)
              · exact below_store6 HB1.out (by omega)
          · have h' : impl_DiskAppend.f0 l0_0 a0_1 l0_2 a0_3 l0_4 a0_5 a1 l2 = some ([], 0, [], 0, [], 0, 1) := by unfold impl_DiskAppend.f0; rw [if_pos hv, if_neg (by omega), if_neg (by omega), if_neg (by omega)]
            rw [h'] at h
            simp only [Option.some.injEq, Prod.mk.injEq] at h
            obtain ⟨rfl, rfl, rfl, rfl, rfl, rfl, rfl⟩ := h
            clear h'
            go_enter Try.func50, Try.ntmps50
            go_wp2_with fail
            refine (onFile_bad_big A0_0 c0_0 l0_0 a0_1 A0_2 c0_2 l0_2 a0_3 A0_4 c0_4 l0_4 a0_5 a1 _ _ hv (by omega)).mono ?_
            rintro e w1 ⟨v0, v2, v4, rfl, ho0, ho2, ho4, hb⟩
            obtain ⟨B0, d0, rfl, hd0, _⟩ := Kd.R_reads ho0
            obtain ⟨B2, d2, rfl, hd2, _⟩ := Kd.R_reads ho2
            obtain ⟨B4, d4, rfl, hd4, _⟩ := Kd.R_reads ho4
            have hB1 : Below w.heap.size w w1 := below_then (by with_reducible repeat (first | exact Below.refl _ _ | apply below_alloc)) (by simp; omega) hb
            have hz1 : w.heap.size + 1 < w1.heap.size := by have := hb.size; simp at this; omega
            have hy1 : w.heap.size < w1.heap.size := by omega
            have hx1 : w.heap.size + 1 + 1 < w1.heap.size := by have := hb.size; simp at this; omega
            have hzb := hb.size
            obtain ⟨hc1, hf1⟩ := bcell hb
            have HB1 := Aside0.mk hB1
            have HO0 := Aside0.mk ho0
            have HO2 := Aside0.mk ho2
            have HO4 := Aside0.mk ho4
            clear hB1 hb ho0 ho2 ho4
            go_wp2_with fail
            refine bodyPost_ret (v := .tuple #[.agg #[.slice B0 (([] : List Int)).length d0, .int .i64 (0), .slice B2 (([] : List Int)).length d2, .int .i64 (0), .slice B4 (([] : List Int)).length d4, .int .i64 (0)], .int .i64 (1)]) ?_ rfl ?_
            · simp [results, Try.results50, go_sem, hc1, hy1, hz1, hx1]
            · refine ⟨_, _, _, rfl, ?_, ?_, ?_, ?_⟩
              · exact R_store6 HO0.out (fun k hk => hk) (by simp) (by simp; omega)
              · exact R_store6 HO2.out (fun k hk => hk) (by simp) (by simp; omega)
              · exact R_store6 HO4.out (fun k hk => hk) (by simp) (by simp; omega)
              · exact below_store6 HB1.out (by omega)

def impl_DiskAppend.f (l0_0 : List Int) (a0_1 : Int) (l0_2 : List Int) (a0_3 : Int) (l0_4 : List Int) (a0_5 : Int) (a1 : Int) (l2 : List Int) : Option (List Int × Int × List Int × Int × List Int × Int × Int) := if l2.length ≤ 140737488355328 then impl_DiskAppend.f0 l0_0 a0_1 l0_2 a0_3 l0_4 a0_5 a1 l2 else none
theorem impl_DiskAppend.calls (A0_0 : Option Addr) (c0_0 : Nat) (l0_0 : List Int) (a0_1 : Int) (A0_2 : Option Addr) (c0_2 : Nat) (l0_2 : List Int) (a0_3 : Int) (A0_4 : Option Addr) (c0_4 : Nat) (l0_4 : List Int) (a0_5 : Int) (a1 : Int) (A2 : Option Addr) (c2 : Nat) (l2 : List Int) (r1 : List Int) (r2 : Int) (r3 : List Int) (r4 : Int) (r5 : List Int) (r6 : Int) (r7 : Int) (w : World) (hr0_0 : Kd.C (Kd.int .u8) w A0_0 l0_0.length l0_0) (hc0_0 : l0_0.length ≤ c0_0) (hr0_2 : Kd.C (Kd.int .u8) w A0_2 l0_2.length l0_2) (hc0_2 : l0_2.length ≤ c0_2) (hr0_4 : Kd.C (Kd.int .u8) w A0_4 l0_4.length l0_4) (hc0_4 : l0_4.length ≤ c0_4) (hr2 : Kd.C (Kd.int .u8) w A2 l2.length l2) (hc2 : l2.length ≤ c2) (h : impl_DiskAppend.f l0_0 a0_1 l0_2 a0_3 l0_4 a0_5 a1 l2 = some (r1, r2, r3, r4, r5, r6, r7)) :
    Calls Try.prog 50 #[.agg #[.slice A0_0 l0_0.length c0_0, .int .i64 a0_1, .slice A0_2 l0_2.length c0_2, .int .i64 a0_3, .slice A0_4 l0_4.length c0_4, .int .i64 a0_5], .int .i64 a1, .slice A2 l2.length c2] w fun e w' => ∃ v0_ v2_ v4_ : Value, e = .returned (.tuple #[.agg #[v0_, .int .i64 r2, v2_, .int .i64 r4, v4_, .int .i64 r6], .int .i64 r7]) ∧ Kd.R (Kd.int .u8) 5 w' w.heap.size (fun k_ => some k_ ≠ (v2_ : Value).ownBlock ∧ some k_ ≠ (v4_ : Value).ownBlock) v0_ r1 ∧ Kd.R (Kd.int .u8) 5 w' w.heap.size (fun k_ => some k_ ≠ (v0_ : Value).ownBlock ∧ some k_ ≠ (v4_ : Value).ownBlock) v2_ r3 ∧ Kd.R (Kd.int .u8) 5 w' w.heap.size (fun k_ => some k_ ≠ (v0_ : Value).ownBlock ∧ some k_ ≠ (v2_ : Value).ownBlock) v4_ r5 ∧ Below w.heap.size w w' := by
  unfold impl_DiskAppend.f at h
  split at h
  · rename_i hl
    exact impl_DiskAppend.calls0 A0_0 c0_0 l0_0 a0_1 A0_2 c0_2 l0_2 a0_3 A0_4 c0_4 l0_4 a0_5 a1 A2 c2 l2 r1 r2 r3 r4 r5 r6 r7 w hr0_0 hc0_0 hr0_2 hc0_2 hr0_4 hc0_4 hr2 hc2 hl h
  · cases h

end Go.Proofs.Ytbapokpkgonjkaa.Print

/- The reference's DiskReset, DiskSync and DiskRename: their answers are the program's. -/
namespace Go.Proofs.Ytbapokpkgonjkaa.Print
open Go.RowKit Go.Proofs.YtbapokpkgonjkaaW.PrintWords Go.Proofs.YtbapokpkgonjkaaW.PrintLast Go.Proofs.YtbapokpkgonjkaaW.PrintMore
set_option linter.unusedVariables false
set_option linter.unusedSimpArgs false

theorem l1get_0 (l0 l2 l4 : List Int) (a1 a3 a5 : Int) (h : l0.length < 140737488355328) : spec_l1get.f l0 a1 l2 a3 l4 a5 0 = some (l0, a1) := by
  unfold spec_l1get.f
  rw [if_pos rfl, l1file_f _ _ h]
  rfl
theorem l1get_1 (l0 l2 l4 : List Int) (a1 a3 a5 : Int) (h : l2.length < 140737488355328) : spec_l1get.f l0 a1 l2 a3 l4 a5 1 = some (l2, a3) := by
  unfold spec_l1get.f
  rw [if_neg (by decide), if_pos rfl, l1file_f _ _ h]
  rfl
theorem l1get_2 (l0 l2 l4 : List Int) (a1 a3 a5 : Int) (h : l4.length < 140737488355328) : spec_l1get.f l0 a1 l2 a3 l4 a5 2 = some (l4, a5) := by
  unfold spec_l1get.f
  rw [if_neg (by decide), if_neg (by decide), l1file_f _ _ h]
  rfl
theorem six_below {W w' : World} {B b : Nat} {x0 x1 x2 x3 x4 x5 : Value} (hB : Below B W w') (hb : b < B) (h : W.cell? ⟨b, 0, none⟩ = some x0 ∧ W.cell? ⟨b, 1, none⟩ = some x1 ∧ W.cell? ⟨b, 2, none⟩ = some x2 ∧ W.cell? ⟨b, 3, none⟩ = some x3 ∧ W.cell? ⟨b, 4, none⟩ = some x4 ∧ W.cell? ⟨b, 5, none⟩ = some x5) :
    w'.cell? ⟨b, 0, none⟩ = some x0 ∧ w'.cell? ⟨b, 1, none⟩ = some x1 ∧ w'.cell? ⟨b, 2, none⟩ = some x2 ∧ w'.cell? ⟨b, 3, none⟩ = some x3 ∧ w'.cell? ⟨b, 4, none⟩ = some x4 ∧ w'.cell? ⟨b, 5, none⟩ = some x5 := by
  obtain ⟨hc, _⟩ := bcell hB
  simp only [hc b _ hb]
  exact h
theorem C_store6 {w : World} {base : Nat} {ok : Nat → Prop} {A : Option Addr} {cc : Nat} {l : List Int} {rb : Nat} {a b c d e f : Value} (h : Kd.R (Kd.int .u8) 5 w base ok (.slice A l.length cc) l) (hne : ∀ k, (Value.slice A l.length cc).ownBlock = some k → k ≠ rb) :
    Kd.C (Kd.int .u8) ((((((w.setCell ⟨rb, 0, none⟩ a).setCell ⟨rb, 1, none⟩ b).setCell ⟨rb, 2, none⟩ c).setCell ⟨rb, 3, none⟩ d).setCell ⟨rb, 4, none⟩ e).setCell ⟨rb, 5, none⟩ f) A l.length l := by
  have h' := Kd.R_reok rfl h (ok := fun k => k ≠ rb) hne
  exact (Kd.R_reads' (Kd.R_far (p := ⟨rb, 5, none⟩) (Kd.R_far (p := ⟨rb, 4, none⟩) (Kd.R_far (p := ⟨rb, 3, none⟩) (Kd.R_far (p := ⟨rb, 2, none⟩) (Kd.R_far (p := ⟨rb, 1, none⟩) (Kd.R_far (p := ⟨rb, 0, none⟩) h' (fun k hk => hk) a) (fun k hk => hk) b) (fun k hk => hk) c) (fun k hk => hk) d) (fun k hk => hk) e) (fun k hk => hk) f)).2.2
theorem l1bad_cases {l0 l2 l4 : List Int} {a1 a3 a5 n : Int} (h : (!(okDisk l0 a1 l2 a3 l4 a5) || decide (n < 0) || decide (2 < n)) = false) : okDisk l0 a1 l2 a3 l4 a5 = true ∧ (n = 0 ∨ n = 1 ∨ n = 2) := by
  simp at h
  exact ⟨h.1.1, by omega⟩
set_option maxHeartbeats 2000000 in
set_option maxRecDepth 100000 in
theorem spec_DiskReset.calls (A0 : Option Addr) (c0 : Nat) (l0 : List Int) (a1 : Int) (A2 : Option Addr) (c2 : Nat) (l2 : List Int) (a3 : Int) (A4 : Option Addr) (c4 : Nat) (l4 : List Int) (a5 : Int) (n : Int) (r1 : List Int) (r2 : Int) (r3 : List Int) (r4 : Int) (r5 : List Int) (r6 : Int) (r7 : Int) (w : World) (h0 : Kd.C (Kd.int .u8) w A0 l0.length l0) (hc0 : l0.length ≤ c0) (h2 : Kd.C (Kd.int .u8) w A2 l2.length l2) (hc2 : l2.length ≤ c2) (h4 : Kd.C (Kd.int .u8) w A4 l4.length l4) (hc4 : l4.length ≤ c4) (h : impl_DiskReset.f l0 a1 l2 a3 l4 a5 n = some (r1, r2, r3, r4, r5, r6, r7)) :
    Calls Try.prog 45 #[.agg #[.slice A0 l0.length c0, .int .i64 a1, .slice A2 l2.length c2, .int .i64 a3, .slice A4 l4.length c4, .int .i64 a5], .int .i64 n] w fun e w' => ∃ v0_ v2_ v4_ : Value, e = .returned (.tuple #[.agg #[v0_, .int .i64 r2, v2_, .int .i64 r4, v4_, .int .i64 r6], .int .i64 r7]) ∧ Kd.R (Kd.int .u8) 5 w' w.heap.size (fun k_ => some k_ ≠ (v2_ : Value).ownBlock ∧ some k_ ≠ (v4_ : Value).ownBlock) v0_ r1 ∧ Kd.R (Kd.int .u8) 5 w' w.heap.size (fun k_ => some k_ ≠ (v0_ : Value).ownBlock ∧ some k_ ≠ (v4_ : Value).ownBlock) v2_ r3 ∧ Kd.R (Kd.int .u8) 5 w' w.heap.size (fun k_ => some k_ ≠ (v0_ : Value).ownBlock ∧ some k_ ≠ (v2_ : Value).ownBlock) v4_ r5 ∧ Below w.heap.size w w' := by
  have R0 := Aside0.mk h0
  have R2 := Aside0.mk h2
  have R4 := Aside0.mk h4
  clear h0 h2 h4
  rcases hv : (!(okDisk l0 a1 l2 a3 l4 a5) || decide (n < 0) || decide (2 < n)) with _ | _
  · obtain ⟨hk, hn⟩ := l1bad_cases hv
    obtain ⟨⟨x0, x1, x2⟩, ⟨y0, y1, y2⟩, ⟨z0, z1, z2⟩⟩ := okDisk_iff hk
    rcases hn with rfl | rfl | rfl
    · have h' : impl_DiskReset.f l0 a1 l2 a3 l4 a5 0 = some ([], 0, l2, a3, l4, a5, 0) := by
        unfold impl_DiskReset.f
        rw [if_pos hk, if_pos rfl]
      rw [h'] at h
      simp only [Option.some.injEq, Prod.mk.injEq] at h
      obtain ⟨rfl, rfl, rfl, rfl, rfl, rfl, rfl⟩ := h
      have HV := Aside0.mk hv
      clear h' hv
      go_enter Try.func45, Try.ntmps45
      go_wp2_with fail
      refine (spec_l1bad.calls A0 c0 l0 a1 A2 c2 l2 a3 A4 c4 l4 a5 0 _ _ (Kd.C_below R0.out (by repeat (first | exact Below.refl _ _ | apply below_alloc))) hc0 (Kd.C_below R2.out (by repeat (first | exact Below.refl _ _ | apply below_alloc))) hc2 (Kd.C_below R4.out (by repeat (first | exact Below.refl _ _ | apply below_alloc))) hc4 (l1bad_f l0 l2 l4 a1 a3 a5 0)).mono ?_
      rintro e w1 ⟨rfl, hb⟩
      have hvv : (!(okDisk l0 a1 l2 a3 l4 a5) || decide ((0 : Int) < 0) || decide ((2 : Int) < 0)) = false := HV.out
      rw [hvv]
      clear hvv
      have hB1 : Below w.heap.size w w1 := below_then (by repeat (first | exact Below.refl _ _ | apply below_alloc)) (by simp; omega) hb
      have hz1 : w.heap.size + 1 < w1.heap.size := by have := hb.size; simp at this; omega
      have hy1 : w.heap.size < w1.heap.size := by omega
      obtain ⟨qc1, qf1⟩ := bcell hb
      have HB1 := Aside0.mk hB1
      clear hB1 hb
      go_wp2_with fail
      refine (spec_l1put_0 A0 c0 l0 a1 A2 c2 l2 a3 A4 c4 l4 a5 none 0 0 0 _ (Kd.C_below R0.out (by repeat (first | exact HB1.out | apply below_alloc))) hc0 (Kd.C_below R2.out (by repeat (first | exact HB1.out | apply below_alloc))) hc2 (Kd.C_below R4.out (by repeat (first | exact HB1.out | apply below_alloc))) hc4 x0 y0 z0).mono ?_
      rintro e w2 ⟨v2, v4, rfl, o2, o4, hb⟩
      obtain ⟨B2, d2, rfl⟩ := Kd.R_slice o2
      obtain ⟨B4, d4, rfl⟩ := Kd.R_slice o4
      have hB2 : Below w.heap.size w w2 := below_then (by repeat (first | exact HB1.out | apply below_alloc)) (by first | omega | (simp; done) | (simp; omega)) hb
      have hz2 : w.heap.size + 1 < w2.heap.size := by have := hb.size; first | omega | (simp at this; omega)
      have hy2 : w.heap.size < w2.heap.size := by omega
      obtain ⟨qc2, qf2⟩ := bcell hb
      have HB2 := Aside0.mk hB2
      have HO2 := Aside0.mk o2
      have HO4 := Aside0.mk o4
      clear hB2 hb o2 o4
      go_wp2_with fail
      refine bodyPost_ret (v := .tuple #[.agg #[.slice none 0 0, .int .i64 0, .slice B2 l2.length d2, .int .i64 a3, .slice B4 l4.length d4, .int .i64 a5], .int .i64 0]) ?_ rfl ?_
      · simp [results, Try.results45, go_sem, qc2, qc1, hy1, hz1, hy2, hz2]
      · refine ⟨_, _, _, rfl, ?_, ?_, ?_, ?_⟩
        · exact Kd.R_nil _ _ _ _ _
        · exact R_store6 HO2.out (fun k hk => ⟨(fun e => by cases e), hk⟩) (by first | omega | (simp; done) | (simp; omega)) (by first | omega | (simp; done) | (simp; omega))
        · exact R_store6 HO4.out (fun k hk => ⟨(fun e => by cases e), hk⟩) (by first | omega | (simp; done) | (simp; omega)) (by first | omega | (simp; done) | (simp; omega))
        · exact below_store6 HB2.out (by omega)
    · have h' : impl_DiskReset.f l0 a1 l2 a3 l4 a5 1 = some (l0, a1, [], 0, l4, a5, 0) := by
        unfold impl_DiskReset.f
        rw [if_pos hk, if_neg (by decide), if_pos rfl]
      rw [h'] at h
      simp only [Option.some.injEq, Prod.mk.injEq] at h
      obtain ⟨rfl, rfl, rfl, rfl, rfl, rfl, rfl⟩ := h
      have HV := Aside0.mk hv
      clear h' hv
      go_enter Try.func45, Try.ntmps45
      go_wp2_with fail
      refine (spec_l1bad.calls A0 c0 l0 a1 A2 c2 l2 a3 A4 c4 l4 a5 1 _ _ (Kd.C_below R0.out (by repeat (first | exact Below.refl _ _ | apply below_alloc))) hc0 (Kd.C_below R2.out (by repeat (first | exact Below.refl _ _ | apply below_alloc))) hc2 (Kd.C_below R4.out (by repeat (first | exact Below.refl _ _ | apply below_alloc))) hc4 (l1bad_f l0 l2 l4 a1 a3 a5 1)).mono ?_
      rintro e w1 ⟨rfl, hb⟩
      have hvv : (!(okDisk l0 a1 l2 a3 l4 a5) || decide ((1 : Int) < 0) || decide ((2 : Int) < 1)) = false := HV.out
      rw [hvv]
      clear hvv
      have hB1 : Below w.heap.size w w1 := below_then (by repeat (first | exact Below.refl _ _ | apply below_alloc)) (by simp; omega) hb
      have hz1 : w.heap.size + 1 < w1.heap.size := by have := hb.size; simp at this; omega
      have hy1 : w.heap.size < w1.heap.size := by omega
      obtain ⟨qc1, qf1⟩ := bcell hb
      have HB1 := Aside0.mk hB1
      clear hB1 hb
      go_wp2_with fail
      refine (spec_l1put_1 A0 c0 l0 a1 A2 c2 l2 a3 A4 c4 l4 a5 none 0 0 0 _ (Kd.C_below R0.out (by repeat (first | exact HB1.out | apply below_alloc))) hc0 (Kd.C_below R2.out (by repeat (first | exact HB1.out | apply below_alloc))) hc2 (Kd.C_below R4.out (by repeat (first | exact HB1.out | apply below_alloc))) hc4 x0 y0 z0).mono ?_
      rintro e w2 ⟨v0, v4, rfl, o0, o4, hb⟩
      obtain ⟨B0, d0, rfl⟩ := Kd.R_slice o0
      obtain ⟨B4, d4, rfl⟩ := Kd.R_slice o4
      have hB2 : Below w.heap.size w w2 := below_then (by repeat (first | exact HB1.out | apply below_alloc)) (by first | omega | (simp; done) | (simp; omega)) hb
      have hz2 : w.heap.size + 1 < w2.heap.size := by have := hb.size; first | omega | (simp at this; omega)
      have hy2 : w.heap.size < w2.heap.size := by omega
      obtain ⟨qc2, qf2⟩ := bcell hb
      have HB2 := Aside0.mk hB2
      have HO0 := Aside0.mk o0
      have HO4 := Aside0.mk o4
      clear hB2 hb o0 o4
      go_wp2_with fail
      refine bodyPost_ret (v := .tuple #[.agg #[.slice B0 l0.length d0, .int .i64 a1, .slice none 0 0, .int .i64 0, .slice B4 l4.length d4, .int .i64 a5], .int .i64 0]) ?_ rfl ?_
      · simp [results, Try.results45, go_sem, qc2, qc1, hy1, hz1, hy2, hz2]
      · refine ⟨_, _, _, rfl, ?_, ?_, ?_, ?_⟩
        · exact R_store6 HO0.out (fun k hk => ⟨(fun e => by cases e), hk⟩) (by first | omega | (simp; done) | (simp; omega)) (by first | omega | (simp; done) | (simp; omega))
        · exact Kd.R_nil _ _ _ _ _
        · exact R_store6 HO4.out (fun k hk => ⟨hk, (fun e => by cases e)⟩) (by first | omega | (simp; done) | (simp; omega)) (by first | omega | (simp; done) | (simp; omega))
        · exact below_store6 HB2.out (by omega)
    · have h' : impl_DiskReset.f l0 a1 l2 a3 l4 a5 2 = some (l0, a1, l2, a3, [], 0, 0) := by
        unfold impl_DiskReset.f
        rw [if_pos hk, if_neg (by decide), if_neg (by decide), if_pos rfl]
      rw [h'] at h
      simp only [Option.some.injEq, Prod.mk.injEq] at h
      obtain ⟨rfl, rfl, rfl, rfl, rfl, rfl, rfl⟩ := h
      have HV := Aside0.mk hv
      clear h' hv
      go_enter Try.func45, Try.ntmps45
      go_wp2_with fail
      refine (spec_l1bad.calls A0 c0 l0 a1 A2 c2 l2 a3 A4 c4 l4 a5 2 _ _ (Kd.C_below R0.out (by repeat (first | exact Below.refl _ _ | apply below_alloc))) hc0 (Kd.C_below R2.out (by repeat (first | exact Below.refl _ _ | apply below_alloc))) hc2 (Kd.C_below R4.out (by repeat (first | exact Below.refl _ _ | apply below_alloc))) hc4 (l1bad_f l0 l2 l4 a1 a3 a5 2)).mono ?_
      rintro e w1 ⟨rfl, hb⟩
      have hvv : (!(okDisk l0 a1 l2 a3 l4 a5) || decide ((2 : Int) < 0) || decide ((2 : Int) < 2)) = false := HV.out
      rw [hvv]
      clear hvv
      have hB1 : Below w.heap.size w w1 := below_then (by repeat (first | exact Below.refl _ _ | apply below_alloc)) (by simp; omega) hb
      have hz1 : w.heap.size + 1 < w1.heap.size := by have := hb.size; simp at this; omega
      have hy1 : w.heap.size < w1.heap.size := by omega
      obtain ⟨qc1, qf1⟩ := bcell hb
      have HB1 := Aside0.mk hB1
      clear hB1 hb
      go_wp2_with fail
      refine (spec_l1put_2 A0 c0 l0 a1 A2 c2 l2 a3 A4 c4 l4 a5 none 0 0 0 _ (Kd.C_below R0.out (by repeat (first | exact HB1.out | apply below_alloc))) hc0 (Kd.C_below R2.out (by repeat (first | exact HB1.out | apply below_alloc))) hc2 (Kd.C_below R4.out (by repeat (first | exact HB1.out | apply below_alloc))) hc4 x0 y0 z0).mono ?_
      rintro e w2 ⟨v0, v2, rfl, o0, o2, hb⟩
      obtain ⟨B0, d0, rfl⟩ := Kd.R_slice o0
      obtain ⟨B2, d2, rfl⟩ := Kd.R_slice o2
      have hB2 : Below w.heap.size w w2 := below_then (by repeat (first | exact HB1.out | apply below_alloc)) (by first | omega | (simp; done) | (simp; omega)) hb
      have hz2 : w.heap.size + 1 < w2.heap.size := by have := hb.size; first | omega | (simp at this; omega)
      have hy2 : w.heap.size < w2.heap.size := by omega
      obtain ⟨qc2, qf2⟩ := bcell hb
      have HB2 := Aside0.mk hB2
      have HO0 := Aside0.mk o0
      have HO2 := Aside0.mk o2
      clear hB2 hb o0 o2
      go_wp2_with fail
      refine bodyPost_ret (v := .tuple #[.agg #[.slice B0 l0.length d0, .int .i64 a1, .slice B2 l2.length d2, .int .i64 a3, .slice none 0 0, .int .i64 0], .int .i64 0]) ?_ rfl ?_
      · simp [results, Try.results45, go_sem, qc2, qc1, hy1, hz1, hy2, hz2]
      · refine ⟨_, _, _, rfl, ?_, ?_, ?_, ?_⟩
        · exact R_store6 HO0.out (fun k hk => ⟨hk, (fun e => by cases e)⟩) (by first | omega | (simp; done) | (simp; omega)) (by first | omega | (simp; done) | (simp; omega))
        · exact R_store6 HO2.out (fun k hk => ⟨hk, (fun e => by cases e)⟩) (by first | omega | (simp; done) | (simp; omega)) (by first | omega | (simp; done) | (simp; omega))
        · exact Kd.R_nil _ _ _ _ _
        · exact below_store6 HB2.out (by omega)
  · have h' : impl_DiskReset.f l0 a1 l2 a3 l4 a5 n = some ([], 0, [], 0, [], 0, 1) := by
      unfold impl_DiskReset.f
      by_cases ho : okDisk l0 a1 l2 a3 l4 a5 = true
      · have hn : n < 0 ∨ 2 < n := by simpa [ho] using hv
        rw [if_pos ho, if_neg (by omega), if_neg (by omega), if_neg (by omega)]
      · rw [if_neg ho]
    rw [h'] at h
    simp only [Option.some.injEq, Prod.mk.injEq] at h
    obtain ⟨rfl, rfl, rfl, rfl, rfl, rfl, rfl⟩ := h
    have HV := Aside0.mk hv
    clear h' hv
    go_enter Try.func45, Try.ntmps45
    go_wp2_with fail
    refine (spec_l1bad.calls A0 c0 l0 a1 A2 c2 l2 a3 A4 c4 l4 a5 n _ _ (Kd.C_below R0.out (by repeat (first | exact Below.refl _ _ | apply below_alloc))) hc0 (Kd.C_below R2.out (by repeat (first | exact Below.refl _ _ | apply below_alloc))) hc2 (Kd.C_below R4.out (by repeat (first | exact Below.refl _ _ | apply below_alloc))) hc4 (l1bad_f l0 l2 l4 a1 a3 a5 n)).mono ?_
    rintro e w1 ⟨rfl, hb⟩
    have hvv : (!(okDisk l0 a1 l2 a3 l4 a5) || decide (n < 0) || decide (2 < n)) = true := HV.out
    rw [hvv]
    clear hvv
    have hB1 : Below w.heap.size w w1 := below_then (by repeat (first | exact Below.refl _ _ | apply below_alloc)) (by simp; omega) hb
    have hz1 : w.heap.size + 1 < w1.heap.size := by have := hb.size; simp at this; omega
    have hy1 : w.heap.size < w1.heap.size := by omega
    obtain ⟨qc1, qf1⟩ := bcell hb
    have HB1 := Aside0.mk hB1
    clear hB1 hb
    go_wp2_with fail
    refine bodyPost_ret (v := .tuple #[.agg #[.slice none 0 0, .int .i64 0, .slice none 0 0, .int .i64 0, .slice none 0 0, .int .i64 0], .int .i64 1]) ?_ rfl ?_
    · simp [results, Try.results45, go_sem, qc1, hy1, hz1]
    · exact ⟨_, _, _, rfl, Kd.R_nil _ _ _ _ _, Kd.R_nil _ _ _ _ _, Kd.R_nil _ _ _ _ _, below_store6 HB1.out (by omega)⟩

set_option maxHeartbeats 2000000 in
set_option maxRecDepth 100000 in
theorem spec_DiskSync.calls (A0 : Option Addr) (c0 : Nat) (l0 : List Int) (a1 : Int) (A2 : Option Addr) (c2 : Nat) (l2 : List Int) (a3 : Int) (A4 : Option Addr) (c4 : Nat) (l4 : List Int) (a5 : Int) (n : Int) (r1 : List Int) (r2 : Int) (r3 : List Int) (r4 : Int) (r5 : List Int) (r6 : Int) (r7 : Int) (w : World) (h0 : Kd.C (Kd.int .u8) w A0 l0.length l0) (hc0 : l0.length ≤ c0) (h2 : Kd.C (Kd.int .u8) w A2 l2.length l2) (hc2 : l2.length ≤ c2) (h4 : Kd.C (Kd.int .u8) w A4 l4.length l4) (hc4 : l4.length ≤ c4) (h : impl_DiskSync.f l0 a1 l2 a3 l4 a5 n = some (r1, r2, r3, r4, r5, r6, r7)) :
    Calls Try.prog 47 #[.agg #[.slice A0 l0.length c0, .int .i64 a1, .slice A2 l2.length c2, .int .i64 a3, .slice A4 l4.length c4, .int .i64 a5], .int .i64 n] w fun e w' => ∃ v0_ v2_ v4_ : Value, e = .returned (.tuple #[.agg #[v0_, .int .i64 r2, v2_, .int .i64 r4, v4_, .int .i64 r6], .int .i64 r7]) ∧ Kd.R (Kd.int .u8) 5 w' w.heap.size (fun k_ => some k_ ≠ (v2_ : Value).ownBlock ∧ some k_ ≠ (v4_ : Value).ownBlock) v0_ r1 ∧ Kd.R (Kd.int .u8) 5 w' w.heap.size (fun k_ => some k_ ≠ (v0_ : Value).ownBlock ∧ some k_ ≠ (v4_ : Value).ownBlock) v2_ r3 ∧ Kd.R (Kd.int .u8) 5 w' w.heap.size (fun k_ => some k_ ≠ (v0_ : Value).ownBlock ∧ some k_ ≠ (v2_ : Value).ownBlock) v4_ r5 ∧ Below w.heap.size w w' := by
  have R0 := Aside0.mk h0
  have R2 := Aside0.mk h2
  have R4 := Aside0.mk h4
  clear h0 h2 h4
  rcases hv : (!(okDisk l0 a1 l2 a3 l4 a5) || decide (n < 0) || decide (2 < n)) with _ | _
  · obtain ⟨hk, hn⟩ := l1bad_cases hv
    obtain ⟨⟨x0, x1, x2⟩, ⟨y0, y1, y2⟩, ⟨z0, z1, z2⟩⟩ := okDisk_iff hk
    rcases hn with rfl | rfl | rfl
    · have h' : impl_DiskSync.f l0 a1 l2 a3 l4 a5 0 = some (l0, (l0.length : Int), l2, a3, l4, a5, 0) := by
        unfold impl_DiskSync.f
        rw [if_pos hk, if_pos rfl]
      rw [h'] at h
      simp only [Option.some.injEq, Prod.mk.injEq] at h
      obtain ⟨rfl, rfl, rfl, rfl, rfl, rfl, rfl⟩ := h
      have HV := Aside0.mk hv
      clear h' hv
      go_enter Try.func47, Try.ntmps47
      go_wp2_with fail
      refine (spec_l1bad.calls A0 c0 l0 a1 A2 c2 l2 a3 A4 c4 l4 a5 0 _ _ (Kd.C_below R0.out (by repeat (first | exact Below.refl _ _ | apply below_alloc))) hc0 (Kd.C_below R2.out (by repeat (first | exact Below.refl _ _ | apply below_alloc))) hc2 (Kd.C_below R4.out (by repeat (first | exact Below.refl _ _ | apply below_alloc))) hc4 (l1bad_f l0 l2 l4 a1 a3 a5 0)).mono ?_
      rintro e w1 ⟨rfl, hb⟩
      have hvv : (!(okDisk l0 a1 l2 a3 l4 a5) || decide ((0 : Int) < 0) || decide ((2 : Int) < 0)) = false := HV.out
      rw [hvv]
      clear hvv
      have hB1 : Below w.heap.size w w1 := below_then (by repeat (first | exact Below.refl _ _ | apply below_alloc)) (by simp; omega) hb
      have hz1 : w.heap.size + 1 < w1.heap.size := by have := hb.size; simp at this; omega
      have hy1 : w.heap.size < w1.heap.size := by omega
      obtain ⟨qc1, qf1⟩ := bcell hb
      have HB1 := Aside0.mk hB1
      clear hB1 hb
      go_wp2_with fail
      refine (spec_l1get.calls A0 c0 l0 a1 A2 c2 l2 a3 A4 c4 l4 a5 0 l0 a1 _ (Kd.C_below R0.out (by repeat (first | exact HB1.out | apply below_alloc))) hc0 (Kd.C_below R2.out (by repeat (first | exact HB1.out | apply below_alloc))) hc2 (Kd.C_below R4.out (by repeat (first | exact HB1.out | apply below_alloc))) hc4 (l1get_0 l0 l2 l4 a1 a3 a5 (by omega))).mono ?_
      rintro e w2 ⟨vf, rfl, of, hb⟩
      obtain ⟨Bf, df, rfl⟩ := Kd.R_slice of
      have hB2 : Below w.heap.size w w2 := below_then (by repeat (first | exact HB1.out | apply below_alloc)) (by first | omega | (simp; done) | (simp; omega)) hb
      have hz2 : w.heap.size + 1 < w2.heap.size := by have := hb.size; first | omega | (simp at this; omega)
      have hy2 : w.heap.size < w2.heap.size := by omega
      obtain ⟨qc2, qf2⟩ := bcell hb
      have HB2 := Aside0.mk hB2
      have OF := Aside0.mk of
      have SZ := Aside0.mk (show w1.heap.size ≤ w2.heap.size by have := hb.size; first | omega | (simp at this; omega))
      clear hB2 hb of
      go_wp2_with fail
      refine (spec_l1put_0 A0 c0 l0 a1 A2 c2 l2 a3 A4 c4 l4 a5 Bf l0.length df _ _ (Kd.C_below R0.out (by repeat (first | exact HB2.out | apply below_alloc))) hc0 (Kd.C_below R2.out (by repeat (first | exact HB2.out | apply below_alloc))) hc2 (Kd.C_below R4.out (by repeat (first | exact HB2.out | apply below_alloc))) hc4 x0 y0 z0).mono ?_
      rintro e w3 ⟨v2, v4, rfl, o2, o4, hb⟩
      obtain ⟨B2, d2, rfl⟩ := Kd.R_slice o2
      obtain ⟨B4, d4, rfl⟩ := Kd.R_slice o4
      have hB3 : Below w.heap.size w w3 := below_then (by repeat (first | exact HB2.out | apply below_alloc)) (by first | omega | (simp; done) | (simp; omega)) hb
      have hz3 : w.heap.size + 1 < w3.heap.size := by have := hb.size; first | omega | (simp at this; omega)
      have hy3 : w.heap.size < w3.heap.size := by omega
      obtain ⟨qc3, qf3⟩ := bcell hb
      have HB3 := Aside0.mk hB3
      have m1 : w1.heap.size ≤ w2.heap.size := SZ.out
      have f1 : ∀ k, (Value.slice Bf l0.length df).ownBlock = some k → k < w2.heap.size := fun k e => Kd.R_lt OF.out k e
      have f2 : ∀ k, (Value.slice B2 l2.length d2).ownBlock = some k → w2.heap.size ≤ k := fun k e => by have := Kd.R_base o2 k e; simp at this; omega
      have f3 : ∀ k, (Value.slice B4 l4.length d4).ownBlock = some k → w2.heap.size ≤ k := fun k e => by have := Kd.R_base o4 k e; simp at this; omega
      have HO2 := Aside0.mk o2
      have HO4 := Aside0.mk o4
      have OF' := Aside0.mk (Kd.R_below OF.out ((below_alloc (Below.refl w2.heap.size w2) _).trans (hb.mono (by simp))))
      have FF := Aside0.mk (And.intro f1 (And.intro f2 f3))
      clear hB3 hb o2 o4 f1 f2 f3 m1 OF
      go_wp2_with fail
      refine bodyPost_ret (v := .tuple #[.agg #[.slice Bf l0.length df, .int .i64 (l0.length : Int), .slice B2 l2.length d2, .int .i64 a3, .slice B4 l4.length d4, .int .i64 a5], .int .i64 0]) ?_ rfl ?_
      · simp [results, Try.results47, go_sem, qc3, qc2, qc1, hy1, hz1, hy2, hz2, hy3, hz3]
      · obtain ⟨f1, f2, f3⟩ := FF.out
        refine ⟨_, _, _, rfl, ?_, ?_, ?_, ?_⟩
        · exact R_store6 (Kd.R_reok rfl OF'.out (ok := fun k => some k ≠ _ ∧ some k ≠ _) (fun k e => ⟨(fun q => by have h1 := f1 k e; have h2 := f2 k q.symm; omega), (fun q => by have h1 := f1 k e; have h2 := f3 k q.symm; omega)⟩)) (fun k hk => hk) (by first | omega | (simp; done) | (simp; omega)) (by first | omega | (simp; done) | (simp; omega))
        · exact R_store6 (Kd.R_reok rfl HO2.out (ok := fun k => some k ≠ _ ∧ some k ≠ _) (fun k e => ⟨(fun q => by have h1 := f2 k e; have h2 := f1 k q.symm; omega), (HO2.out.1 k e)⟩)) (fun k hk => hk) (by first | omega | (simp; done) | (simp; omega)) (by first | omega | (simp; done) | (simp; omega))
        · exact R_store6 (Kd.R_reok rfl HO4.out (ok := fun k => some k ≠ _ ∧ some k ≠ _) (fun k e => ⟨(fun q => by have h1 := f3 k e; have h2 := f1 k q.symm; omega), (HO4.out.1 k e)⟩)) (fun k hk => hk) (by first | omega | (simp; done) | (simp; omega)) (by first | omega | (simp; done) | (simp; omega))
        · exact below_store6 HB3.out (by omega)
    · have h' : impl_DiskSync.f l0 a1 l2 a3 l4 a5 1 = some (l0, a1, l2, (l2.length : Int), l4, a5, 0) := by
        unfold impl_DiskSync.f
        rw [if_pos hk, if_neg (by decide), if_pos rfl]
      rw [h'] at h
      simp only [Option.some.injEq, Prod.mk.injEq] at h
      obtain ⟨rfl, rfl, rfl, rfl, rfl, rfl, rfl⟩ := h
      have HV := Aside0.mk hv
      clear h' hv
      go_enter Try.func47, Try.ntmps47
      go_wp2_with fail
      refine (spec_l1bad.calls A0 c0 l0 a1 A2 c2 l2 a3 A4 c4 l4 a5 1 _ _ (Kd.C_below R0.out (by repeat (first | exact Below.refl _ _ | apply below_alloc))) hc0 (Kd.C_below R2.out (by repeat (first | exact Below.refl _ _ | apply below_alloc))) hc2 (Kd.C_below R4.out (by repeat (first | exact Below.refl _ _ | apply below_alloc))) hc4 (l1bad_f l0 l2 l4 a1 a3 a5 1)).mono ?_
      rintro e w1 ⟨rfl, hb⟩
      have hvv : (!(okDisk l0 a1 l2 a3 l4 a5) || decide ((1 : Int) < 0) || decide ((2 : Int) < 1)) = false := HV.out
      rw [hvv]
      clear hvv
      have hB1 : Below w.heap.size w w1 := below_then (by repeat (first | exact Below.refl _ _ | apply below_alloc)) (by simp; omega) hb
      have hz1 : w.heap.size + 1 < w1.heap.size := by have := hb.size; simp at this; omega
      have hy1 : w.heap.size < w1.heap.size := by omega
      obtain ⟨qc1, qf1⟩ := bcell hb
      have HB1 := Aside0.mk hB1
      clear hB1 hb
      go_wp2_with fail
      refine (spec_l1get.calls A0 c0 l0 a1 A2 c2 l2 a3 A4 c4 l4 a5 1 l2 a3 _ (Kd.C_below R0.out (by repeat (first | exact HB1.out | apply below_alloc))) hc0 (Kd.C_below R2.out (by repeat (first | exact HB1.out | apply below_alloc))) hc2 (Kd.C_below R4.out (by repeat (first | exact HB1.out | apply below_alloc))) hc4 (l1get_1 l0 l2 l4 a1 a3 a5 (by omega))).mono ?_
      rintro e w2 ⟨vf, rfl, of, hb⟩
      obtain ⟨Bf, df, rfl⟩ := Kd.R_slice of
      have hB2 : Below w.heap.size w w2 := below_then (by repeat (first | exact HB1.out | apply below_alloc)) (by first | omega | (simp; done) | (simp; omega)) hb
      have hz2 : w.heap.size + 1 < w2.heap.size := by have := hb.size; first | omega | (simp at this; omega)
      have hy2 : w.heap.size < w2.heap.size := by omega
      obtain ⟨qc2, qf2⟩ := bcell hb
      have HB2 := Aside0.mk hB2
      have OF := Aside0.mk of
      have SZ := Aside0.mk (show w1.heap.size ≤ w2.heap.size by have := hb.size; first | omega | (simp at this; omega))
      clear hB2 hb of
      go_wp2_with fail
      refine (spec_l1put_1 A0 c0 l0 a1 A2 c2 l2 a3 A4 c4 l4 a5 Bf l2.length df _ _ (Kd.C_below R0.out (by repeat (first | exact HB2.out | apply below_alloc))) hc0 (Kd.C_below R2.out (by repeat (first | exact HB2.out | apply below_alloc))) hc2 (Kd.C_below R4.out (by repeat (first | exact HB2.out | apply below_alloc))) hc4 x0 y0 z0).mono ?_
      rintro e w3 ⟨v0, v4, rfl, o0, o4, hb⟩
      obtain ⟨B0, d0, rfl⟩ := Kd.R_slice o0
      obtain ⟨B4, d4, rfl⟩ := Kd.R_slice o4
      have hB3 : Below w.heap.size w w3 := below_then (by repeat (first | exact HB2.out | apply below_alloc)) (by first | omega | (simp; done) | (simp; omega)) hb
      have hz3 : w.heap.size + 1 < w3.heap.size := by have := hb.size; first | omega | (simp at this; omega)
      have hy3 : w.heap.size < w3.heap.size := by omega
      obtain ⟨qc3, qf3⟩ := bcell hb
      have HB3 := Aside0.mk hB3
      have m1 : w1.heap.size ≤ w2.heap.size := SZ.out
      have f1 : ∀ k, (Value.slice Bf l2.length df).ownBlock = some k → k < w2.heap.size := fun k e => Kd.R_lt OF.out k e
      have f2 : ∀ k, (Value.slice B0 l0.length d0).ownBlock = some k → w2.heap.size ≤ k := fun k e => by have := Kd.R_base o0 k e; simp at this; omega
      have f3 : ∀ k, (Value.slice B4 l4.length d4).ownBlock = some k → w2.heap.size ≤ k := fun k e => by have := Kd.R_base o4 k e; simp at this; omega
      have HO0 := Aside0.mk o0
      have HO4 := Aside0.mk o4
      have OF' := Aside0.mk (Kd.R_below OF.out ((below_alloc (Below.refl w2.heap.size w2) _).trans (hb.mono (by simp))))
      have FF := Aside0.mk (And.intro f1 (And.intro f2 f3))
      clear hB3 hb o0 o4 f1 f2 f3 m1 OF
      go_wp2_with fail
      refine bodyPost_ret (v := .tuple #[.agg #[.slice B0 l0.length d0, .int .i64 a1, .slice Bf l2.length df, .int .i64 (l2.length : Int), .slice B4 l4.length d4, .int .i64 a5], .int .i64 0]) ?_ rfl ?_
      · simp [results, Try.results47, go_sem, qc3, qc2, qc1, hy1, hz1, hy2, hz2, hy3, hz3]
      · obtain ⟨f1, f2, f3⟩ := FF.out
        refine ⟨_, _, _, rfl, ?_, ?_, ?_, ?_⟩
        · exact R_store6 (Kd.R_reok rfl HO0.out (ok := fun k => some k ≠ _ ∧ some k ≠ _) (fun k e => ⟨(fun q => by have h1 := f2 k e; have h2 := f1 k q.symm; omega), (HO0.out.1 k e)⟩)) (fun k hk => hk) (by first | omega | (simp; done) | (simp; omega)) (by first | omega | (simp; done) | (simp; omega))
        · exact R_store6 (Kd.R_reok rfl OF'.out (ok := fun k => some k ≠ _ ∧ some k ≠ _) (fun k e => ⟨(fun q => by have h1 := f1 k e; have h2 := f2 k q.symm; omega), (fun q => by have h1 := f1 k e; have h2 := f3 k q.symm; omega)⟩)) (fun k hk => hk) (by first | omega | (simp; done) | (simp; omega)) (by first | omega | (simp; done) | (simp; omega))
        · exact R_store6 (Kd.R_reok rfl HO4.out (ok := fun k => some k ≠ _ ∧ some k ≠ _) (fun k e => ⟨(HO4.out.1 k e), (fun q => by have h1 := f3 k e; have h2 := f1 k q.symm; omega)⟩)) (fun k hk => hk) (by first | omega | (simp; done) | (simp; omega)) (by first | omega | (simp; done) | (simp; omega))
        · exact below_store6 HB3.out (by omega)
    · have h' : impl_DiskSync.f l0 a1 l2 a3 l4 a5 2 = some (l0, a1, l2, a3, l4, (l4.length : Int), 0) := by
        unfold impl_DiskSync.f
        rw [if_pos hk, if_neg (by decide), if_neg (by decide), if_pos rfl]
      rw [h'] at h
      simp only [Option.some.injEq, Prod.mk.injEq] at h
      obtain ⟨rfl, rfl, rfl, rfl, rfl, rfl, rfl⟩ := h
      have HV := Aside0.mk hv
      clear h' hv
      go_enter Try.func47, Try.ntmps47
      go_wp2_with fail
      refine (spec_l1bad.calls A0 c0 l0 a1 A2 c2 l2 a3 A4 c4 l4 a5 2 _ _ (Kd.C_below R0.out (by repeat (first | exact Below.refl _ _ | apply below_alloc))) hc0 (Kd.C_below R2.out (by repeat (first | exact Below.refl _ _ | apply below_alloc))) hc2 (Kd.C_below R4.out (by repeat (first | exact Below.refl _ _ | apply below_alloc))) hc4 (l1bad_f l0 l2 l4 a1 a3 a5 2)).mono ?_
      rintro e w1 ⟨rfl, hb⟩
      have hvv : (!(okDisk l0 a1 l2 a3 l4 a5) || decide ((2 : Int) < 0) || decide ((2 : Int) < 2)) = false := HV.out
      rw [hvv]
      clear hvv
      have hB1 : Below w.heap.size w w1 := below_then (by repeat (first | exact Below.refl _ _ | apply below_alloc)) (by simp; omega) hb
      have hz1 : w.heap.size + 1 < w1.heap.size := by have := hb.size; simp at this; omega
      have hy1 : w.heap.size < w1.heap.size := by omega
      obtain ⟨qc1, qf1⟩ := bcell hb
      have HB1 := Aside0.mk hB1
      clear hB1 hb
      go_wp2_with fail
      refine (spec_l1get.calls A0 c0 l0 a1 A2 c2 l2 a3 A4 c4 l4 a5 2 l4 a5 _ (Kd.C_below R0.out (by repeat (first | exact HB1.out | apply below_alloc))) hc0 (Kd.C_below R2.out (by repeat (first | exact HB1.out | apply below_alloc))) hc2 (Kd.C_below R4.out (by repeat (first | exact HB1.out | apply below_alloc))) hc4 (l1get_2 l0 l2 l4 a1 a3 a5 (by omega))).mono ?_
      rintro e w2 ⟨vf, rfl, of, hb⟩
      obtain ⟨Bf, df, rfl⟩ := Kd.R_slice of
      have hB2 : Below w.heap.size w w2 := below_then (by repeat (first | exact HB1.out | apply below_alloc)) (by first | omega | (simp; done) | (simp; omega)) hb
      have hz2 : w.heap.size + 1 < w2.heap.size := by have := hb.size; first | omega | (simp at this; omega)
      have hy2 : w.heap.size < w2.heap.size := by omega
      obtain ⟨qc2, qf2⟩ := bcell hb
      have HB2 := Aside0.mk hB2
      have OF := Aside0.mk of
      have SZ := Aside0.mk (show w1.heap.size ≤ w2.heap.size by have := hb.size; first | omega | (simp at this; omega))
      clear hB2 hb of
      go_wp2_with fail
      refine (spec_l1put_2 A0 c0 l0 a1 A2 c2 l2 a3 A4 c4 l4 a5 Bf l4.length df _ _ (Kd.C_below R0.out (by repeat (first | exact HB2.out | apply below_alloc))) hc0 (Kd.C_below R2.out (by repeat (first | exact HB2.out | apply below_alloc))) hc2 (Kd.C_below R4.out (by repeat (first | exact HB2.out | apply below_alloc))) hc4 x0 y0 z0).mono ?_
      rintro e w3 ⟨v0, v2, rfl, o0, o2, hb⟩
      obtain ⟨B0, d0, rfl⟩ := Kd.R_slice o0
      obtain ⟨B2, d2, rfl⟩ := Kd.R_slice o2
      have hB3 : Below w.heap.size w w3 := below_then (by repeat (first | exact HB2.out | apply below_alloc)) (by first | omega | (simp; done) | (simp; omega)) hb
      have hz3 : w.heap.size + 1 < w3.heap.size := by have := hb.size; first | omega | (simp at this; omega)
      have hy3 : w.heap.size < w3.heap.size := by omega
      obtain ⟨qc3, qf3⟩ := bcell hb
      have HB3 := Aside0.mk hB3
      have m1 : w1.heap.size ≤ w2.heap.size := SZ.out
      have f1 : ∀ k, (Value.slice Bf l4.length df).ownBlock = some k → k < w2.heap.size := fun k e => Kd.R_lt OF.out k e
      have f2 : ∀ k, (Value.slice B0 l0.length d0).ownBlock = some k → w2.heap.size ≤ k := fun k e => by have := Kd.R_base o0 k e; simp at this; omega
      have f3 : ∀ k, (Value.slice B2 l2.length d2).ownBlock = some k → w2.heap.size ≤ k := fun k e => by have := Kd.R_base o2 k e; simp at this; omega
      have HO0 := Aside0.mk o0
      have HO2 := Aside0.mk o2
      have OF' := Aside0.mk (Kd.R_below OF.out ((below_alloc (Below.refl w2.heap.size w2) _).trans (hb.mono (by simp))))
      have FF := Aside0.mk (And.intro f1 (And.intro f2 f3))
      clear hB3 hb o0 o2 f1 f2 f3 m1 OF
      go_wp2_with fail
      refine bodyPost_ret (v := .tuple #[.agg #[.slice B0 l0.length d0, .int .i64 a1, .slice B2 l2.length d2, .int .i64 a3, .slice Bf l4.length df, .int .i64 (l4.length : Int)], .int .i64 0]) ?_ rfl ?_
      · simp [results, Try.results47, go_sem, qc3, qc2, qc1, hy1, hz1, hy2, hz2, hy3, hz3]
      · obtain ⟨f1, f2, f3⟩ := FF.out
        refine ⟨_, _, _, rfl, ?_, ?_, ?_, ?_⟩
        · exact R_store6 (Kd.R_reok rfl HO0.out (ok := fun k => some k ≠ _ ∧ some k ≠ _) (fun k e => ⟨(HO0.out.1 k e), (fun q => by have h1 := f2 k e; have h2 := f1 k q.symm; omega)⟩)) (fun k hk => hk) (by first | omega | (simp; done) | (simp; omega)) (by first | omega | (simp; done) | (simp; omega))
        · exact R_store6 (Kd.R_reok rfl HO2.out (ok := fun k => some k ≠ _ ∧ some k ≠ _) (fun k e => ⟨(HO2.out.1 k e), (fun q => by have h1 := f3 k e; have h2 := f1 k q.symm; omega)⟩)) (fun k hk => hk) (by first | omega | (simp; done) | (simp; omega)) (by first | omega | (simp; done) | (simp; omega))
        · exact R_store6 (Kd.R_reok rfl OF'.out (ok := fun k => some k ≠ _ ∧ some k ≠ _) (fun k e => ⟨(fun q => by have h1 := f1 k e; have h2 := f2 k q.symm; omega), (fun q => by have h1 := f1 k e; have h2 := f3 k q.symm; omega)⟩)) (fun k hk => hk) (by first | omega | (simp; done) | (simp; omega)) (by first | omega | (simp; done) | (simp; omega))
        · exact below_store6 HB3.out (by omega)
  · have h' : impl_DiskSync.f l0 a1 l2 a3 l4 a5 n = some ([], 0, [], 0, [], 0, 1) := by
      unfold impl_DiskSync.f
      by_cases ho : okDisk l0 a1 l2 a3 l4 a5 = true
      · have hn : n < 0 ∨ 2 < n := by simpa [ho] using hv
        rw [if_pos ho, if_neg (by omega), if_neg (by omega), if_neg (by omega)]
      · rw [if_neg ho]
    rw [h'] at h
    simp only [Option.some.injEq, Prod.mk.injEq] at h
    obtain ⟨rfl, rfl, rfl, rfl, rfl, rfl, rfl⟩ := h
    have HV := Aside0.mk hv
    clear h' hv
    go_enter Try.func47, Try.ntmps47
    go_wp2_with fail
    refine (spec_l1bad.calls A0 c0 l0 a1 A2 c2 l2 a3 A4 c4 l4 a5 n _ _ (Kd.C_below R0.out (by repeat (first | exact Below.refl _ _ | apply below_alloc))) hc0 (Kd.C_below R2.out (by repeat (first | exact Below.refl _ _ | apply below_alloc))) hc2 (Kd.C_below R4.out (by repeat (first | exact Below.refl _ _ | apply below_alloc))) hc4 (l1bad_f l0 l2 l4 a1 a3 a5 n)).mono ?_
    rintro e w1 ⟨rfl, hb⟩
    have hvv : (!(okDisk l0 a1 l2 a3 l4 a5) || decide (n < 0) || decide (2 < n)) = true := HV.out
    rw [hvv]
    clear hvv
    have hB1 : Below w.heap.size w w1 := below_then (by repeat (first | exact Below.refl _ _ | apply below_alloc)) (by simp; omega) hb
    have hz1 : w.heap.size + 1 < w1.heap.size := by have := hb.size; simp at this; omega
    have hy1 : w.heap.size < w1.heap.size := by omega
    obtain ⟨qc1, qf1⟩ := bcell hb
    have HB1 := Aside0.mk hB1
    clear hB1 hb
    go_wp2_with fail
    refine bodyPost_ret (v := .tuple #[.agg #[.slice none 0 0, .int .i64 0, .slice none 0 0, .int .i64 0, .slice none 0 0, .int .i64 0], .int .i64 1]) ?_ rfl ?_
    · simp [results, Try.results47, go_sem, qc1, hy1, hz1]
    · exact ⟨_, _, _, rfl, Kd.R_nil _ _ _ _ _, Kd.R_nil _ _ _ _ _, Kd.R_nil _ _ _ _ _, below_store6 HB1.out (by omega)⟩

set_option maxHeartbeats 2000000 in
set_option maxRecDepth 100000 in
theorem spec_DiskRename.calls (A0 : Option Addr) (c0 : Nat) (l0 : List Int) (a1 : Int) (A2 : Option Addr) (c2 : Nat) (l2 : List Int) (a3 : Int) (A4 : Option Addr) (c4 : Nat) (l4 : List Int) (a5 : Int) (r1 : List Int) (r2 : Int) (r3 : List Int) (r4 : Int) (r5 : List Int) (r6 : Int) (r7 : Int) (w : World) (h0 : Kd.C (Kd.int .u8) w A0 l0.length l0) (hc0 : l0.length ≤ c0) (h2 : Kd.C (Kd.int .u8) w A2 l2.length l2) (hc2 : l2.length ≤ c2) (h4 : Kd.C (Kd.int .u8) w A4 l4.length l4) (hc4 : l4.length ≤ c4) (h : impl_DiskRename.f l0 a1 l2 a3 l4 a5 = some (r1, r2, r3, r4, r5, r6, r7)) :
    Calls Try.prog 43 #[.agg #[.slice A0 l0.length c0, .int .i64 a1, .slice A2 l2.length c2, .int .i64 a3, .slice A4 l4.length c4, .int .i64 a5]] w fun e w' => ∃ v0_ v2_ v4_ : Value, e = .returned (.tuple #[.agg #[v0_, .int .i64 r2, v2_, .int .i64 r4, v4_, .int .i64 r6], .int .i64 r7]) ∧ Kd.R (Kd.int .u8) 5 w' w.heap.size (fun k_ => some k_ ≠ (v2_ : Value).ownBlock ∧ some k_ ≠ (v4_ : Value).ownBlock) v0_ r1 ∧ Kd.R (Kd.int .u8) 5 w' w.heap.size (fun k_ => some k_ ≠ (v0_ : Value).ownBlock ∧ some k_ ≠ (v4_ : Value).ownBlock) v2_ r3 ∧ Kd.R (Kd.int .u8) 5 w' w.heap.size (fun k_ => some k_ ≠ (v0_ : Value).ownBlock ∧ some k_ ≠ (v2_ : Value).ownBlock) v4_ r5 ∧ Below w.heap.size w w' := by
  have R0 := Aside0.mk h0
  have R2 := Aside0.mk h2
  have R4 := Aside0.mk h4
  clear h0 h2 h4
  rcases hv : (okDisk l0 a1 l2 a3 l4 a5) with _ | _
  · have h' : impl_DiskRename.f l0 a1 l2 a3 l4 a5 = some ([], 0, [], 0, [], 0, 1) := by
      unfold impl_DiskRename.f
      rw [if_neg (by rw [hv]; decide)]
    rw [h'] at h
    simp only [Option.some.injEq, Prod.mk.injEq] at h
    obtain ⟨rfl, rfl, rfl, rfl, rfl, rfl, rfl⟩ := h
    have HV := Aside0.mk hv
    clear h' hv
    go_enter Try.func43, Try.ntmps43
    go_wp2_with fail
    refine (spec_ValidDisk.calls A0 c0 l0 a1 A2 c2 l2 a3 A4 c4 l4 a5 _ _ (Kd.C_below R0.out (by repeat (first | exact Below.refl _ _ | apply below_alloc))) hc0 (Kd.C_below R2.out (by repeat (first | exact Below.refl _ _ | apply below_alloc))) hc2 (Kd.C_below R4.out (by repeat (first | exact Below.refl _ _ | apply below_alloc))) hc4 (spec_ValidDisk_eq l0 l2 l4 a1 a3 a5)).mono ?_
    rintro e w1 ⟨rfl, hb⟩
    have hvv : (okDisk l0 a1 l2 a3 l4 a5) = false := HV.out
    rw [hvv]
    clear hvv
    have hB1 : Below w.heap.size w w1 := below_then (by repeat (first | exact Below.refl _ _ | apply below_alloc)) (by simp; omega) hb
    have hz1 : w.heap.size + 1 < w1.heap.size := by have := hb.size; simp at this; omega
    have hy1 : w.heap.size < w1.heap.size := by omega
    obtain ⟨qc1, qf1⟩ := bcell hb
    have HB1 := Aside0.mk hB1
    clear hB1 hb
    go_wp2_with fail
    refine bodyPost_ret (v := .tuple #[.agg #[.slice none 0 0, .int .i64 0, .slice none 0 0, .int .i64 0, .slice none 0 0, .int .i64 0], .int .i64 1]) ?_ rfl ?_
    · simp [results, Try.results43, go_sem, qc1, hy1, hz1]
    · exact ⟨_, _, _, rfl, Kd.R_nil _ _ _ _ _, Kd.R_nil _ _ _ _ _, Kd.R_nil _ _ _ _ _, below_store6 HB1.out (by omega)⟩
  · obtain ⟨⟨x0, x1, x2⟩, ⟨y0, y1, y2⟩, ⟨z0, z1, z2⟩⟩ := okDisk_iff hv
    have h' : impl_DiskRename.f l0 a1 l2 a3 l4 a5 = _ := if_pos hv
    rw [h'] at h
    simp only [Option.some.injEq, Prod.mk.injEq] at h
    obtain ⟨rfl, rfl, rfl, rfl, rfl, rfl, rfl⟩ := h
    have HV := Aside0.mk hv
    clear h' hv
    go_enter Try.func43, Try.ntmps43
    go_wp2_with fail
    refine (spec_ValidDisk.calls A0 c0 l0 a1 A2 c2 l2 a3 A4 c4 l4 a5 _ _ (Kd.C_below R0.out (by repeat (first | exact Below.refl _ _ | apply below_alloc))) hc0 (Kd.C_below R2.out (by repeat (first | exact Below.refl _ _ | apply below_alloc))) hc2 (Kd.C_below R4.out (by repeat (first | exact Below.refl _ _ | apply below_alloc))) hc4 (spec_ValidDisk_eq l0 l2 l4 a1 a3 a5)).mono ?_
    rintro e w1 ⟨rfl, hb⟩
    have hvv : (okDisk l0 a1 l2 a3 l4 a5) = true := HV.out
    rw [hvv]
    clear hvv
    have hB1 : Below w.heap.size w w1 := below_then (by repeat (first | exact Below.refl _ _ | apply below_alloc)) (by simp; omega) hb
    have hz1 : w.heap.size + 1 < w1.heap.size := by have := hb.size; simp at this; omega
    have hy1 : w.heap.size < w1.heap.size := by omega
    obtain ⟨qc1, qf1⟩ := bcell hb
    have HB1 := Aside0.mk hB1
    clear hB1 hb
    go_wp2_with fail
    have z0_ := qc1 w.heap.size
    have SS : w1.cell? ⟨w.heap.size, 0, none⟩ = some (.slice A0 l0.length c0) ∧ w1.cell? ⟨w.heap.size, 1, none⟩ = some (.int .i64 a1) ∧ w1.cell? ⟨w.heap.size, 2, none⟩ = some (.slice A2 l2.length c2) ∧ w1.cell? ⟨w.heap.size, 3, none⟩ = some (.int .i64 a3) ∧ w1.cell? ⟨w.heap.size, 4, none⟩ = some (.slice A4 l4.length c4) ∧ w1.cell? ⟨w.heap.size, 5, none⟩ = some (.int .i64 a5) := by
      refine ⟨?_, ?_, ?_, ?_, ?_, ?_⟩ <;> (rw [qc1 _ _ (by simp; omega)]; simp)
    have SA := Aside0.mk SS
    go_region_held3 (fun w' => w'.cell? ⟨w.heap.size, 0, none⟩ = some (.slice A0 l0.length c0) ∧ w'.cell? ⟨w.heap.size, 1, none⟩ = some (.int .i64 a1) ∧ w'.cell? ⟨w.heap.size, 2, none⟩ = some (.slice A2 l2.length c2) ∧ w'.cell? ⟨w.heap.size, 3, none⟩ = some (.int .i64 a3) ∧ w'.cell? ⟨w.heap.size, 4, none⟩ = some (.slice A4 l4.length c4) ∧ w'.cell? ⟨w.heap.size, 5, none⟩ = some (.int .i64 a5)) (exact six_below (B := w1.heap.size) (by with_reducible repeat (first | exact HX3.out | exact HX2.out | exact Below.refl _ _ | apply below_drew1 | apply below_alloc | refine below_store6 ?_ (by omega))) hy1 SA.out) (first | (go_at_call 80; refine (spec_l1file.calls A4 c4 l4 a5 l4 a5 _ (Kd.C_below R4.out (below_step HB1.out (by with_reducible repeat (first | exact Below.refl _ _ | apply below_drew1 | apply below_alloc)))) hc4 (l1file_f l4 a5 (by omega))).mono ?_; rintro e w2 ⟨vf, rfl, of, hb⟩; obtain ⟨Bf, df, rfl⟩ := Kd.R_slice of; have HX2 := Aside0.mk (show Below w1.heap.size w1 w2 from below_step (by with_reducible repeat (first | exact Below.refl _ _ | apply below_drew1 | apply below_alloc)) hb); have s2 := hb.size; (try simp at s2); have k2 : w.heap.size < w2.heap.size := (by omega); have j2 : w.heap.size + 1 < w2.heap.size := (by omega); (try have t2 : w1.heap.size < w2.heap.size := by omega); obtain ⟨qc2, qf2⟩ := bcell hb; have OF := Aside0.mk of; clear hb of) | (go_at_call 79; refine (spec_l1put_1 A0 c0 l0 a1 A2 c2 l2 a3 A4 c4 l4 a5 Bf l4.length df a5 _ (Kd.C_below R0.out (below_step HB1.out (by with_reducible repeat (first | exact HX2.out | exact Below.refl _ _ | apply below_drew1 | apply below_alloc)))) hc0 (Kd.C_below R2.out (below_step HB1.out (by with_reducible repeat (first | exact HX2.out | exact Below.refl _ _ | apply below_drew1 | apply below_alloc)))) hc2 (Kd.C_below R4.out (below_step HB1.out (by with_reducible repeat (first | exact HX2.out | exact Below.refl _ _ | apply below_drew1 | apply below_alloc)))) hc4 x0 y0 z0).mono ?_; rintro e w3 ⟨v0, v4, rfl, o0, o4, hb⟩; obtain ⟨B0, d0, rfl⟩ := Kd.R_slice o0; obtain ⟨B4, d4, rfl⟩ := Kd.R_slice o4; have HX3 := Aside0.mk (show Below w1.heap.size w1 w3 from below_step (by with_reducible repeat (first | exact HX2.out | exact Below.refl _ _ | apply below_drew1 | apply below_alloc)) hb); have OF' := Aside0.mk (Kd.R_below OF.out (show Below w2.heap.size w2 w3 from below_step (by with_reducible repeat (first | exact Below.refl _ _ | apply below_drew1 | apply below_alloc)) hb)); have s3 := hb.size; (try simp at s3); have k3 : w.heap.size < w3.heap.size := (by omega); have j3 : w.heap.size + 1 < w3.heap.size := (by omega); (try have t3 : w1.heap.size < w3.heap.size := by omega); (try have u3 : w2.heap.size < w3.heap.size := by omega); obtain ⟨qc3, qf3⟩ := bcell hb; have O0 := Aside0.mk o0; have O4 := Aside0.mk o4; clear hb o0 o4))
    all_goals go_wp2_with fail
    all_goals refine (spec_l1put_2 B0 d0 l0 a1 Bf df l4 a5 B4 d4 l4 a5 none 0 0 0 _ (by first | with_reducible exact Kd.C_alloc (Kd.R_reads' O0.out).2.2 _ | with_reducible exact C_store6 O0.out (fun k e => by have h1 := Kd.R_base O0.out k e; (try simp at h1); omega)) (Kd.R_reads' O0.out).2.1 (by first | with_reducible exact Kd.C_alloc (Kd.R_reads' OF'.out).2.2 _ | with_reducible exact C_store6 OF'.out (fun k e => by have h1 := Kd.R_lt OF.out k e; omega) | with_reducible exact C_store6 OF'.out (fun k e => by have h1 := Kd.R_base OF.out k e; (try simp at h1); omega)) (Kd.R_reads' OF'.out).2.1 (by first | with_reducible exact Kd.C_alloc (Kd.R_reads' O4.out).2.2 _ | with_reducible exact C_store6 O4.out (fun k e => by have h1 := Kd.R_base O4.out k e; (try simp at h1); omega)) (Kd.R_reads' O4.out).2.1 x0 z0 z0).mono ?_
    all_goals rintro e w4 ⟨v0', v2', rfl, o0, o2, hb⟩
    all_goals obtain ⟨E0, e0, rfl⟩ := Kd.R_slice o0
    all_goals obtain ⟨E2, e2, rfl⟩ := Kd.R_slice o2
    all_goals have hB4 : Below w.heap.size w w4 := below_then (by first | with_reducible exact below_alloc (below_step HB1.out HX3.out) _ | with_reducible exact below_store6 (below_step HB1.out HX3.out) (by omega)) (by first | omega | (simp; done) | (simp; omega)) hb
    all_goals have s4 := hb.size
    all_goals simp at s4
    all_goals have hz4 : w.heap.size + 1 < w4.heap.size := by omega
    all_goals have hy4 : w.heap.size < w4.heap.size := by omega
    all_goals have hB14 : Below w1.heap.size w1 w4 := below_step (by first | with_reducible exact below_alloc HX3.out _ | with_reducible exact below_store6 HX3.out (by omega)) hb
    all_goals obtain ⟨qc4, qf4⟩ := bcell hB14
    all_goals clear hB14 qc2 qf2 qc3 qf3
    all_goals have HB4 := Aside0.mk hB4
    all_goals have HO0 := Aside0.mk o0
    all_goals have HO2 := Aside0.mk o2
    all_goals clear hB4 hb o0 o2
    all_goals go_wp2_with fail
    all_goals refine bodyPost_ret (v := .tuple #[.agg #[.slice E0 l0.length e0, .int .i64 a1, .slice E2 l4.length e2, .int .i64 a5, .slice none 0 0, .int .i64 0], .int .i64 0]) ?_ rfl ?_
    all_goals first | (simp [results, Try.results43, go_sem, qc4, qc1, hy1, hz1, hy4, hz4]; done) | (refine ⟨_, _, _, rfl, R_store6 HO0.out (fun k hk => ⟨hk, (fun e => by cases e)⟩) (by first | omega | (simp; done) | (simp; omega)) (by first | omega | (simp; done) | (simp; omega)), R_store6 HO2.out (fun k hk => ⟨hk, (fun e => by cases e)⟩) (by first | omega | (simp; done) | (simp; omega)) (by first | omega | (simp; done) | (simp; omega)), Kd.R_nil _ _ _ _ _, below_store6 HB4.out (by omega)⟩)
end Go.Proofs.Ytbapokpkgonjkaa.Print
