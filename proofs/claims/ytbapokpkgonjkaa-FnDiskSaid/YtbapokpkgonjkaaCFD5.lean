/- Texts of this session, joined by its own program. -/
import Derived.Test.YtbapokpkgonjkaaCFD0
import Derived.Test.YtbapokpkgonjkaaCFD4
import Derived.Test.YtbapokpkgonjkaaCFD2
import Derived.Test.YtbapokpkgonjkaaCFD3
/- DiskReset, DiskSync, DiskAppend: what each answers, in new memory. -/
namespace Go.Proofs.Ytbapokpkgonjkaa.Print
open Go.RowKit Go.Proofs.YtbapokpkgonjkaaW.PrintWords Go.Proofs.YtbapokpkgonjkaaW.PrintLast Go.Proofs.YtbapokpkgonjkaaW.PrintMore
set_option linter.unusedVariables false
set_option linter.unusedSimpArgs false

set_option maxHeartbeats 400000 in
set_option maxRecDepth 100000 in
theorem onFile_bad_disk (A0_0 : Option Addr) (c0_0 : Nat) (l0_0 : List Int) (a0_1 : Int) (A0_2 : Option Addr) (c0_2 : Nat) (l0_2 : List Int) (a0_3 : Int) (A0_4 : Option Addr) (c0_4 : Nat) (l0_4 : List Int) (a0_5 : Int) (n : Int) (F : Value) (w : World) (hv : okDisk l0_0 a0_1 l0_2 a0_3 l0_4 a0_5 = false) :
    Calls Try.prog 83 #[.agg #[.slice A0_0 l0_0.length c0_0, .int .i64 a0_1, .slice A0_2 l0_2.length c0_2, .int .i64 a0_3, .slice A0_4 l0_4.length c0_4, .int .i64 a0_5], .int .i64 n, F] w fun e w' => ∃ v0_ v2_ v4_ : Value, e = .returned (.tuple #[.agg #[v0_, .int .i64 0, v2_, .int .i64 0, v4_, .int .i64 0], .int .i64 1]) ∧ Kd.R (Kd.int .u8) 5 w' w.heap.size (fun k_ => some k_ ≠ (v2_ : Value).ownBlock ∧ some k_ ≠ (v4_ : Value).ownBlock) v0_ [] ∧ Kd.R (Kd.int .u8) 5 w' w.heap.size (fun k_ => some k_ ≠ (v0_ : Value).ownBlock ∧ some k_ ≠ (v4_ : Value).ownBlock) v2_ [] ∧ Kd.R (Kd.int .u8) 5 w' w.heap.size (fun k_ => some k_ ≠ (v0_ : Value).ownBlock ∧ some k_ ≠ (v2_ : Value).ownBlock) v4_ [] ∧ Below w.heap.size w w' := by
  have HV := Aside0.mk hv
  clear hv
  go_enter Try.func83, Try.ntmps83
  go_wp2_with fail
  refine (validDisk_any _ _ _ _ _ _ _ _ _ _ _ _ _).mono ?_
  rintro e w1 ⟨rfl, hb⟩
  have hvv : (okFile l0_0.length a0_1 && (okFile l0_2.length a0_3 && okFile l0_4.length a0_5)) = false := HV.out
  rw [hvv]
  clear hvv
  have hB1 : Below w.heap.size w w1 := below_then (below_alloc (below_alloc (Below.refl _ _) _) _) (by simp; omega) hb
  have hz1 : w.heap.size + 1 < w1.heap.size := by have := hb.size; simp at this; omega
  have hy1 : w.heap.size < w1.heap.size := by omega
  obtain ⟨hc1, hf1⟩ := bcell hb
  have HB1 := Aside0.mk hB1
  clear hB1 hb
  go_wp2_with fail
  refine bodyPost_ret (v := .tuple #[.agg #[.slice none 0 0, .int .i64 0, .slice none 0 0, .int .i64 0, .slice none 0 0, .int .i64 0], .int .i64 1]) ?_ rfl ?_
  · simp [results, Try.results83, go_sem, hc1, hy1, hz1]
  · exact ⟨_, _, _, rfl, Kd.R_nil _ _ _ _ _, Kd.R_nil _ _ _ _ _, Kd.R_nil _ _ _ _ _, below_store6 HB1.out (by omega)⟩

set_option maxHeartbeats 400000 in
set_option maxRecDepth 100000 in
theorem onFile_bad_neg (A0_0 : Option Addr) (c0_0 : Nat) (l0_0 : List Int) (a0_1 : Int) (A0_2 : Option Addr) (c0_2 : Nat) (l0_2 : List Int) (a0_3 : Int) (A0_4 : Option Addr) (c0_4 : Nat) (l0_4 : List Int) (a0_5 : Int) (n : Int) (F : Value) (w : World) (hv : okDisk l0_0 a0_1 l0_2 a0_3 l0_4 a0_5 = true) (hn : n < 0) :
    Calls Try.prog 83 #[.agg #[.slice A0_0 l0_0.length c0_0, .int .i64 a0_1, .slice A0_2 l0_2.length c0_2, .int .i64 a0_3, .slice A0_4 l0_4.length c0_4, .int .i64 a0_5], .int .i64 n, F] w fun e w' => ∃ v0_ v2_ v4_ : Value, e = .returned (.tuple #[.agg #[v0_, .int .i64 0, v2_, .int .i64 0, v4_, .int .i64 0], .int .i64 1]) ∧ Kd.R (Kd.int .u8) 5 w' w.heap.size (fun k_ => some k_ ≠ (v2_ : Value).ownBlock ∧ some k_ ≠ (v4_ : Value).ownBlock) v0_ [] ∧ Kd.R (Kd.int .u8) 5 w' w.heap.size (fun k_ => some k_ ≠ (v0_ : Value).ownBlock ∧ some k_ ≠ (v4_ : Value).ownBlock) v2_ [] ∧ Kd.R (Kd.int .u8) 5 w' w.heap.size (fun k_ => some k_ ≠ (v0_ : Value).ownBlock ∧ some k_ ≠ (v2_ : Value).ownBlock) v4_ [] ∧ Below w.heap.size w w' := by
  have HV := Aside0.mk hv
  clear hv
  have hneg : decide (n < 0) = true := by simp; omega
  go_enter Try.func83, Try.ntmps83
  go_wp2_with fail
  refine (validDisk_any _ _ _ _ _ _ _ _ _ _ _ _ _).mono ?_
  rintro e w1 ⟨rfl, hb⟩
  have hvv : (okFile l0_0.length a0_1 && (okFile l0_2.length a0_3 && okFile l0_4.length a0_5)) = true := HV.out
  rw [hvv]
  clear hvv
  have hB1 : Below w.heap.size w w1 := below_then (below_alloc (below_alloc (Below.refl _ _) _) _) (by simp; omega) hb
  have hz1 : w.heap.size + 1 < w1.heap.size := by have := hb.size; simp at this; omega
  have hy1 : w.heap.size < w1.heap.size := by omega
  obtain ⟨hc1, hf1⟩ := bcell hb
  have HB1 := Aside0.mk hB1
  clear hB1 hb
  go_wp2_with fail
  refine bodyPost_ret (v := .tuple #[.agg #[.slice none 0 0, .int .i64 0, .slice none 0 0, .int .i64 0, .slice none 0 0, .int .i64 0], .int .i64 1]) ?_ rfl ?_
  · simp [results, Try.results83, go_sem, hc1, hy1, hz1]
  · exact ⟨_, _, _, rfl, Kd.R_nil _ _ _ _ _, Kd.R_nil _ _ _ _ _, Kd.R_nil _ _ _ _ _, below_store6 HB1.out (by omega)⟩

set_option maxHeartbeats 400000 in
set_option maxRecDepth 100000 in
theorem onFile_bad_big (A0_0 : Option Addr) (c0_0 : Nat) (l0_0 : List Int) (a0_1 : Int) (A0_2 : Option Addr) (c0_2 : Nat) (l0_2 : List Int) (a0_3 : Int) (A0_4 : Option Addr) (c0_4 : Nat) (l0_4 : List Int) (a0_5 : Int) (n : Int) (F : Value) (w : World) (hv : okDisk l0_0 a0_1 l0_2 a0_3 l0_4 a0_5 = true) (hn : 2 < n) :
    Calls Try.prog 83 #[.agg #[.slice A0_0 l0_0.length c0_0, .int .i64 a0_1, .slice A0_2 l0_2.length c0_2, .int .i64 a0_3, .slice A0_4 l0_4.length c0_4, .int .i64 a0_5], .int .i64 n, F] w fun e w' => ∃ v0_ v2_ v4_ : Value, e = .returned (.tuple #[.agg #[v0_, .int .i64 0, v2_, .int .i64 0, v4_, .int .i64 0], .int .i64 1]) ∧ Kd.R (Kd.int .u8) 5 w' w.heap.size (fun k_ => some k_ ≠ (v2_ : Value).ownBlock ∧ some k_ ≠ (v4_ : Value).ownBlock) v0_ [] ∧ Kd.R (Kd.int .u8) 5 w' w.heap.size (fun k_ => some k_ ≠ (v0_ : Value).ownBlock ∧ some k_ ≠ (v4_ : Value).ownBlock) v2_ [] ∧ Kd.R (Kd.int .u8) 5 w' w.heap.size (fun k_ => some k_ ≠ (v0_ : Value).ownBlock ∧ some k_ ≠ (v2_ : Value).ownBlock) v4_ [] ∧ Below w.heap.size w w' := by
  have HV := Aside0.mk hv
  clear hv
  have hneg : decide (n < 0) = false := by simp; omega
  have hbig : decide (2 < n) = true := by simp; omega
  go_enter Try.func83, Try.ntmps83
  go_wp2_with fail
  refine (validDisk_any _ _ _ _ _ _ _ _ _ _ _ _ _).mono ?_
  rintro e w1 ⟨rfl, hb⟩
  have hvv : (okFile l0_0.length a0_1 && (okFile l0_2.length a0_3 && okFile l0_4.length a0_5)) = true := HV.out
  rw [hvv]
  clear hvv
  have hB1 : Below w.heap.size w w1 := below_then (below_alloc (below_alloc (Below.refl _ _) _) _) (by simp; omega) hb
  have hz1 : w.heap.size + 1 < w1.heap.size := by have := hb.size; simp at this; omega
  have hy1 : w.heap.size < w1.heap.size := by omega
  obtain ⟨hc1, hf1⟩ := bcell hb
  have HB1 := Aside0.mk hB1
  clear hB1 hb
  go_wp2_with fail
  refine bodyPost_ret (v := .tuple #[.agg #[.slice none 0 0, .int .i64 0, .slice none 0 0, .int .i64 0, .slice none 0 0, .int .i64 0], .int .i64 1]) ?_ rfl ?_
  · simp [results, Try.results83, go_sem, hc1, hy1, hz1]
  · exact ⟨_, _, _, rfl, Kd.R_nil _ _ _ _ _, Kd.R_nil _ _ _ _ _, Kd.R_nil _ _ _ _ _, below_store6 HB1.out (by omega)⟩

def impl_DiskReset.f (l0_0 : List Int) (a0_1 : Int) (l0_2 : List Int) (a0_3 : Int) (l0_4 : List Int) (a0_5 : Int) (a1 : Int) : Option (List Int × Int × List Int × Int × List Int × Int × Int) :=
  if okDisk l0_0 a0_1 l0_2 a0_3 l0_4 a0_5 = true then (if a1 = 0 then some ([], 0, l0_2, a0_3, l0_4, a0_5, 0) else if a1 = 1 then some (l0_0, a0_1, [], 0, l0_4, a0_5, 0) else if a1 = 2 then some (l0_0, a0_1, l0_2, a0_3, [], 0, 0) else some ([], 0, [], 0, [], 0, 1)) else some ([], 0, [], 0, [], 0, 1)

set_option maxHeartbeats 1600000 in
set_option maxRecDepth 100000 in
theorem impl_DiskReset.calls (A0_0 : Option Addr) (c0_0 : Nat) (l0_0 : List Int) (a0_1 : Int) (A0_2 : Option Addr) (c0_2 : Nat) (l0_2 : List Int) (a0_3 : Int) (A0_4 : Option Addr) (c0_4 : Nat) (l0_4 : List Int) (a0_5 : Int) (a1 : Int) (r1 : List Int) (r2 : Int) (r3 : List Int) (r4 : Int) (r5 : List Int) (r6 : Int) (r7 : Int) (w : World) (hr0_0 : Kd.C (Kd.int .u8) w A0_0 l0_0.length l0_0) (hc0_0 : l0_0.length ≤ c0_0) (hr0_2 : Kd.C (Kd.int .u8) w A0_2 l0_2.length l0_2) (hc0_2 : l0_2.length ≤ c0_2) (hr0_4 : Kd.C (Kd.int .u8) w A0_4 l0_4.length l0_4) (hc0_4 : l0_4.length ≤ c0_4) (h : impl_DiskReset.f l0_0 a0_1 l0_2 a0_3 l0_4 a0_5 a1 = some (r1, r2, r3, r4, r5, r6, r7)) :
    Calls Try.prog 46 #[.agg #[.slice A0_0 l0_0.length c0_0, .int .i64 a0_1, .slice A0_2 l0_2.length c0_2, .int .i64 a0_3, .slice A0_4 l0_4.length c0_4, .int .i64 a0_5], .int .i64 a1] w fun e w' => ∃ v0_ v2_ v4_ : Value, e = .returned (.tuple #[.agg #[v0_, .int .i64 r2, v2_, .int .i64 r4, v4_, .int .i64 r6], .int .i64 r7]) ∧ Kd.R (Kd.int .u8) 5 w' w.heap.size (fun k_ => some k_ ≠ (v2_ : Value).ownBlock ∧ some k_ ≠ (v4_ : Value).ownBlock) v0_ r1 ∧ Kd.R (Kd.int .u8) 5 w' w.heap.size (fun k_ => some k_ ≠ (v0_ : Value).ownBlock ∧ some k_ ≠ (v4_ : Value).ownBlock) v2_ r3 ∧ Kd.R (Kd.int .u8) 5 w' w.heap.size (fun k_ => some k_ ≠ (v0_ : Value).ownBlock ∧ some k_ ≠ (v2_ : Value).ownBlock) v4_ r5 ∧ Below w.heap.size w w' := by
  have HR0 := Aside0.mk hr0_0
  have HR2 := Aside0.mk hr0_2
  have HR4 := Aside0.mk hr0_4
  clear hr0_0 hr0_2 hr0_4
  rcases hv : okDisk l0_0 a0_1 l0_2 a0_3 l0_4 a0_5 with _ | _
  · have h' : impl_DiskReset.f l0_0 a0_1 l0_2 a0_3 l0_4 a0_5 a1 = some ([], 0, [], 0, [], 0, 1) := by unfold impl_DiskReset.f; rw [hv, if_neg (by decide)]
    rw [h'] at h
    simp only [Option.some.injEq, Prod.mk.injEq] at h
    obtain ⟨rfl, rfl, rfl, rfl, rfl, rfl, rfl⟩ := h
    clear h'
    go_enter Try.func46, Try.ntmps46
    go_wp2_with fail
    refine (onFile_bad_disk A0_0 c0_0 l0_0 a0_1 A0_2 c0_2 l0_2 a0_3 A0_4 c0_4 l0_4 a0_5 a1 _ _ hv).mono ?_
    rintro e w1 ⟨v0, v2, v4, rfl, ho0, ho2, ho4, hb⟩
    obtain ⟨B0, d0, rfl, hd0, _⟩ := Kd.R_reads ho0
    obtain ⟨B2, d2, rfl, hd2, _⟩ := Kd.R_reads ho2
    obtain ⟨B4, d4, rfl, hd4, _⟩ := Kd.R_reads ho4
    have hB1 : Below w.heap.size w w1 := below_then (by with_reducible repeat (first | exact Below.refl _ _ | apply below_alloc)) (by simp; omega) hb
    have hz1 : w.heap.size + 1 < w1.heap.size := by have := hb.size; simp at this; omega
    have hy1 : w.heap.size < w1.heap.size := by omega
    have hzb := hb.size
    obtain ⟨hc1, hf1⟩ := bcell hb
    have HB1 := Aside0.mk hB1
    have HO0 := Aside0.mk ho0
    have HO2 := Aside0.mk ho2
    have HO4 := Aside0.mk ho4
    clear hB1 hb ho0 ho2 ho4
    go_wp2_with fail
    refine bodyPost_ret (v := .tuple #[.agg #[.slice B0 (([] : List Int)).length d0, .int .i64 (0), .slice B2 (([] : List Int)).length d2, .int .i64 (0), .slice B4 (([] : List Int)).length d4, .int .i64 (0)], .int .i64 (1)]) ?_ rfl ?_
    · simp [results, Try.results46, go_sem, hc1, hy1, hz1]
    · refine ⟨_, _, _, rfl, ?_, ?_, ?_, ?_⟩
      · exact R_store6 HO0.out (fun k hk => hk) (by simp) (by simp; omega)
      · exact R_store6 HO2.out (fun k hk => hk) (by simp) (by simp; omega)
      · exact R_store6 HO4.out (fun k hk => hk) (by simp) (by simp; omega)
      · exact below_store6 HB1.out (by omega)
  · by_cases e0 : a1 = 0
    · subst e0
      have h' : impl_DiskReset.f l0_0 a0_1 l0_2 a0_3 l0_4 a0_5 0 = some ([], 0, l0_2, a0_3, l0_4, a0_5, 0) := by unfold impl_DiskReset.f; rw [if_pos hv, if_pos rfl]
      rw [h'] at h
      simp only [Option.some.injEq, Prod.mk.injEq] at h
      obtain ⟨rfl, rfl, rfl, rfl, rfl, rfl, rfl⟩ := h
      clear h'
      go_enter Try.func46, Try.ntmps46
      go_wp2_with fail
      refine (onFile_reset_0 A0_0 c0_0 l0_0 a0_1 A0_2 c0_2 l0_2 a0_3 A0_4 c0_4 l0_4 a0_5 _ (Kd.C_alloc (Kd.C_alloc HR0.out _) _) hc0_0 (Kd.C_alloc (Kd.C_alloc HR2.out _) _) hc0_2 (Kd.C_alloc (Kd.C_alloc HR4.out _) _) hc0_4 hv).mono ?_
      rintro e w1 ⟨v0, v2, v4, rfl, ho0, ho2, ho4, hb⟩
      obtain ⟨B0, d0, rfl, hd0, _⟩ := Kd.R_reads ho0
      obtain ⟨B2, d2, rfl, hd2, _⟩ := Kd.R_reads ho2
      obtain ⟨B4, d4, rfl, hd4, _⟩ := Kd.R_reads ho4
      have hB1 : Below w.heap.size w w1 := below_then (by with_reducible repeat (first | exact Below.refl _ _ | apply below_alloc)) (by simp; omega) hb
      have hz1 : w.heap.size + 1 < w1.heap.size := by have := hb.size; simp at this; omega
      have hy1 : w.heap.size < w1.heap.size := by omega
      have hzb := hb.size
      obtain ⟨hc1, hf1⟩ := bcell hb
      have HB1 := Aside0.mk hB1
      have HO0 := Aside0.mk ho0
      have HO2 := Aside0.mk ho2
      have HO4 := Aside0.mk ho4
      clear hB1 hb ho0 ho2 ho4
      go_wp2_with fail
      refine bodyPost_ret (v := .tuple #[.agg #[.slice B0 (([] : List Int)).length d0, .int .i64 (0), .slice B2 (l0_2).length d2, .int .i64 (a0_3), .slice B4 (l0_4).length d4, .int .i64 (a0_5)], .int .i64 (0)]) ?_ rfl ?_
      · simp [results, Try.results46, go_sem, hc1, hy1, hz1]
      · refine ⟨_, _, _, rfl, ?_, ?_, ?_, ?_⟩
        · exact R_store6 HO0.out (fun k hk => hk) (by simp) (by simp; omega)
        · exact R_store6 HO2.out (fun k hk => hk) (by simp) (by simp; omega)
        · exact R_store6 HO4.out (fun k hk => hk) (by simp) (by simp; omega)
        · exact below_store6 HB1.out (by omega)
    · by_cases e1 : a1 = 1
      · subst e1
        have h' : impl_DiskReset.f l0_0 a0_1 l0_2 a0_3 l0_4 a0_5 1 = some (l0_0, a0_1, [], 0, l0_4, a0_5, 0) := by unfold impl_DiskReset.f; rw [if_pos hv, if_neg (by omega), if_pos rfl]
        rw [h'] at h
        simp only [Option.some.injEq, Prod.mk.injEq] at h
        obtain ⟨rfl, rfl, rfl, rfl, rfl, rfl, rfl⟩ := h
        clear h'
        go_enter Try.func46, Try.ntmps46
        go_wp2_with fail
        refine (onFile_reset_1 A0_0 c0_0 l0_0 a0_1 A0_2 c0_2 l0_2 a0_3 A0_4 c0_4 l0_4 a0_5 _ (Kd.C_alloc (Kd.C_alloc HR0.out _) _) hc0_0 (Kd.C_alloc (Kd.C_alloc HR2.out _) _) hc0_2 (Kd.C_alloc (Kd.C_alloc HR4.out _) _) hc0_4 hv).mono ?_
        rintro e w1 ⟨v0, v2, v4, rfl, ho0, ho2, ho4, hb⟩
        obtain ⟨B0, d0, rfl, hd0, _⟩ := Kd.R_reads ho0
        obtain ⟨B2, d2, rfl, hd2, _⟩ := Kd.R_reads ho2
        obtain ⟨B4, d4, rfl, hd4, _⟩ := Kd.R_reads ho4
        have hB1 : Below w.heap.size w w1 := below_then (by with_reducible repeat (first | exact Below.refl _ _ | apply below_alloc)) (by simp; omega) hb
        have hz1 : w.heap.size + 1 < w1.heap.size := by have := hb.size; simp at this; omega
        have hy1 : w.heap.size < w1.heap.size := by omega
        have hzb := hb.size
        obtain ⟨hc1, hf1⟩ := bcell hb
        have HB1 := Aside0.mk hB1
        have HO0 := Aside0.mk ho0
        have HO2 := Aside0.mk ho2
        have HO4 := Aside0.mk ho4
        clear hB1 hb ho0 ho2 ho4
        go_wp2_with fail
        refine bodyPost_ret (v := .tuple #[.agg #[.slice B0 (l0_0).length d0, .int .i64 (a0_1), .slice B2 (([] : List Int)).length d2, .int .i64 (0), .slice B4 (l0_4).length d4, .int .i64 (a0_5)], .int .i64 (0)]) ?_ rfl ?_
        · simp [results, Try.results46, go_sem, hc1, hy1, hz1]
        · refine ⟨_, _, _, rfl, ?_, ?_, ?_, ?_⟩
          · exact R_store6 HO0.out (fun k hk => hk) (by simp) (by simp; omega)
          · exact R_store6 HO2.out (fun k hk => hk) (by simp) (by simp; omega)
          · exact R_store6 HO4.out (fun k hk => hk) (by simp) (by simp; omega)
          · exact below_store6 HB1.out (by omega)
      · by_cases e2 : a1 = 2
        · subst e2
          have h' : impl_DiskReset.f l0_0 a0_1 l0_2 a0_3 l0_4 a0_5 2 = some (l0_0, a0_1, l0_2, a0_3, [], 0, 0) := by unfold impl_DiskReset.f; rw [if_pos hv, if_neg (by omega), if_neg (by omega), if_pos rfl]
          rw [h'] at h
          simp only [Option.some.injEq, Prod.mk.injEq] at h
          obtain ⟨rfl, rfl, rfl, rfl, rfl, rfl, rfl⟩ := h
          clear h'
          go_enter Try.func46, Try.ntmps46
          go_wp2_with fail
          refine (onFile_reset_2 A0_0 c0_0 l0_0 a0_1 A0_2 c0_2 l0_2 a0_3 A0_4 c0_4 l0_4 a0_5 _ (Kd.C_alloc (Kd.C_alloc HR0.out _) _) hc0_0 (Kd.C_alloc (Kd.C_alloc HR2.out _) _) hc0_2 (Kd.C_alloc (Kd.C_alloc HR4.out _) _) hc0_4 hv).mono ?_
          rintro e w1 ⟨v0, v2, v4, rfl, ho0, ho2, ho4, hb⟩
          obtain ⟨B0, d0, rfl, hd0, _⟩ := Kd.R_reads ho0
          obtain ⟨B2, d2, rfl, hd2, _⟩ := Kd.R_reads ho2
          obtain ⟨B4, d4, rfl, hd4, _⟩ := Kd.R_reads ho4
          have hB1 : Below w.heap.size w w1 := below_then (by with_reducible repeat (first | exact Below.refl _ _ | apply below_alloc)) (by simp; omega) hb
          have hz1 : w.heap.size + 1 < w1.heap.size := by have := hb.size; simp at this; omega
          have hy1 : w.heap.size < w1.heap.size := by omega
          have hzb := hb.size
          obtain ⟨hc1, hf1⟩ := bcell hb
          have HB1 := Aside0.mk hB1
          have HO0 := Aside0.mk ho0
          have HO2 := Aside0.mk ho2
          have HO4 := Aside0.mk ho4
          clear hB1 hb ho0 ho2 ho4
          go_wp2_with fail
          refine bodyPost_ret (v := .tuple #[.agg #[.slice B0 (l0_0).length d0, .int .i64 (a0_1), .slice B2 (l0_2).length d2, .int .i64 (a0_3), .slice B4 (([] : List Int)).length d4, .int .i64 (0)], .int .i64 (0)]) ?_ rfl ?_
          · simp [results, Try.results46, go_sem, hc1, hy1, hz1]
          · refine ⟨_, _, _, rfl, ?_, ?_, ?_, ?_⟩
            · exact R_store6 HO0.out (fun k hk => hk) (by simp) (by simp; omega)
            · exact R_store6 HO2.out (fun k hk => hk) (by simp) (by simp; omega)
            · exact R_store6 HO4.out (fun k hk => hk) (by simp) (by simp; omega)
            · exact below_store6 HB1.out (by omega)
        · by_cases hn : a1 < 0
          · have h' : impl_DiskReset.f l0_0 a0_1 l0_2 a0_3 l0_4 a0_5 a1 = some ([], 0, [], 0, [], 0, 1) := by unfold impl_DiskReset.f; rw [if_pos hv, if_neg (by omega), if_neg (by omega), if_neg (by omega)]
            rw [h'] at h
            simp only [Option.some.injEq, Prod.mk.injEq] at h
            obtain ⟨rfl, rfl, rfl, rfl, rfl, rfl, rfl⟩ := h
            clear h'
            go_enter Try.func46, Try.ntmps46
            go_wp2_with fail
            refine (onFile_bad_neg A0_0 c0_0 l0_0 a0_1 A0_2 c0_2 l0_2 a0_3 A0_4 c0_4 l0_4 a0_5 a1 _ _ hv hn).mono ?_
            rintro e w1 ⟨v0, v2, v4, rfl, ho0, ho2, ho4, hb⟩
            obtain ⟨B0, d0, rfl, hd0, _⟩ := Kd.R_reads ho0
            obtain ⟨B2, d2, rfl, hd2, _⟩ := Kd.R_reads ho2
            obtain ⟨B4, d4, rfl, hd4, _⟩ := Kd.R_reads ho4
            have hB1 : Below w.heap.size w w1 := below_then (by with_reducible repeat (first | exact Below.refl _ _ | apply below_alloc)) (by simp; omega) hb
            have hz1 : w.heap.size + 1 < w1.heap.size := by have := hb.size; simp at this; omega
            have hy1 : w.heap.size < w1.heap.size := by omega
            have hzb := hb.size
            obtain ⟨hc1, hf1⟩ := bcell hb
            have HB1 := Aside0.mk hB1
            have HO0 := Aside0.mk ho0
            have HO2 := Aside0.mk ho2
            have HO4 := Aside0.mk ho4
            clear hB1 hb ho0 ho2 ho4
            go_wp2_with fail
            refine bodyPost_ret (v := .tuple #[.agg #[.slice B0 (([] : List Int)).length d0, .int .i64 (0), .slice B2 (([] : List Int)).length d2, .int .i64 (0), .slice B4 (([] : List Int)).length d4, .int .i64 (0)], .int .i64 (1)]) ?_ rfl ?_
            · simp [results, Try.results46, go_sem, hc1, hy1, hz1]
            · refine ⟨_, _, _, rfl, ?_, ?_, ?_, ?_⟩
              · exact R_store6 HO0.out (fun k hk => hk) (by simp) (by simp; omega)
              · exact R_store6 HO2.out (fun k hk => hk) (by simp) (by simp; omega)
              · exact R_store6 HO4.out (fun k hk => hk) (by simp) (by simp; omega)
              · exact below_store6 HB1.out (by omega)
          · have h' : impl_DiskReset.f l0_0 a0_1 l0_2 a0_3 l0_4 a0_5 a1 = some ([], 0, [], 0, [], 0, 1) := by unfold impl_DiskReset.f; rw [if_pos hv, if_neg (by omega), if_neg (by omega), if_neg (by omega)]
            rw [h'] at h
            simp only [Option.some.injEq, Prod.mk.injEq] at h
            obtain ⟨rfl, rfl, rfl, rfl, rfl, rfl, rfl⟩ := h
            clear h'
            go_enter Try.func46, Try.ntmps46
            go_wp2_with fail
            refine (onFile_bad_big A0_0 c0_0 l0_0 a0_1 A0_2 c0_2 l0_2 a0_3 A0_4 c0_4 l0_4 a0_5 a1 _ _ hv (by omega)).mono ?_
            rintro e w1 ⟨v0, v2, v4, rfl, ho0, ho2, ho4, hb⟩
            obtain ⟨B0, d0, rfl, hd0, _⟩ := Kd.R_reads ho0
            obtain ⟨B2, d2, rfl, hd2, _⟩ := Kd.R_reads ho2
            obtain ⟨B4, d4, rfl, hd4, _⟩ := Kd.R_reads ho4
            have hB1 : Below w.heap.size w w1 := below_then (by with_reducible repeat (first | exact Below.refl _ _ | apply below_alloc)) (by simp; omega) hb
            have hz1 : w.heap.size + 1 < w1.heap.size := by have := hb.size; simp at this; omega
            have hy1 : w.heap.size < w1.heap.size := by omega
            have hzb := hb.size
            obtain ⟨hc1, hf1⟩ := bcell hb
            have HB1 := Aside0.mk hB1
            have HO0 := Aside0.mk ho0
            have HO2 := Aside0.mk ho2
            have HO4 := Aside0.mk ho4
            clear hB1 hb ho0 ho2 ho4
            go_wp2_with fail
            refine bodyPost_ret (v := .tuple #[.agg #[.slice B0 (([] : List Int)).length d0, .int .i64 (0), .slice B2 (([] : List Int)).length d2, .int .i64 (0), .slice B4 (([] : List Int)).length d4, .int .i64 (0)], .int .i64 (1)]) ?_ rfl ?_
            · simp [results, Try.results46, go_sem, hc1, hy1, hz1]
            · refine ⟨_, _, _, rfl, ?_, ?_, ?_, ?_⟩
              · exact R_store6 HO0.out (fun k hk => hk) (by simp) (by simp; omega)
              · exact R_store6 HO2.out (fun k hk => hk) (by simp) (by simp; omega)
              · exact R_store6 HO4.out (fun k hk => hk) (by simp) (by simp; omega)
              · exact below_store6 HB1.out (by omega)

def impl_DiskSync.f (l0_0 : List Int) (a0_1 : Int) (l0_2 : List Int) (a0_3 : Int) (l0_4 : List Int) (a0_5 : Int) (a1 : Int) : Option (List Int × Int × List Int × Int × List Int × Int × Int) :=
  if okDisk l0_0 a0_1 l0_2 a0_3 l0_4 a0_5 = true then (if a1 = 0 then some (l0_0, (l0_0.length : Int), l0_2, a0_3, l0_4, a0_5, 0) else if a1 = 1 then some (l0_0, a0_1, l0_2, (l0_2.length : Int), l0_4, a0_5, 0) else if a1 = 2 then some (l0_0, a0_1, l0_2, a0_3, l0_4, (l0_4.length : Int), 0) else some ([], 0, [], 0, [], 0, 1)) else some ([], 0, [], 0, [], 0, 1)

set_option maxHeartbeats 1600000 in
set_option maxRecDepth 100000 in
theorem impl_DiskSync.calls (A0_0 : Option Addr) (c0_0 : Nat) (l0_0 : List Int) (a0_1 : Int) (A0_2 : Option Addr) (c0_2 : Nat) (l0_2 : List Int) (a0_3 : Int) (A0_4 : Option Addr) (c0_4 : Nat) (l0_4 : List Int) (a0_5 : Int) (a1 : Int) (r1 : List Int) (r2 : Int) (r3 : List Int) (r4 : Int) (r5 : List Int) (r6 : Int) (r7 : Int) (w : World) (hr0_0 : Kd.C (Kd.int .u8) w A0_0 l0_0.length l0_0) (hc0_0 : l0_0.length ≤ c0_0) (hr0_2 : Kd.C (Kd.int .u8) w A0_2 l0_2.length l0_2) (hc0_2 : l0_2.length ≤ c0_2) (hr0_4 : Kd.C (Kd.int .u8) w A0_4 l0_4.length l0_4) (hc0_4 : l0_4.length ≤ c0_4) (h : impl_DiskSync.f l0_0 a0_1 l0_2 a0_3 l0_4 a0_5 a1 = some (r1, r2, r3, r4, r5, r6, r7)) :
    Calls Try.prog 48 #[.agg #[.slice A0_0 l0_0.length c0_0, .int .i64 a0_1, .slice A0_2 l0_2.length c0_2, .int .i64 a0_3, .slice A0_4 l0_4.length c0_4, .int .i64 a0_5], .int .i64 a1] w fun e w' => ∃ v0_ v2_ v4_ : Value, e = .returned (.tuple #[.agg #[v0_, .int .i64 r2, v2_, .int .i64 r4, v4_, .int .i64 r6], .int .i64 r7]) ∧ Kd.R (Kd.int .u8) 5 w' w.heap.size (fun k_ => some k_ ≠ (v2_ : Value).ownBlock ∧ some k_ ≠ (v4_ : Value).ownBlock) v0_ r1 ∧ Kd.R (Kd.int .u8) 5 w' w.heap.size (fun k_ => some k_ ≠ (v0_ : Value).ownBlock ∧ some k_ ≠ (v4_ : Value).ownBlock) v2_ r3 ∧ Kd.R (Kd.int .u8) 5 w' w.heap.size (fun k_ => some k_ ≠ (v0_ : Value).ownBlock ∧ some k_ ≠ (v2_ : Value).ownBlock) v4_ r5 ∧ Below w.heap.size w w' := by
  have HR0 := Aside0.mk hr0_0
  have HR2 := Aside0.mk hr0_2
  have HR4 := Aside0.mk hr0_4
  clear hr0_0 hr0_2 hr0_4
  rcases hv : okDisk l0_0 a0_1 l0_2 a0_3 l0_4 a0_5 with _ | _
  · have h' : impl_DiskSync.f l0_0 a0_1 l0_2 a0_3 l0_4 a0_5 a1 = some ([], 0, [], 0, [], 0, 1) := by unfold impl_DiskSync.f; rw [hv, if_neg (by decide)]
    rw [h'] at h
    simp only [Option.some.injEq, Prod.mk.injEq] at h
    obtain ⟨rfl, rfl, rfl, rfl, rfl, rfl, rfl⟩ := h
    clear h'
    go_enter Try.func48, Try.ntmps48
    go_wp2_with fail
    refine (onFile_bad_disk A0_0 c0_0 l0_0 a0_1 A0_2 c0_2 l0_2 a0_3 A0_4 c0_4 l0_4 a0_5 a1 _ _ hv).mono ?_
    rintro e w1 ⟨v0, v2, v4, rfl, ho0, ho2, ho4, hb⟩
    obtain ⟨B0, d0, rfl, hd0, _⟩ := Kd.R_reads ho0
    obtain ⟨B2, d2, rfl, hd2, _⟩ := Kd.R_reads ho2
    obtain ⟨B4, d4, rfl, hd4, _⟩ := Kd.R_reads ho4
    have hB1 : Below w.heap.size w w1 := below_then (by with_reducible repeat (first | exact Below.refl _ _ | apply below_alloc)) (by simp; omega) hb
    have hz1 : w.heap.size + 1 < w1.heap.size := by have := hb.size; simp at this; omega
    have hy1 : w.heap.size < w1.heap.size := by omega
    have hzb := hb.size
    obtain ⟨hc1, hf1⟩ := bcell hb
    have HB1 := Aside0.mk hB1
    have HO0 := Aside0.mk ho0
    have HO2 := Aside0.mk ho2
    have HO4 := Aside0.mk ho4
    clear hB1 hb ho0 ho2 ho4
    go_wp2_with fail
    refine bodyPost_ret (v := .tuple #[.agg #[.slice B0 (([] : List Int)).length d0, .int .i64 (0), .slice B2 (([] : List Int)).length d2, .int .i64 (0), .slice B4 (([] : List Int)).length d4, .int .i64 (0)], .int .i64 (1)]) ?_ rfl ?_
    · simp [results, Try.results48, go_sem, hc1, hy1, hz1]
    · refine ⟨_, _, _, rfl, ?_, ?_, ?_, ?_⟩
      · exact R_store6 HO0.out (fun k hk => hk) (by simp) (by simp; omega)
      · exact R_store6 HO2.out (fun k hk => hk) (by simp) (by simp; omega)
      · exact R_store6 HO4.out (fun k hk => hk) (by simp) (by simp; omega)
      · exact below_store6 HB1.out (by omega)
  · by_cases e0 : a1 = 0
    · subst e0
      have h' : impl_DiskSync.f l0_0 a0_1 l0_2 a0_3 l0_4 a0_5 0 = some (l0_0, (l0_0.length : Int), l0_2, a0_3, l0_4, a0_5, 0) := by unfold impl_DiskSync.f; rw [if_pos hv, if_pos rfl]
      rw [h'] at h
      simp only [Option.some.injEq, Prod.mk.injEq] at h
      obtain ⟨rfl, rfl, rfl, rfl, rfl, rfl, rfl⟩ := h
      clear h'
      go_enter Try.func48, Try.ntmps48
      go_wp2_with fail
      refine (onFile_sync_0 A0_0 c0_0 l0_0 a0_1 A0_2 c0_2 l0_2 a0_3 A0_4 c0_4 l0_4 a0_5 _ (Kd.C_alloc (Kd.C_alloc HR0.out _) _) hc0_0 (Kd.C_alloc (Kd.C_alloc HR2.out _) _) hc0_2 (Kd.C_alloc (Kd.C_alloc HR4.out _) _) hc0_4 hv).mono ?_
      rintro e w1 ⟨v0, v2, v4, rfl, ho0, ho2, ho4, hb⟩
      obtain ⟨B0, d0, rfl, hd0, _⟩ := Kd.R_reads ho0
      obtain ⟨B2, d2, rfl, hd2, _⟩ := Kd.R_reads ho2
      obtain ⟨B4, d4, rfl, hd4, _⟩ := Kd.R_reads ho4
      have hB1 : Below w.heap.size w w1 := below_then (by with_reducible repeat (first | exact Below.refl _ _ | apply below_alloc)) (by simp; omega) hb
      have hz1 : w.heap.size + 1 < w1.heap.size := by have := hb.size; simp at this; omega
      have hy1 : w.heap.size < w1.heap.size := by omega
      have hzb := hb.size
      obtain ⟨hc1, hf1⟩ := bcell hb
      have HB1 := Aside0.mk hB1
      have HO0 := Aside0.mk ho0
      have HO2 := Aside0.mk ho2
      have HO4 := Aside0.mk ho4
      clear hB1 hb ho0 ho2 ho4
      go_wp2_with fail
      refine bodyPost_ret (v := .tuple #[.agg #[.slice B0 (l0_0).length d0, .int .i64 ((l0_0.length : Int)), .slice B2 (l0_2).length d2, .int .i64 (a0_3), .slice B4 (l0_4).length d4, .int .i64 (a0_5)], .int .i64 (0)]) ?_ rfl ?_
      · simp [results, Try.results48, go_sem, hc1, hy1, hz1]
      · refine ⟨_, _, _, rfl, ?_, ?_, ?_, ?_⟩
        · exact R_store6 HO0.out (fun k hk => hk) (by simp) (by simp; omega)
        · exact R_store6 HO2.out (fun k hk => hk) (by simp) (by simp; omega)
        · exact R_store6 HO4.out (fun k hk => hk) (by simp) (by simp; omega)
        · exact below_store6 HB1.out (by omega)
    · by_cases e1 : a1 = 1
      · subst e1
        have h' : impl_DiskSync.f l0_0 a0_1 l0_2 a0_3 l0_4 a0_5 1 = some (l0_0, a0_1, l0_2, (l0_2.length : Int), l0_4, a0_5, 0) := by unfold impl_DiskSync.f; rw [if_pos hv, if_neg (by omega), if_pos rfl]
        rw [h'] at h
        simp only [Option.some.injEq, Prod.mk.injEq] at h
        obtain ⟨rfl, rfl, rfl, rfl, rfl, rfl, rfl⟩ := h
        clear h'
        go_enter Try.func48, Try.ntmps48
        go_wp2_with fail
        refine (onFile_sync_1 A0_0 c0_0 l0_0 a0_1 A0_2 c0_2 l0_2 a0_3 A0_4 c0_4 l0_4 a0_5 _ (Kd.C_alloc (Kd.C_alloc HR0.out _) _) hc0_0 (Kd.C_alloc (Kd.C_alloc HR2.out _) _) hc0_2 (Kd.C_alloc (Kd.C_alloc HR4.out _) _) hc0_4 hv).mono ?_
        rintro e w1 ⟨v0, v2, v4, rfl, ho0, ho2, ho4, hb⟩
        obtain ⟨B0, d0, rfl, hd0, _⟩ := Kd.R_reads ho0
        obtain ⟨B2, d2, rfl, hd2, _⟩ := Kd.R_reads ho2
        obtain ⟨B4, d4, rfl, hd4, _⟩ := Kd.R_reads ho4
        have hB1 : Below w.heap.size w w1 := below_then (by with_reducible repeat (first | exact Below.refl _ _ | apply below_alloc)) (by simp; omega) hb
        have hz1 : w.heap.size + 1 < w1.heap.size := by have := hb.size; simp at this; omega
        have hy1 : w.heap.size < w1.heap.size := by omega
        have hzb := hb.size
        obtain ⟨hc1, hf1⟩ := bcell hb
        have HB1 := Aside0.mk hB1
        have HO0 := Aside0.mk ho0
        have HO2 := Aside0.mk ho2
        have HO4 := Aside0.mk ho4
        clear hB1 hb ho0 ho2 ho4
        go_wp2_with fail
        refine bodyPost_ret (v := .tuple #[.agg #[.slice B0 (l0_0).length d0, .int .i64 (a0_1), .slice B2 (l0_2).length d2, .int .i64 ((l0_2.length : Int)), .slice B4 (l0_4).length d4, .int .i64 (a0_5)], .int .i64 (0)]) ?_ rfl ?_
        · simp [results, Try.results48, go_sem, hc1, hy1, hz1]
        · refine ⟨_, _, _, rfl, ?_, ?_, ?_, ?_⟩
          · exact R_store6 HO0.out (fun k hk => hk) (by simp) (by simp; omega)
          · exact R_store6 HO2.out (fun k hk => hk) (by simp) (by simp; omega)
          · exact R_store6 HO4.out (fun k hk => hk) (by simp) (by simp; omega)
          · exact below_store6 HB1.out (by omega)
      · by_cases e2 : a1 = 2
        · subst e2
          have h' : impl_DiskSync.f l0_0 a0_1 l0_2 a0_3 l0_4 a0_5 2 = some (l0_0, a0_1, l0_2, a0_3, l0_4, (l0_4.length : Int), 0) := by unfold impl_DiskSync.f; rw [if_pos hv, if_neg (by omega), if_neg (by omega), if_pos rfl]
          rw [h'] at h
          simp only [Option.some.injEq, Prod.mk.injEq] at h
          obtain ⟨rfl, rfl, rfl, rfl, rfl, rfl, rfl⟩ := h
          clear h'
          go_enter Try.func48, Try.ntmps48
          go_wp2_with fail
          refine (onFile_sync_2 A0_0 c0_0 l0_0 a0_1 A0_2 c0_2 l0_2 a0_3 A0_4 c0_4 l0_4 a0_5 _ (Kd.C_alloc (Kd.C_alloc HR0.out _) _) hc0_0 (Kd.C_alloc (Kd.C_alloc HR2.out _) _) hc0_2 (Kd.C_alloc (Kd.C_alloc HR4.out _) _) hc0_4 hv).mono ?_
          rintro e w1 ⟨v0, v2, v4, rfl, ho0, ho2, ho4, hb⟩
          obtain ⟨B0, d0, rfl, hd0, _⟩ := Kd.R_reads ho0
          obtain ⟨B2, d2, rfl, hd2, _⟩ := Kd.R_reads ho2
          obtain ⟨B4, d4, rfl, hd4, _⟩ := Kd.R_reads ho4
          have hB1 : Below w.heap.size w w1 := below_then (by with_reducible repeat (first | exact Below.refl _ _ | apply below_alloc)) (by simp; omega) hb
          have hz1 : w.heap.size + 1 < w1.heap.size := by have := hb.size; simp at this; omega
          have hy1 : w.heap.size < w1.heap.size := by omega
          have hzb := hb.size
          obtain ⟨hc1, hf1⟩ := bcell hb
          have HB1 := Aside0.mk hB1
          have HO0 := Aside0.mk ho0
          have HO2 := Aside0.mk ho2
          have HO4 := Aside0.mk ho4
          clear hB1 hb ho0 ho2 ho4
          go_wp2_with fail
          refine bodyPost_ret (v := .tuple #[.agg #[.slice B0 (l0_0).length d0, .int .i64 (a0_1), .slice B2 (l0_2).length d2, .int .i64 (a0_3), .slice B4 (l0_4).length d4, .int .i64 ((l0_4.length : Int))], .int .i64 (0)]) ?_ rfl ?_
          · simp [results, Try.results48, go_sem, hc1, hy1, hz1]
          · refine ⟨_, _, _, rfl, ?_, ?_, ?_, ?_⟩
            · exact R_store6 HO0.out (fun k hk => hk) (by simp) (by simp; omega)
            · exact R_store6 HO2.out (fun k hk => hk) (by simp) (by simp; omega)
            · exact R_store6 HO4.out (fun k hk => hk) (by simp) (by simp; omega)
            · exact below_store6 HB1.out (by omega)
        · by_cases hn : a1 < 0
          · have h' : impl_DiskSync.f l0_0 a0_1 l0_2 a0_3 l0_4 a0_5 a1 = some ([], 0, [], 0, [], 0, 1) := by unfold impl_DiskSync.f; rw [if_pos hv, if_neg (by omega), if_neg (by omega), if_neg (by omega)]
            rw [h'] at h
            simp only [Option.some.injEq, Prod.mk.injEq] at h
            obtain ⟨rfl, rfl, rfl, rfl, rfl, rfl, rfl⟩ := h
            clear h'
            go_enter Try.func48, Try.ntmps48
            go_wp2_with fail
            refine (onFile_bad_neg A0_0 c0_0 l0_0 a0_1 A0_2 c0_2 l0_2 a0_3 A0_4 c0_4 l0_4 a0_5 a1 _ _ hv hn).mono ?_
            rintro e w1 ⟨v0, v2, v4, rfl, ho0, ho2, ho4, hb⟩
            obtain ⟨B0, d0, rfl, hd0, _⟩ := Kd.R_reads ho0
            obtain ⟨B2, d2, rfl, hd2, _⟩ := Kd.R_reads ho2
            obtain ⟨B4, d4, rfl, hd4, _⟩ := Kd.R_reads ho4
            have hB1 : Below w.heap.size w w1 := below_then (by with_reducible repeat (first | exact Below.refl _ _ | apply below_alloc)) (by simp; omega) hb
            have hz1 : w.heap.size + 1 < w1.heap.size := by have := hb.size; simp at this; omega
            have hy1 : w.heap.size < w1.heap.size := by omega
            have hzb := hb.size
            obtain ⟨hc1, hf1⟩ := bcell hb
            have HB1 := Aside0.mk hB1
            have HO0 := Aside0.mk ho0
            have HO2 := Aside0.mk ho2
            have HO4 := Aside0.mk ho4
            clear hB1 hb ho0 ho2 ho4
            go_wp2_with fail
            refine bodyPost_ret (v := .tuple #[.agg #[.slice B0 (([] : List Int)).length d0, .int .i64 (0), .slice B2 (([] : List Int)).length d2, .int .i64 (0), .slice B4 (([] : List Int)).length d4, .int .i64 (0)], .int .i64 (1)]) ?_ rfl ?_
            · simp [results, Try.results48, go_sem, hc1, hy1, hz1]
            · refine ⟨_, _, _, rfl, ?_, ?_, ?_, ?_⟩
              · exact R_store6 HO0.out (fun k hk => hk) (by simp) (by simp; omega)
              · exact R_store6 HO2.out (fun k hk => hk) (by simp) (by simp; omega)
              · exact R_store6 HO4.out (fun k hk => hk) (by simp) (by simp; omega)
              · exact below_store6 HB1.out (by omega)
          · have h' : impl_DiskSync.f l0_0 a0_1 l0_2 a0_3 l0_4 a0_5 a1 = some ([], 0, [], 0, [], 0, 1) := by unfold impl_DiskSync.f; rw [if_pos hv, if_neg (by omega), if_neg (by omega), if_neg (by omega)]
            rw [h'] at h
            simp only [Option.some.injEq, Prod.mk.injEq] at h
            obtain ⟨rfl, rfl, rfl, rfl, rfl, rfl, rfl⟩ := h
            clear h'
            go_enter Try.func48, Try.ntmps48
            go_wp2_with fail
            refine (onFile_bad_big A0_0 c0_0 l0_0 a0_1 A0_2 c0_2 l0_2 a0_3 A0_4 c0_4 l0_4 a0_5 a1 _ _ hv (by omega)).mono ?_
            rintro e w1 ⟨v0, v2, v4, rfl, ho0, ho2, ho4, hb⟩
            obtain ⟨B0, d0, rfl, hd0, _⟩ := Kd.R_reads ho0
            obtain ⟨B2, d2, rfl, hd2, _⟩ := Kd.R_reads ho2
            obtain ⟨B4, d4, rfl, hd4, _⟩ := Kd.R_reads ho4
            have hB1 : Below w.heap.size w w1 := below_then (by with_reducible repeat (first | exact Below.refl _ _ | apply below_alloc)) (by simp; omega) hb
            have hz1 : w.heap.size + 1 < w1.heap.size := by have := hb.size; simp at this; omega
            have hy1 : w.heap.size < w1.heap.size := by omega
            have hzb := hb.size
            obtain ⟨hc1, hf1⟩ := bcell hb
            have HB1 := Aside0.mk hB1
            have HO0 := Aside0.mk ho0
            have HO2 := Aside0.mk ho2
            have HO4 := Aside0.mk ho4
            clear hB1 hb ho0 ho2 ho4
            go_wp2_with fail
            refine bodyPost_ret (v := .tuple #[.agg #[.slice B0 (([] : List Int)).length d0, .int .i64 (0), .slice B2 (([] : List Int)).length d2, .int .i64 (0), .slice B4 (([] : List Int)).length d4, .int .i64 (0)], .int .i64 (1)]) ?_ rfl ?_
            · simp [results, Try.results48, go_sem, hc1, hy1, hz1]
            · refine ⟨_, _, _, rfl, ?_, ?_, ?_, ?_⟩
              · exact R_store6 HO0.out (fun k hk => hk) (by simp) (by simp; omega)
              · exact R_store6 HO2.out (fun k hk => hk) (by simp) (by simp; omega)
              · exact R_store6 HO4.out (fun k hk => hk) (by simp) (by simp; omega)
              · exact below_store6 HB1.out (by omega)

def impl_DiskAppend.f0 (l0_0 : List Int) (a0_1 : Int) (l0_2 : List Int) (a0_3 : Int) (l0_4 : List Int) (a0_5 : Int) (a1 : Int) (l2 : List Int) : Option (List Int × Int × List Int × Int × List Int × Int × Int) :=
  if okDisk l0_0 a0_1 l0_2 a0_3 l0_4 a0_5 = true then (if a1 = 0 then (if l0_0.length + l2.length ≤ 200000 then some (l0_0 ++ l2, a0_1, l0_2, a0_3, l0_4, a0_5, 0) else some (l0_0, a0_1, l0_2, a0_3, l0_4, a0_5, 11)) else if a1 = 1 then (if l0_2.length + l2.length ≤ 200000 then some (l0_0, a0_1, l0_2 ++ l2, a0_3, l0_4, a0_5, 0) else some (l0_0, a0_1, l0_2, a0_3, l0_4, a0_5, 11)) else if a1 = 2 then (if l0_4.length + l2.length ≤ 200000 then some (l0_0, a0_1, l0_2, a0_3, l0_4 ++ l2, a0_5, 0) else some (l0_0, a0_1, l0_2, a0_3, l0_4, a0_5, 11)) else some ([], 0, [], 0, [], 0, 1)) else some ([], 0, [], 0, [], 0, 1)

theorem reads_len {α : Type} {R : α → List Value → Prop} {size : Nat} {w : World} {A : Option Addr} {n : Nat} {l : List α} (h : ReadsRow R size w A n l) : l.length ≤ 9223372036854775807 := h.1 ▸ h.2.1
set_option maxHeartbeats 1600000 in
set_option maxRecDepth 100000 in
theorem impl_DiskAppend.calls0 (A0_0 : Option Addr) (c0_0 : Nat) (l0_0 : List Int) (a0_1 : Int) (A0_2 : Option Addr) (c0_2 : Nat) (l0_2 : List Int) (a0_3 : Int) (A0_4 : Option Addr) (c0_4 : Nat) (l0_4 : List Int) (a0_5 : Int) (a1 : Int) (A2 : Option Addr) (c2 : Nat) (l2 : List Int) (r1 : List Int) (r2 : Int) (r3 : List Int) (r4 : Int) (r5 : List Int) (r6 : Int) (r7 : Int) (w : World) (hr0_0 : Kd.C (Kd.int .u8) w A0_0 l0_0.length l0_0) (hc0_0 : l0_0.length ≤ c0_0) (hr0_2 : Kd.C (Kd.int .u8) w A0_2 l0_2.length l0_2) (hc0_2 : l0_2.length ≤ c0_2) (hr0_4 : Kd.C (Kd.int .u8) w A0_4 l0_4.length l0_4) (hc0_4 : l0_4.length ≤ c0_4) (hr2 : Kd.C (Kd.int .u8) w A2 l2.length l2) (hc2 : l2.length ≤ c2) (hl2 : l2.length ≤ 140737488355328) (h : impl_DiskAppend.f0 l0_0 a0_1 l0_2 a0_3 l0_4 a0_5 a1 l2 = some (r1, r2, r3, r4, r5, r6, r7)) :
    Calls Try.prog 50 #[.agg #[.slice A0_0 l0_0.length c0_0, .int .i64 a0_1, .slice A0_2 l0_2.length c0_2, .int .i64 a0_3, .slice A0_4 l0_4.length c0_4, .int .i64 a0_5], .int .i64 a1, .slice A2 l2.length c2] w fun e w' => ∃ v0_ v2_ v4_ : Value, e = .returned (.tuple #[.agg #[v0_, .int .i64 r2, v2_, .int .i64 r4, v4_, .int .i64 r6], .int .i64 r7]) ∧ Kd.R (Kd.int .u8) 5 w' w.heap.size (fun k_ => some k_ ≠ (v2_ : Value).ownBlock ∧ some k_ ≠ (v4_ : Value).ownBlock) v0_ r1 ∧ Kd.R (Kd.int .u8) 5 w' w.heap.size (fun k_ => some k_ ≠ (v0_ : Value).ownBlock ∧ some k_ ≠ (v4_ : Value).ownBlock) v2_ r3 ∧ Kd.R (Kd.int .u8) 5 w' w.heap.size (fun k_ => some k_ ≠ (v0_ : Value).ownBlock ∧ some k_ ≠ (v2_ : Value).ownBlock) v4_ r5 ∧ Below w.heap.size w w' := by
  have HR0 := Aside0.mk hr0_0
  have HR2 := Aside0.mk hr0_2
  have HR4 := Aside0.mk hr0_4
  clear hr0_0 hr0_2 hr0_4
  have HRB := Aside0.mk hr2
  clear hr2
  rcases hv : okDisk l0_0 a0_1 l0_2 a0_3 l0_4 a0_5 with _ | _
  · have h' : impl_DiskAppend.f0 l0_0 a0_1 l0_2 a0_3 l0_4 a0_5 a1 l2 = some ([], 0, [], 0, [], 0, 1) := by unfold impl_DiskAppend.f0; rw [hv, if_neg (by decide)]
    rw [h'] at h
    simp only [Option.some.injEq, Prod.mk.injEq] at h
    obtain ⟨rfl, rfl, rfl, rfl, rfl, rfl, rfl⟩ := h
    clear h'
    go_enter Try.func50, Try.ntmps50
    go_wp2_with fail
    refine (onFile_bad_disk A0_0 c0_0 l0_0 a0_1 A0_2 c0_2 l0_2 a0_3 A0_4 c0_4 l0_4 a0_5 a1 _ _ hv).mono ?_
    rintro e w1 ⟨v0, v2, v4, rfl, ho0, ho2, ho4, hb⟩
    obtain ⟨B0, d0, rfl, hd0, _⟩ := Kd.R_reads ho0
    obtain ⟨B2, d2, rfl, hd2, _⟩ := Kd.R_reads ho2
    obtain ⟨B4, d4, rfl, hd4, _⟩ := Kd.R_reads ho4
    have hB1 : Below w.heap.size w w1 := below_then (by with_reducible repeat (first | exact Below.refl _ _ | apply below_alloc)) (by simp; omega) hb
    have hz1 : w.heap.size + 1 < w1.heap.size := by have := hb.size; simp at this; omega
    have hy1 : w.heap.size < w1.heap.size := by omega
    have hx1 : w.heap.size + 1 + 1 < w1.heap.size := by have := hb.size; simp at this; omega
    have hzb := hb.size
    obtain ⟨hc1, hf1⟩ := bcell hb
    have HB1 := Aside0.mk hB1
    have HO0 := Aside0.mk ho0
    have HO2 := Aside0.mk ho2
    have HO4 := Aside0.mk ho4
    clear hB1 hb ho0 ho2 ho4
    go_wp2_with fail
    refine bodyPost_ret (v := .tuple #[.agg #[.slice B0 (([] : List Int)).length d0, .int .i64 (0), .slice B2 (([] : List Int)).length d2, .int .i64 (0), .slice B4 (([] : List Int)).length d4, .int .i64 (0)], .int .i64 (1)]) ?_ rfl ?_
    · simp [results, Try.results50, go_sem, hc1, hy1, hz1, hx1]
    · refine ⟨_, _, _, rfl, ?_, ?_, ?_, ?_⟩
      · exact R_store6 HO0.out (fun k hk => hk) (by simp) (by simp; omega)
      · exact R_store6 HO2.out (fun k hk => hk) (by simp) (by simp; omega)
      · exact R_store6 HO4.out (fun k hk => hk) (by simp) (by simp; omega)
      · exact below_store6 HB1.out (by omega)
  · by_cases e0 : a1 = 0
    · subst e0
      by_cases hx : l0_0.length + l2.length ≤ 200000
      · have h' : impl_DiskAppend.f0 l0_0 a0_1 l0_2 a0_3 l0_4 a0_5 0 l2 = some (l0_0 ++ l2, a0_1, l0_2, a0_3, l0_4, a0_5, 0) := by unfold impl_DiskAppend.f0; rw [if_pos hv, if_pos rfl, if_pos hx]
        rw [h'] at h
        simp only [Option.some.injEq, Prod.mk.injEq] at h
        obtain ⟨rfl, rfl, rfl, rfl, rfl, rfl, rfl⟩ := h
        clear h'
        go_enter Try.func50, Try.ntmps50
        go_wp2_with fail
        refine (onFile_yes_0 A0_0 c0_0 l0_0 a0_1 A0_2 c0_2 l0_2 a0_3 A0_4 c0_4 l0_4 a0_5 (w.heap.size + 1) A2 c2 l2 _ (Kd.C_alloc (Kd.C_alloc (Kd.C_alloc HR0.out _) _) _) hc0_0 (Kd.C_alloc (Kd.C_alloc (Kd.C_alloc HR2.out _) _) _) hc0_2 (Kd.C_alloc (Kd.C_alloc (Kd.C_alloc HR4.out _) _) _) hc0_4 (by go_simp) (by simp) (Kd.C_alloc (Kd.C_alloc (Kd.C_alloc HRB.out _) _) _) hc2 hx hv).mono ?_
        rintro e w1 ⟨v0, v2, v4, rfl, ho0, ho2, ho4, hb⟩
        obtain ⟨B0, d0, rfl, hd0, _⟩ := Kd.R_reads ho0
        obtain ⟨B2, d2, rfl, hd2, _⟩ := Kd.R_reads ho2
        obtain ⟨B4, d4, rfl, hd4, _⟩ := Kd.R_reads ho4
        have hB1 : Below w.heap.size w w1 := below_then (by with_reducible repeat (first | exact Below.refl _ _ | apply below_alloc)) (by simp; omega) hb
        have hz1 : w.heap.size + 1 < w1.heap.size := by have := hb.size; simp at this; omega
        have hy1 : w.heap.size < w1.heap.size := by omega
        have hx1 : w.heap.size + 1 + 1 < w1.heap.size := by have := hb.size; simp at this; omega
        have hzb := hb.size
        obtain ⟨hc1, hf1⟩ := bcell hb
        have HB1 := Aside0.mk hB1
        have HO0 := Aside0.mk ho0
        have HO2 := Aside0.mk ho2
        have HO4 := Aside0.mk ho4
        clear hB1 hb ho0 ho2 ho4
        go_wp2_with fail
        refine bodyPost_ret (v := .tuple #[.agg #[.slice B0 (l0_0 ++ l2).length d0, .int .i64 (a0_1), .slice B2 (l0_2).length d2, .int .i64 (a0_3), .slice B4 (l0_4).length d4, .int .i64 (a0_5)], .int .i64 (0)]) ?_ rfl ?_
        · simp [results, Try.results50, go_sem, hc1, hy1, hz1, hx1]
        · refine ⟨_, _, _, rfl, ?_, ?_, ?_, ?_⟩
          · exact R_store6 HO0.out (fun k hk => hk) (by simp) (by simp; omega)
          · exact R_store6 HO2.out (fun k hk => hk) (by simp) (by simp; omega)
          · exact R_store6 HO4.out (fun k hk => hk) (by simp) (by simp; omega)
          · exact below_store6 HB1.out (by omega)
      · have h' : impl_DiskAppend.f0 l0_0 a0_1 l0_2 a0_3 l0_4 a0_5 0 l2 = some (l0_0, a0_1, l0_2, a0_3, l0_4, a0_5, 11) := by unfold impl_DiskAppend.f0; rw [if_pos hv, if_pos rfl, if_neg hx]
        rw [h'] at h
        simp only [Option.some.injEq, Prod.mk.injEq] at h
        obtain ⟨rfl, rfl, rfl, rfl, rfl, rfl, rfl⟩ := h
        clear h'
        go_enter Try.func50, Try.ntmps50
        go_wp2_with fail
        refine (onFile_no_0 A0_0 c0_0 l0_0 a0_1 A0_2 c0_2 l0_2 a0_3 A0_4 c0_4 l0_4 a0_5 (w.heap.size + 1) A2 c2 l2 _ (Kd.C_alloc (Kd.C_alloc (Kd.C_alloc HR0.out _) _) _) hc0_0 (Kd.C_alloc (Kd.C_alloc (Kd.C_alloc HR2.out _) _) _) hc0_2 (Kd.C_alloc (Kd.C_alloc (Kd.C_alloc HR4.out _) _) _) hc0_4 (by go_simp) (by simp) (Kd.C_alloc (Kd.C_alloc (Kd.C_alloc HRB.out _) _) _) hc2 (by omega) hl2 hv).mono ?_
        rintro e w1 ⟨v0, v2, v4, rfl, ho0, ho2, ho4, hb⟩
        obtain ⟨B0, d0, rfl, hd0, _⟩ := Kd.R_reads ho0
        obtain ⟨B2, d2, rfl, hd2, _⟩ := Kd.R_reads ho2
        obtain ⟨B4, d4, rfl, hd4, _⟩ := Kd.R_reads ho4
        have hB1 : Below w.heap.size w w1 := below_then (by with_reducible repeat (first | exact Below.refl _ _ | apply below_alloc)) (by simp; omega) hb
        have hz1 : w.heap.size + 1 < w1.heap.size := by have := hb.size; simp at this; omega
        have hy1 : w.heap.size < w1.heap.size := by omega
        have hx1 : w.heap.size + 1 + 1 < w1.heap.size := by have := hb.size; simp at this; omega
        have hzb := hb.size
        obtain ⟨hc1, hf1⟩ := bcell hb
        have HB1 := Aside0.mk hB1
        have HO0 := Aside0.mk ho0
        have HO2 := Aside0.mk ho2
        have HO4 := Aside0.mk ho4
        clear hB1 hb ho0 ho2 ho4
        go_wp2_with fail
        refine bodyPost_ret (v := .tuple #[.agg #[.slice B0 (l0_0).length d0, .int .i64 (a0_1), .slice B2 (l0_2).length d2, .int .i64 (a0_3), .slice B4 (l0_4).length d4, .int .i64 (a0_5)], .int .i64 (11)]) ?_ rfl ?_
        · simp [results, Try.results50, go_sem, hc1, hy1, hz1, hx1]
        · refine ⟨_, _, _, rfl, ?_, ?_, ?_, ?_⟩
          · exact R_store6 HO0.out (fun k hk => hk) (by simp) (by simp; omega)
          · exact R_store6 HO2.out (fun k hk => hk) (by simp) (by simp; omega)
          · exact R_store6 HO4.out (fun k hk => hk) (by simp) (by simp; omega)
          · exact below_store6 HB1.out (by omega)
    · by_cases e1 : a1 = 1
      · subst e1
        by_cases hx : l0_2.length + l2.length ≤ 200000
        · have h' : impl_DiskAppend.f0 l0_0 a0_1 l0_2 a0_3 l0_4 a0_5 1 l2 = some (l0_0, a0_1, l0_2 ++ l2, a0_3, l0_4, a0_5, 0) := by unfold impl_DiskAppend.f0; rw [if_pos hv, if_neg (by omega), if_pos rfl, if_pos hx]
          rw [h'] at h
          simp only [Option.some.injEq, Prod.mk.injEq] at h
          obtain ⟨rfl, rfl, rfl, rfl, rfl, rfl, rfl⟩ := h
          clear h'
          go_enter Try.func50, Try.ntmps50
          go_wp2_with fail
          refine (onFile_yes_1 A0_0 c0_0 l0_0 a0_1 A0_2 c0_2 l0_2 a0_3 A0_4 c0_4 l0_4 a0_5 (w.heap.size + 1) A2 c2 l2 _ (Kd.C_alloc (Kd.C_alloc (Kd.C_alloc HR0.out _) _) _) hc0_0 (Kd.C_alloc (Kd.C_alloc (Kd.C_alloc HR2.out _) _) _) hc0_2 (Kd.C_alloc (Kd.C_alloc (Kd.C_alloc HR4.out _) _) _) hc0_4 (by go_simp) (by simp) (Kd.C_alloc (Kd.C_alloc (Kd.C_alloc HRB.out _) _) _) hc2 hx hv).mono ?_
          rintro e w1 ⟨v0, v2, v4, rfl, ho0, ho2, ho4, hb⟩
          obtain ⟨B0, d0, rfl, hd0, _⟩ := Kd.R_reads ho0
          obtain ⟨B2, d2, rfl, hd2, _⟩ := Kd.R_reads ho2
          obtain ⟨B4, d4, rfl, hd4, _⟩ := Kd.R_reads ho4
          have hB1 : Below w.heap.size w w1 := below_then (by with_reducible repeat (first | exact Below.refl _ _ | apply below_alloc)) (by simp; omega) hb
          have hz1 : w.heap.size + 1 < w1.heap.size := by have := hb.size; simp at this; omega
          have hy1 : w.heap.size < w1.heap.size := by omega
          have hx1 : w.heap.size + 1 + 1 < w1.heap.size := by have := hb.size; simp at this; omega
          have hzb := hb.size
          obtain ⟨hc1, hf1⟩ := bcell hb
          have HB1 := Aside0.mk hB1
          have HO0 := Aside0.mk ho0
          have HO2 := Aside0.mk ho2
          have HO4 := Aside0.mk ho4
          clear hB1 hb ho0 ho2 ho4
          go_wp2_with fail
          refine bodyPost_ret (v := .tuple #[.agg #[.slice B0 (l0_0).length d0, .int .i64 (a0_1), .slice B2 (l0_2 ++ l2).length d2, .int .i64 (a0_3), .slice B4 (l0_4).length d4, .int .i64 (a0_5)], .int .i64 (0)]) ?_ rfl ?_
          · simp [results, Try.results50, go_sem, hc1, hy1, hz1, hx1]
          · refine ⟨_, _, _, rfl, ?_, ?_, ?_, ?_⟩
            · exact R_store6 HO0.out (fun k hk => hk) (by simp) (by simp; omega)
            · exact R_store6 HO2.out (fun k hk => hk) (by simp) (by simp; omega)
            · exact R_store6 HO4.out (fun k hk => hk) (by simp) (by simp; omega)
            · exact below_store6 HB1.out (by omega)
        · have h' : impl_DiskAppend.f0 l0_0 a0_1 l0_2 a0_3 l0_4 a0_5 1 l2 = some (l0_0, a0_1, l0_2, a0_3, l0_4, a0_5, 11) := by unfold impl_DiskAppend.f0; rw [if_pos hv, if_neg (by omega), if_pos rfl, if_neg hx]
          rw [h'] at h
          simp only [Option.some.injEq, Prod.mk.injEq] at h
          obtain ⟨rfl, rfl, rfl, rfl, rfl, rfl, rfl⟩ := h
          clear h'
          go_enter Try.func50, Try.ntmps50
          go_wp2_with fail
          refine (onFile_no_1 A0_0 c0_0 l0_0 a0_1 A0_2 c0_2 l0_2 a0_3 A0_4 c0_4 l0_4 a0_5 (w.heap.size + 1) A2 c2 l2 _ (Kd.C_alloc (Kd.C_alloc (Kd.C_alloc HR0.out _) _) _) hc0_0 (Kd.C_alloc (Kd.C_alloc (Kd.C_alloc HR2.out _) _) _) hc0_2 (Kd.C_alloc (Kd.C_alloc (Kd.C_alloc HR4.out _) _) _) hc0_4 (by go_simp) (by simp) (Kd.C_alloc (Kd.C_alloc (Kd.C_alloc HRB.out _) _) _) hc2 (by omega) hl2 hv).mono ?_
          rintro e w1 ⟨v0, v2, v4, rfl, ho0, ho2, ho4, hb⟩
          obtain ⟨B0, d0, rfl, hd0, _⟩ := Kd.R_reads ho0
          obtain ⟨B2, d2, rfl, hd2, _⟩ := Kd.R_reads ho2
          obtain ⟨B4, d4, rfl, hd4, _⟩ := Kd.R_reads ho4
          have hB1 : Below w.heap.size w w1 := below_then (by with_reducible repeat (first | exact Below.refl _ _ | apply below_alloc)) (by simp; omega) hb
          have hz1 : w.heap.size + 1 < w1.heap.size := by have := hb.size; simp at this; omega
          have hy1 : w.heap.size < w1.heap.size := by omega
          have hx1 : w.heap.size + 1 + 1 < w1.heap.size := by have := hb.size; simp at this; omega
          have hzb := hb.size
          obtain ⟨hc1, hf1⟩ := bcell hb
          have HB1 := Aside0.mk hB1
          have HO0 := Aside0.mk ho0
          have HO2 := Aside0.mk ho2
          have HO4 := Aside0.mk ho4
          clear hB1 hb ho0 ho2 ho4
          go_wp2_with fail
          refine bodyPost_ret (v := .tuple #[.agg #[.slice B0 (l0_0).length d0, .int .i64 (a0_1), .slice B2 (l0_2).length d2, .int .i64 (a0_3), .slice B4 (l0_4).length d4, .int .i64 (a0_5)], .int .i64 (11)]) ?_ rfl ?_
          · simp [results, Try.results50, go_sem, hc1, hy1, hz1, hx1]
          · refine ⟨_, _, _, rfl, ?_, ?_, ?_, ?_⟩
            · exact R_store6 HO0.out (fun k hk => hk) (by simp) (by simp; omega)
            · exact R_store6 HO2.out (fun k hk => hk) (by simp) (by simp; omega)
            · exact R_store6 HO4.out (fun k hk => hk) (by simp) (by simp; omega)
            · exact below_store6 HB1.out (by omega)
      · by_cases e2 : a1 = 2
        · subst e2
          by_cases hx : l0_4.length + l2.length ≤ 200000
          · have h' : impl_DiskAppend.f0 l0_0 a0_1 l0_2 a0_3 l0_4 a0_5 2 l2 = some (l0_0, a0_1, l0_2, a0_3, l0_4 ++ l2, a0_5, 0) := by unfold impl_DiskAppend.f0; rw [if_pos hv, if_neg (by omega), if_neg (by omega), if_pos rfl, if_pos hx]
            rw [h'] at h
            simp only [Option.some.injEq, Prod.mk.injEq] at h
            obtain ⟨rfl, rfl, rfl, rfl, rfl, rfl, rfl⟩ := h
            clear h'
            go_enter Try.func50, Try.ntmps50
            go_wp2_with fail
            refine (onFile_yes_2 A0_0 c0_0 l0_0 a0_1 A0_2 c0_2 l0_2 a0_3 A0_4 c0_4 l0_4 a0_5 (w.heap.size + 1) A2 c2 l2 _ (Kd.C_alloc (Kd.C_alloc (Kd.C_alloc HR0.out _) _) _) hc0_0 (Kd.C_alloc (Kd.C_alloc (Kd.C_alloc HR2.out _) _) _) hc0_2 (Kd.C_alloc (Kd.C_alloc (Kd.C_alloc HR4.out _) _) _) hc0_4 (by go_simp) (by simp) (Kd.C_alloc (Kd.C_alloc (Kd.C_alloc HRB.out _) _) _) hc2 hx hv).mono ?_
            rintro e w1 ⟨v0, v2, v4, rfl, ho0, ho2, ho4, hb⟩
            obtain ⟨B0, d0, rfl, hd0, _⟩ := Kd.R_reads ho0
            obtain ⟨B2, d2, rfl, hd2, _⟩ := Kd.R_reads ho2
            obtain ⟨B4, d4, rfl, hd4, _⟩ := Kd.R_reads ho4
            have hB1 : Below w.heap.size w w1 := below_then (by with_reducible repeat (first | exact Below.refl _ _ | apply below_alloc)) (by simp; omega) hb
            have hz1 : w.heap.size + 1 < w1.heap.size := by have := hb.size; simp at this; omega
            have hy1 : w.heap.size < w1.heap.size := by omega
            have hx1 : w.heap.size + 1 + 1 < w1.heap.size := by have := hb.size; simp at this; omega
            have hzb := hb.size
            obtain ⟨hc1, hf1⟩ := bcell hb
            have HB1 := Aside0.mk hB1
            have HO0 := Aside0.mk ho0
            have HO2 := Aside0.mk ho2
            have HO4 := Aside0.mk ho4
            clear hB1 hb ho0 ho2 ho4
            go_wp2_with fail
            refine bodyPost_ret (v := .tuple #[.agg #[.slice B0 (l0_0).length d0, .int .i64 (a0_1), .slice B2 (l0_2).length d2, .int .i64 (a0_3), .slice B4 (l0_4 ++ l2).length d4, .int .i64 (a0_5)], .int .i64 (0)]) ?_ rfl ?_
            · simp [results, Try.results50, go_sem, hc1, hy1, hz1, hx1]
            · refine ⟨_, _, _, rfl, ?_, ?_, ?_, ?_⟩
              · exact R_store6 HO0.out (fun k hk => hk) (by simp) (by simp; omega)
              · exact R_store6 HO2.out (fun k hk => hk) (by simp) (by simp; omega)
              · exact R_store6 HO4.out (fun k hk => hk) (by simp) (by simp; omega)
              · exact below_store6 HB1.out (by omega)
          · have h' : impl_DiskAppend.f0 l0_0 a0_1 l0_2 a0_3 l0_4 a0_5 2 l2 = some (l0_0, a0_1, l0_2, a0_3, l0_4, a0_5, 11) := by unfold impl_DiskAppend.f0; rw [if_pos hv, if_neg (by omega), if_neg (by omega), if_pos rfl, if_neg hx]
            rw [h'] at h
            simp only [Option.some.injEq, Prod.mk.injEq] at h
            obtain ⟨rfl, rfl, rfl, rfl, rfl, rfl, rfl⟩ := h
            clear h'
            go_enter Try.func50, Try.ntmps50
            go_wp2_with fail
            refine (onFile_no_2 A0_0 c0_0 l0_0 a0_1 A0_2 c0_2 l0_2 a0_3 A0_4 c0_4 l0_4 a0_5 (w.heap.size + 1) A2 c2 l2 _ (Kd.C_alloc (Kd.C_alloc (Kd.C_alloc HR0.out _) _) _) hc0_0 (Kd.C_alloc (Kd.C_alloc (Kd.C_alloc HR2.out _) _) _) hc0_2 (Kd.C_alloc (Kd.C_alloc (Kd.C_alloc HR4.out _) _) _) hc0_4 (by go_simp) (by simp) (Kd.C_alloc (Kd.C_alloc (Kd.C_alloc HRB.out _) _) _) hc2 (by omega) hl2 hv).mono ?_
            rintro e w1 ⟨v0, v2, v4, rfl, ho0, ho2, ho4, hb⟩
            obtain ⟨B0, d0, rfl, hd0, _⟩ := Kd.R_reads ho0
            obtain ⟨B2, d2, rfl, hd2, _⟩ := Kd.R_reads ho2
            obtain ⟨B4, d4, rfl, hd4, _⟩ := Kd.R_reads ho4
            have hB1 : Below w.heap.size w w1 := below_then (by with_reducible repeat (first | exact Below.refl _ _ | apply below_alloc)) (by simp; omega) hb
            have hz1 : w.heap.size + 1 < w1.heap.size := by have := hb.size; simp at this; omega
            have hy1 : w.heap.size < w1.heap.size := by omega
            have hx1 : w.heap.size + 1 + 1 < w1.heap.size := by have := hb.size; simp at this; omega
            have hzb := hb.size
            obtain ⟨hc1, hf1⟩ := bcell hb
            have HB1 := Aside0.mk hB1
            have HO0 := Aside0.mk ho0
            have HO2 := Aside0.mk ho2
            have HO4 := Aside0.mk ho4
            clear hB1 hb ho0 ho2 ho4
            go_wp2_with fail
            refine bodyPost_ret (v := .tuple #[.agg #[.slice B0 (l0_0).length d0, .int .i64 (a0_1), .slice B2 (l0_2).length d2, .int .i64 (a0_3), .slice B4 (l0_4).length d4, .int .i64 (a0_5)], .int .i64 (11)]) ?_ rfl ?_
            · simp [results, Try.results50, go_sem, hc1, hy1, hz1, hx1]
            · refine ⟨_, _, _, rfl, ?_, ?_, ?_, ?_⟩
              · exact R_store6 HO0.out (fun k hk => hk) (by simp) (by simp; omega)
              · exact R_store6 HO2.out (fun k hk => hk) (by simp) (by simp; omega)
              · exact R_store6 HO4.out (fun k hk => hk) (by simp) (by simp; omega)
              · exact below_store6 HB1.out (by omega)
        · by_cases hn : a1 < 0
          · have h' : impl_DiskAppend.f0 l0_0 a0_1 l0_2 a0_3 l0_4 a0_5 a1 l2 = some ([], 0, [], 0, [], 0, 1) := by unfold impl_DiskAppend.f0; rw [if_pos hv, if_neg (by omega), if_neg (by omega), if_neg (by omega)]
            rw [h'] at h
            simp only [Option.some.injEq, Prod.mk.injEq] at h
            obtain ⟨rfl, rfl, rfl, rfl, rfl, rfl, rfl⟩ := h
            clear h'
            go_enter Try.func50, Try.ntmps50
            go_wp2_with fail
            refine (onFile_bad_neg A0_0 c0_0 l0_0 a0_1 A0_2 c0_2 l0_2 a0_3 A0_4 c0_4 l0_4 a0_5 a1 _ _ hv hn).mono ?_
            rintro e w1 ⟨v0, v2, v4, rfl, ho0, ho2, ho4, hb⟩
            obtain ⟨B0, d0, rfl, hd0, _⟩ := Kd.R_reads ho0
            obtain ⟨B2, d2, rfl, hd2, _⟩ := Kd.R_reads ho2
            obtain ⟨B4, d4, rfl, hd4, _⟩ := Kd.R_reads ho4
            have hB1 : Below w.heap.size w w1 := below_then (by with_reducible repeat (first | exact Below.refl _ _ | apply below_alloc)) (by simp; omega) hb
            have hz1 : w.heap.size + 1 < w1.heap.size := by have := hb.size; simp at this; omega
            have hy1 : w.heap.size < w1.heap.size := by omega
            have hx1 : w.heap.size + 1 + 1 < w1.heap.size := by have := hb.size; simp at this; omega
            have hzb := hb.size
            obtain ⟨hc1, hf1⟩ := bcell hb
            have HB1 := Aside0.mk hB1
            have HO0 := Aside0.mk ho0
            have HO2 := Aside0.mk ho2
            have HO4 := Aside0.mk ho4
            clear hB1 hb ho0 ho2 ho4
            go_wp2_with fail
            refine bodyPost_ret (v := .tuple #[.agg #[.slice B0 (([] : List Int)).length d0, .int .i64 (0), .slice B2 (([] : List Int)).length d2, .int .i64 (0), .slice B4 (([] : List Int)).length d4, .int .i64 (0)], .int .i64 (1)]) ?_ rfl ?_
            · simp [results, Try.results50, go_sem, hc1, hy1, hz1, hx1]
            · refine ⟨_, _, _, rfl, ?_, ?_, ?_, ?_⟩
              · exact R_store6 HO0.out (fun k hk => hk) (by simp) (by simp; omega)
              · exact R_store6 HO2.out (fun k hk => hk) (by simp) (by simp; omega)
              · exact R_store6 HO4.out (fun k hk => hk) (by simp) (by simp; omega)
              · exact below_store6 HB1.out (by omega)
          · have h' : impl_DiskAppend.f0 l0_0 a0_1 l0_2 a0_3 l0_4 a0_5 a1 l2 = some ([], 0, [], 0, [], 0, 1) := by unfold impl_DiskAppend.f0; rw [if_pos hv, if_neg (by omega), if_neg (by omega), if_neg (by omega)]
            rw [h'] at h
            simp only [Option.some.injEq, Prod.mk.injEq] at h
            obtain ⟨rfl, rfl, rfl, rfl, rfl, rfl, rfl⟩ := h
            clear h'
            go_enter Try.func50, Try.ntmps50
            go_wp2_with fail
            refine (onFile_bad_big A0_0 c0_0 l0_0 a0_1 A0_2 c0_2 l0_2 a0_3 A0_4 c0_4 l0_4 a0_5 a1 _ _ hv (by omega)).mono ?_
            rintro e w1 ⟨v0, v2, v4, rfl, ho0, ho2, ho4, hb⟩
            obtain ⟨B0, d0, rfl, hd0, _⟩ := Kd.R_reads ho0
            obtain ⟨B2, d2, rfl, hd2, _⟩ := Kd.R_reads ho2
            obtain ⟨B4, d4, rfl, hd4, _⟩ := Kd.R_reads ho4
            have hB1 : Below w.heap.size w w1 := below_then (by with_reducible repeat (first | exact Below.refl _ _ | apply below_alloc)) (by simp; omega) hb
            have hz1 : w.heap.size + 1 < w1.heap.size := by have := hb.size; simp at this; omega
            have hy1 : w.heap.size < w1.heap.size := by omega
            have hx1 : w.heap.size + 1 + 1 < w1.heap.size := by have := hb.size; simp at this; omega
            have hzb := hb.size
            obtain ⟨hc1, hf1⟩ := bcell hb
            have HB1 := Aside0.mk hB1
            have HO0 := Aside0.mk ho0
            have HO2 := Aside0.mk ho2
            have HO4 := Aside0.mk ho4
            clear hB1 hb ho0 ho2 ho4
            go_wp2_with fail
            refine bodyPost_ret (v := .tuple #[.agg #[.slice B0 (([] : List Int)).length d0, .int .i64 (0), .slice B2 (([] : List Int)).length d2, .int .i64 (0), .slice B4 (([] : List Int)).length d4, .int .i64 (0)], .int .i64 (1)]) ?_ rfl ?_
            · simp [results, Try.results50, go_sem, hc1, hy1, hz1, hx1]
            · refine ⟨_, _, _, rfl, ?_, ?_, ?_, ?_⟩
              · exact R_store6 HO0.out (fun k hk => hk) (by simp) (by simp; omega)
              · exact R_store6 HO2.out (fun k hk => hk) (by simp) (by simp; omega)
              · exact R_store6 HO4.out (fun k hk => hk) (by simp) (by simp; omega)
              · exact below_store6 HB1.out (by omega)

def impl_DiskAppend.f (l0_0 : List Int) (a0_1 : Int) (l0_2 : List Int) (a0_3 : Int) (l0_4 : List Int) (a0_5 : Int) (a1 : Int) (l2 : List Int) : Option (List Int × Int × List Int × Int × List Int × Int × Int) := if l2.length ≤ 140737488355328 then impl_DiskAppend.f0 l0_0 a0_1 l0_2 a0_3 l0_4 a0_5 a1 l2 else none
theorem impl_DiskAppend.calls (A0_0 : Option Addr) (c0_0 : Nat) (l0_0 : List Int) (a0_1 : Int) (A0_2 : Option Addr) (c0_2 : Nat) (l0_2 : List Int) (a0_3 : Int) (A0_4 : Option Addr) (c0_4 : Nat) (l0_4 : List Int) (a0_5 : Int) (a1 : Int) (A2 : Option Addr) (c2 : Nat) (l2 : List Int) (r1 : List Int) (r2 : Int) (r3 : List Int) (r4 : Int) (r5 : List Int) (r6 : Int) (r7 : Int) (w : World) (hr0_0 : Kd.C (Kd.int .u8) w A0_0 l0_0.length l0_0) (hc0_0 : l0_0.length ≤ c0_0) (hr0_2 : Kd.C (Kd.int .u8) w A0_2 l0_2.length l0_2) (hc0_2 : l0_2.length ≤ c0_2) (hr0_4 : Kd.C (Kd.int .u8) w A0_4 l0_4.length l0_4) (hc0_4 : l0_4.length ≤ c0_4) (hr2 : Kd.C (Kd.int .u8) w A2 l2.length l2) (hc2 : l2.length ≤ c2) (h : impl_DiskAppend.f l0_0 a0_1 l0_2 a0_3 l0_4 a0_5 a1 l2 = some (r1, r2, r3, r4, r5, r6, r7)) :
    Calls Try.prog 50 #[.agg #[.slice A0_0 l0_0.length c0_0, .int .i64 a0_1, .slice A0_2 l0_2.length c0_2, .int .i64 a0_3, .slice A0_4 l0_4.length c0_4, .int .i64 a0_5], .int .i64 a1, .slice A2 l2.length c2] w fun e w' => ∃ v0_ v2_ v4_ : Value, e = .returned (.tuple #[.agg #[v0_, .int .i64 r2, v2_, .int .i64 r4, v4_, .int .i64 r6], .int .i64 r7]) ∧ Kd.R (Kd.int .u8) 5 w' w.heap.size (fun k_ => some k_ ≠ (v2_ : Value).ownBlock ∧ some k_ ≠ (v4_ : Value).ownBlock) v0_ r1 ∧ Kd.R (Kd.int .u8) 5 w' w.heap.size (fun k_ => some k_ ≠ (v0_ : Value).ownBlock ∧ some k_ ≠ (v4_ : Value).ownBlock) v2_ r3 ∧ Kd.R (Kd.int .u8) 5 w' w.heap.size (fun k_ => some k_ ≠ (v0_ : Value).ownBlock ∧ some k_ ≠ (v2_ : Value).ownBlock) v4_ r5 ∧ Below w.heap.size w w' := by
  unfold impl_DiskAppend.f at h
  split at h
  · rename_i hl
    exact impl_DiskAppend.calls0 A0_0 c0_0 l0_0 a0_1 A0_2 c0_2 l0_2 a0_3 A0_4 c0_4 l0_4 a0_5 a1 A2 c2 l2 r1 r2 r3 r4 r5 r6 r7 w hr0_0 hc0_0 hr0_2 hc0_2 hr0_4 hc0_4 hr2 hc2 hl h
  · cases h

end Go.Proofs.Ytbapokpkgonjkaa.Print

/- The machine's side of the statements: what a Go function comes to, as a Lean function, and that it does so (written by this session's own program over the kit's printer; Lean checks it). -/
namespace Go.Proofs.Ytbapokpkgonjkaa.Print
open Go.RowKit Go.Proofs.YtbapokpkgonjkaaW.PrintWords Go.Proofs.YtbapokpkgonjkaaW.PrintLast Go.Proofs.YtbapokpkgonjkaaW.PrintMore
attribute [local go_sem] max2_int min2_int max_two min_two max_three min_three max_four min_four   -- for this text's walks alone
set_option linter.unusedVariables false
set_option linter.unusedSimpArgs false

/-! ### laws_pick: function 54 -/
def laws_pick.f (l0_0 : List Int) (a0_1 : Int) (l0_2 : List Int) (a0_3 : Int) (l0_4 : List Int) (a0_5 : Int) (a1 : Int) : Option (List Int) := if a1 = 0 then (some l0_0) else (if a1 = 1 then (some l0_2) else (some l0_4))
set_option maxHeartbeats 8000000 in
set_option maxRecDepth 100000 in
theorem laws_pick.calls (P0_0_ : Nat → Prop) (u9000_ : Value) (l0_0 : List Int) (a0_1 : Int) (P0_2_ : Nat → Prop) (u9001_ : Value) (l0_2 : List Int) (a0_3 : Int) (P0_4_ : Nat → Prop) (u9002_ : Value) (l0_4 : List Int) (a0_5 : Int) (a1 : Int) (r : List Int) (w0 w : World) (hB : Below w0.heap.size w0 w) (ho0_0 : Kd.R (Kd.int .u8) 5 w w0.heap.size P0_0_ u9000_ l0_0) (hp0_0_0_2 : ∀ k_, P0_0_ k_ → ¬ P0_2_ k_) (hp0_0_0_4 : ∀ k_, P0_0_ k_ → ¬ P0_4_ k_) (ho0_2 : Kd.R (Kd.int .u8) 5 w w0.heap.size P0_2_ u9001_ l0_2) (hp0_2_0_0 : ∀ k_, P0_2_ k_ → ¬ P0_0_ k_) (hp0_2_0_4 : ∀ k_, P0_2_ k_ → ¬ P0_4_ k_) (ho0_4 : Kd.R (Kd.int .u8) 5 w w0.heap.size P0_4_ u9002_ l0_4) (hp0_4_0_0 : ∀ k_, P0_4_ k_ → ¬ P0_0_ k_) (hp0_4_0_2 : ∀ k_, P0_4_ k_ → ¬ P0_2_ k_) (h : laws_pick.f l0_0 a0_1 l0_2 a0_3 l0_4 a0_5 a1 = some r) :
    Calls Try.prog 54 #[.agg #[u9000_, .int .i64 a0_1, u9001_, .int .i64 a0_3, u9002_, .int .i64 a0_5], .int .i64 a1] w fun e w' => ∃ v0_ : Value, e = .returned (v0_) ∧ Kd.R (Kd.int .u8) 5 w' w0.heap.size (fun k_ => ((P0_0_ k_ ∨ P0_2_ k_ ∨ P0_4_ k_) ∨ w.heap.size ≤ k_)) v0_ r ∧ Below w0.heap.size w0 w' ∧ Kept w w' (fun k_ => P0_0_ k_ ∨ P0_2_ k_ ∨ P0_4_ k_) := by
  have hu31 := Try.underlying31
  have HO0_0 := Aside0.mk (show Kd.R (Kd.int .u8) 5 w w0.heap.size (fun k_ => ((P0_0_ k_ ∨ P0_2_ k_ ∨ P0_4_ k_) ∨ w.heap.size ≤ k_) ∧ some k_ ≠ (u9001_ : Value).ownBlock ∧ some k_ ≠ (u9002_ : Value).ownBlock) u9000_ l0_0 from Kd.R_mono ho0_0 (fun k_ hk => ⟨(.inl (.inl hk)), fun e_ => hp0_0_0_2 k_ hk (ho0_2.1 k_ e_.symm), fun e_ => hp0_0_0_4 k_ hk (ho0_4.1 k_ e_.symm)⟩))
  have HO0_2 := Aside0.mk (show Kd.R (Kd.int .u8) 5 w w0.heap.size (fun k_ => ((P0_0_ k_ ∨ P0_2_ k_ ∨ P0_4_ k_) ∨ w.heap.size ≤ k_) ∧ some k_ ≠ (u9000_ : Value).ownBlock ∧ some k_ ≠ (u9002_ : Value).ownBlock) u9001_ l0_2 from Kd.R_mono ho0_2 (fun k_ hk => ⟨(.inl (.inr (.inl hk))), fun e_ => hp0_2_0_0 k_ hk (ho0_0.1 k_ e_.symm), fun e_ => hp0_2_0_4 k_ hk (ho0_4.1 k_ e_.symm)⟩))
  have HO0_4 := Aside0.mk (show Kd.R (Kd.int .u8) 5 w w0.heap.size (fun k_ => ((P0_0_ k_ ∨ P0_2_ k_ ∨ P0_4_ k_) ∨ w.heap.size ≤ k_) ∧ some k_ ≠ (u9000_ : Value).ownBlock ∧ some k_ ≠ (u9001_ : Value).ownBlock) u9002_ l0_4 from Kd.R_mono ho0_4 (fun k_ hk => ⟨(.inl (.inr (.inr hk))), fun e_ => hp0_4_0_0 k_ hk (ho0_0.1 k_ e_.symm), fun e_ => hp0_4_0_2 k_ hk (ho0_2.1 k_ e_.symm)⟩))
  have HK := Aside0.mk (Kept.refl w (fun k_ => P0_0_ k_ ∨ P0_2_ k_ ∨ P0_4_ k_))
  have HW0 := Aside0.mk hB.size
  have HB := Aside0.mk hB
  clear hB
  have H : (if a1 = 0 then (some l0_0) else (if a1 = 1 then (some l0_2) else (some l0_4))) = some r := h
  clear h
  by_cases c3 : a1 = 0
  · rw [if_pos c3] at H
    have c3b0 : (a1 == 0) = true := beq_iff_eq.mpr c3
    have c3b1 : (a1 != 0) = false := bne_eq_false_iff_eq.mpr c3
    clear c3
    obtain rfl := Option.some.inj H
    obtain ⟨Ao4, co4, eo4⟩ := Kd.R_slice HO0_0.out
    subst eo4
    obtain ⟨Ao5, co5, eo5⟩ := Kd.R_slice HO0_2.out
    subst eo5
    obtain ⟨Ao6, co6, eo6⟩ := Kd.R_slice HO0_4.out
    subst eo6
    go_enter Try.func54, Try.ntmps54
    go_wp2_with (first | ((with_reducible refine gate_dst (N := 2) rfl ?_); refine box_event ?hg (N := 2) ?hd (cs := #[.slice Ao4 l0_0.length co4, .int .i64 a0_1, .slice Ao5 l0_2.length co5, .int .i64 a0_3, .slice Ao6 l0_4.length co6, .int .i64 a0_5]) (t := 31) ?hr ?_; (case hd => rfl); (case hg => rfl); (case hr => first | (go_simp; done) | (go_simp; rfl)); intro gb1299 hg w7 hbox hb; have n0_ := Aside0.mk (Kd.R_below (by (with_reducible repeat (first | apply Kd.R_alloc | apply Kd.R_drewN | apply Kd.R_drew)); exact HO0_0.out) hb); have n1_ := Aside0.mk (Kd.R_below (by (with_reducible repeat (first | apply Kd.R_alloc | apply Kd.R_drewN | apply Kd.R_drew)); exact HO0_2.out) hb); have n2_ := Aside0.mk (Kd.R_below (by (with_reducible repeat (first | apply Kd.R_alloc | apply Kd.R_drewN | apply Kd.R_drew)); exact HO0_4.out) hb); have n3_ := Aside0.mk (Kept.below (S := (fun k_ => P0_0_ k_ ∨ P0_2_ k_ ∨ P0_4_ k_)) (by repeat (first | (with_reducible first | exact HK.out | apply Kept.alloc | apply Kept.drewN | apply Kept.drew) | exact HK.out)) hb); have n4_ := Aside0.mk (below_step (by repeat (first | (with_reducible first | exact HB.out | apply below_alloc | apply pw_below_drewN | apply below_drew1) | exact HB.out)) hb); have n5_ := Aside0.mk (hbox); have n6_ := Aside0.mk ((by rw [hg]; exact (by first | exact HK.out.1 | exact (show Kept w _ (fun k_ => P0_0_ k_ ∨ P0_2_ k_ ∨ P0_4_ k_) from by repeat (first | (with_reducible first | exact HK.out | apply Kept.alloc | apply Kept.drewN | apply Kept.drew) | exact HK.out)).1) : w.heap.size ≤ gb1299)); have n7_ := Aside0.mk ((by rw [hg]; exact (below_size (by repeat (first | (with_reducible first | exact HB.out | apply below_alloc | apply pw_below_drewN | apply below_drew1) | exact HB.out))) : w0.heap.size ≤ gb1299)); clear HO0_0; clear HO0_2; clear HO0_4; clear HK; clear HB; have HO0_0 := n0_; have HO0_2 := n1_; have HO0_4 := n2_; have HK := n3_; have HB := n4_; have BK1299 := n5_; have GW1299 := n6_; have GE1299 := n7_; clear n0_ n1_ n2_ n3_ n4_ n5_ n6_ n7_; clear hb hbox hg; have hcz8_0 : w7.cell? ⟨gb1299, 0, none⟩ = some (.slice Ao4 l0_0.length co4) := (blk_cell BK1299.out 0).trans rfl; have hcz8_1 : w7.cell? ⟨gb1299, 1, none⟩ = some (.int .i64 a0_1) := (blk_cell BK1299.out 1).trans rfl; have hcz8_2 : w7.cell? ⟨gb1299, 2, none⟩ = some (.slice Ao5 l0_2.length co5) := (blk_cell BK1299.out 2).trans rfl; have hcz8_3 : w7.cell? ⟨gb1299, 3, none⟩ = some (.int .i64 a0_3) := (blk_cell BK1299.out 3).trans rfl; have hcz8_4 : w7.cell? ⟨gb1299, 4, none⟩ = some (.slice Ao6 l0_4.length co6) := (blk_cell BK1299.out 4).trans rfl; have hcz8_5 : w7.cell? ⟨gb1299, 5, none⟩ = some (.int .i64 a0_5) := (blk_cell BK1299.out 5).trans rfl; have hfz8_0 := blk_frozen BK1299.out 0; have hfz8_1 := blk_frozen BK1299.out 1; have hfz8_2 := blk_frozen BK1299.out 2; have hfz8_3 := blk_frozen BK1299.out 3; have hfz8_4 := blk_frozen BK1299.out 4; have hfz8_5 := blk_frozen BK1299.out 5))
    go_ret
    exact ⟨_, by first | rfl | (simp [errW_none, errW_some] <;> rfl) | (simp [*, errW_none, errW_some] <;> rfl), by (with_reducible repeat (first | apply Kd.R_alloc | apply Kd.R_drewN | apply Kd.R_drew)); exact Kd.R_mono HO0_0.out (fun _ hk => hk.1), by repeat (first | (with_reducible first | exact HB.out | apply below_alloc | apply pw_below_drewN | apply below_drew1 | refine below_set ?_ GE1299.out) | exact HB.out), by repeat (first | (with_reducible first | exact HK.out | apply Kept.alloc | apply Kept.drewN | apply Kept.drew | refine Kept.setCell ?_ (.inr GW1299.out) _) | exact HK.out)⟩
  · rw [if_neg c3] at H
    have c3b0 : (a1 == 0) = false := beq_eq_false_iff_ne.mpr c3
    have c3b1 : (a1 != 0) = true := bne_iff_ne.mpr c3
    by_cases c9 : a1 = 1
    · rw [if_pos c9] at H
      have c9b0 : (a1 == 1) = true := beq_iff_eq.mpr c9
      have c9b1 : (a1 != 1) = false := bne_eq_false_iff_eq.mpr c9
      clear c9
      obtain rfl := Option.some.inj H
      obtain ⟨Ao10, co10, eo10⟩ := Kd.R_slice HO0_0.out
      subst eo10
      obtain ⟨Ao11, co11, eo11⟩ := Kd.R_slice HO0_2.out
      subst eo11
      obtain ⟨Ao12, co12, eo12⟩ := Kd.R_slice HO0_4.out
      subst eo12
      go_enter Try.func54, Try.ntmps54
      go_wp2_with (first | ((with_reducible refine gate_dst (N := 2) rfl ?_); refine box_event ?hg (N := 2) ?hd (cs := #[.slice Ao10 l0_0.length co10, .int .i64 a0_1, .slice Ao11 l0_2.length co11, .int .i64 a0_3, .slice Ao12 l0_4.length co12, .int .i64 a0_5]) (t := 31) ?hr ?_; (case hd => rfl); (case hg => rfl); (case hr => first | (go_simp; done) | (go_simp; rfl)); intro gb1299 hg w13 hbox hb; have n0_ := Aside0.mk (Kd.R_below (by (with_reducible repeat (first | apply Kd.R_alloc | apply Kd.R_drewN | apply Kd.R_drew)); exact HO0_0.out) hb); have n1_ := Aside0.mk (Kd.R_below (by (with_reducible repeat (first | apply Kd.R_alloc | apply Kd.R_drewN | apply Kd.R_drew)); exact HO0_2.out) hb); have n2_ := Aside0.mk (Kd.R_below (by (with_reducible repeat (first | apply Kd.R_alloc | apply Kd.R_drewN | apply Kd.R_drew)); exact HO0_4.out) hb); have n3_ := Aside0.mk (Kept.below (S := (fun k_ => P0_0_ k_ ∨ P0_2_ k_ ∨ P0_4_ k_)) (by repeat (first | (with_reducible first | exact HK.out | apply Kept.alloc | apply Kept.drewN | apply Kept.drew) | exact HK.out)) hb); have n4_ := Aside0.mk (below_step (by repeat (first | (with_reducible first | exact HB.out | apply below_alloc | apply pw_below_drewN | apply below_drew1) | exact HB.out)) hb); have n5_ := Aside0.mk (hbox); have n6_ := Aside0.mk ((by rw [hg]; exact (by first | exact HK.out.1 | exact (show Kept w _ (fun k_ => P0_0_ k_ ∨ P0_2_ k_ ∨ P0_4_ k_) from by repeat (first | (with_reducible first | exact HK.out | apply Kept.alloc | apply Kept.drewN | apply Kept.drew) | exact HK.out)).1) : w.heap.size ≤ gb1299)); have n7_ := Aside0.mk ((by rw [hg]; exact (below_size (by repeat (first | (with_reducible first | exact HB.out | apply below_alloc | apply pw_below_drewN | apply below_drew1) | exact HB.out))) : w0.heap.size ≤ gb1299)); clear HO0_0; clear HO0_2; clear HO0_4; clear HK; clear HB; have HO0_0 := n0_; have HO0_2 := n1_; have HO0_4 := n2_; have HK := n3_; have HB := n4_; have BK1299 := n5_; have GW1299 := n6_; have GE1299 := n7_; clear n0_ n1_ n2_ n3_ n4_ n5_ n6_ n7_; clear hb hbox hg; have hcz14_0 : w13.cell? ⟨gb1299, 0, none⟩ = some (.slice Ao10 l0_0.length co10) := (blk_cell BK1299.out 0).trans rfl; have hcz14_1 : w13.cell? ⟨gb1299, 1, none⟩ = some (.int .i64 a0_1) := (blk_cell BK1299.out 1).trans rfl; have hcz14_2 : w13.cell? ⟨gb1299, 2, none⟩ = some (.slice Ao11 l0_2.length co11) := (blk_cell BK1299.out 2).trans rfl; have hcz14_3 : w13.cell? ⟨gb1299, 3, none⟩ = some (.int .i64 a0_3) := (blk_cell BK1299.out 3).trans rfl; have hcz14_4 : w13.cell? ⟨gb1299, 4, none⟩ = some (.slice Ao12 l0_4.length co12) := (blk_cell BK1299.out 4).trans rfl; have hcz14_5 : w13.cell? ⟨gb1299, 5, none⟩ = some (.int .i64 a0_5) := (blk_cell BK1299.out 5).trans rfl; have hfz14_0 := blk_frozen BK1299.out 0; have hfz14_1 := blk_frozen BK1299.out 1; have hfz14_2 := blk_frozen BK1299.out 2; have hfz14_3 := blk_frozen BK1299.out 3; have hfz14_4 := blk_frozen BK1299.out 4; have hfz14_5 := blk_frozen BK1299.out 5))
      go_ret
      exact ⟨_, by first | rfl | (simp [errW_none, errW_some] <;> rfl) | (simp [*, errW_none, errW_some] <;> rfl), by (with_reducible repeat (first | apply Kd.R_alloc | apply Kd.R_drewN | apply Kd.R_drew)); exact Kd.R_mono HO0_2.out (fun _ hk => hk.1), by repeat (first | (with_reducible first | exact HB.out | apply below_alloc | apply pw_below_drewN | apply below_drew1 | refine below_set ?_ GE1299.out) | exact HB.out), by repeat (first | (with_reducible first | exact HK.out | apply Kept.alloc | apply Kept.drewN | apply Kept.drew | refine Kept.setCell ?_ (.inr GW1299.out) _) | exact HK.out)⟩
    · rw [if_neg c9] at H
      have c9b0 : (a1 == 1) = false := beq_eq_false_iff_ne.mpr c9
      have c9b1 : (a1 != 1) = true := bne_iff_ne.mpr c9
      obtain rfl := Option.some.inj H
      obtain ⟨Ao15, co15, eo15⟩ := Kd.R_slice HO0_0.out
      subst eo15
      obtain ⟨Ao16, co16, eo16⟩ := Kd.R_slice HO0_2.out
      subst eo16
      obtain ⟨Ao17, co17, eo17⟩ := Kd.R_slice HO0_4.out
      subst eo17
      go_enter Try.func54, Try.ntmps54
      go_wp2_with (first | ((with_reducible refine gate_dst (N := 2) rfl ?_); refine box_event ?hg (N := 2) ?hd (cs := #[.slice Ao15 l0_0.length co15, .int .i64 a0_1, .slice Ao16 l0_2.length co16, .int .i64 a0_3, .slice Ao17 l0_4.length co17, .int .i64 a0_5]) (t := 31) ?hr ?_; (case hd => rfl); (case hg => rfl); (case hr => first | (go_simp; done) | (go_simp; rfl)); intro gb1299 hg w18 hbox hb; have n0_ := Aside0.mk (Kd.R_below (by (with_reducible repeat (first | apply Kd.R_alloc | apply Kd.R_drewN | apply Kd.R_drew)); exact HO0_0.out) hb); have n1_ := Aside0.mk (Kd.R_below (by (with_reducible repeat (first | apply Kd.R_alloc | apply Kd.R_drewN | apply Kd.R_drew)); exact HO0_2.out) hb); have n2_ := Aside0.mk (Kd.R_below (by (with_reducible repeat (first | apply Kd.R_alloc | apply Kd.R_drewN | apply Kd.R_drew)); exact HO0_4.out) hb); have n3_ := Aside0.mk (Kept.below (S := (fun k_ => P0_0_ k_ ∨ P0_2_ k_ ∨ P0_4_ k_)) (by repeat (first | (with_reducible first | exact HK.out | apply Kept.alloc | apply Kept.drewN | apply Kept.drew) | exact HK.out)) hb); have n4_ := Aside0.mk (below_step (by repeat (first | (with_reducible first | exact HB.out | apply below_alloc | apply pw_below_drewN | apply below_drew1) | exact HB.out)) hb); have n5_ := Aside0.mk (hbox); have n6_ := Aside0.mk ((by rw [hg]; exact (by first | exact HK.out.1 | exact (show Kept w _ (fun k_ => P0_0_ k_ ∨ P0_2_ k_ ∨ P0_4_ k_) from by repeat (first | (with_reducible first | exact HK.out | apply Kept.alloc | apply Kept.drewN | apply Kept.drew) | exact HK.out)).1) : w.heap.size ≤ gb1299)); have n7_ := Aside0.mk ((by rw [hg]; exact (below_size (by repeat (first | (with_reducible first | exact HB.out | apply below_alloc | apply pw_below_drewN | apply below_drew1) | exact HB.out))) : w0.heap.size ≤ gb1299)); clear HO0_0; clear HO0_2; clear HO0_4; clear HK; clear HB; have HO0_0 := n0_; have HO0_2 := n1_; have HO0_4 := n2_; have HK := n3_; have HB := n4_; have BK1299 := n5_; have GW1299 := n6_; have GE1299 := n7_; clear n0_ n1_ n2_ n3_ n4_ n5_ n6_ n7_; clear hb hbox hg; have hcz19_0 : w18.cell? ⟨gb1299, 0, none⟩ = some (.slice Ao15 l0_0.length co15) := (blk_cell BK1299.out 0).trans rfl; have hcz19_1 : w18.cell? ⟨gb1299, 1, none⟩ = some (.int .i64 a0_1) := (blk_cell BK1299.out 1).trans rfl; have hcz19_2 : w18.cell? ⟨gb1299, 2, none⟩ = some (.slice Ao16 l0_2.length co16) := (blk_cell BK1299.out 2).trans rfl; have hcz19_3 : w18.cell? ⟨gb1299, 3, none⟩ = some (.int .i64 a0_3) := (blk_cell BK1299.out 3).trans rfl; have hcz19_4 : w18.cell? ⟨gb1299, 4, none⟩ = some (.slice Ao17 l0_4.length co17) := (blk_cell BK1299.out 4).trans rfl; have hcz19_5 : w18.cell? ⟨gb1299, 5, none⟩ = some (.int .i64 a0_5) := (blk_cell BK1299.out 5).trans rfl; have hfz19_0 := blk_frozen BK1299.out 0; have hfz19_1 := blk_frozen BK1299.out 1; have hfz19_2 := blk_frozen BK1299.out 2; have hfz19_3 := blk_frozen BK1299.out 3; have hfz19_4 := blk_frozen BK1299.out 4; have hfz19_5 := blk_frozen BK1299.out 5))
      go_ret
      exact ⟨_, by first | rfl | (simp [errW_none, errW_some] <;> rfl) | (simp [*, errW_none, errW_some] <;> rfl), by (with_reducible repeat (first | apply Kd.R_alloc | apply Kd.R_drewN | apply Kd.R_drew)); exact Kd.R_mono HO0_4.out (fun _ hk => hk.1), by repeat (first | (with_reducible first | exact HB.out | apply below_alloc | apply pw_below_drewN | apply below_drew1 | refine below_set ?_ GE1299.out) | exact HB.out), by repeat (first | (with_reducible first | exact HK.out | apply Kept.alloc | apply Kept.drewN | apply Kept.drew | refine Kept.setCell ?_ (.inr GW1299.out) _) | exact HK.out)⟩

end Go.Proofs.Ytbapokpkgonjkaa.Print

/- The machine's side of the statements: what a Go function comes to, as a Lean function, and that it does so (written by this session's own program over the kit's printer; Lean checks it). -/
namespace Go.Proofs.Ytbapokpkgonjkaa.Print
open Go.RowKit Go.Proofs.YtbapokpkgonjkaaW.PrintWords Go.Proofs.YtbapokpkgonjkaaW.PrintLast Go.Proofs.YtbapokpkgonjkaaW.PrintMore
attribute [local go_sem] max2_int min2_int max_two min_two max_three min_three max_four min_four   -- for this text's walks alone
set_option linter.unusedVariables false
set_option linter.unusedSimpArgs false

/-! ### laws_sameB: function 53 -/
def laws_sameB.l0 : Nat → List Int → List Int → Int → Option (Bool)
  | 0, _, _, _ => none
  | k + 1, x0, x1, x5 => if x5 < (x0.length : Int) then (if 0 ≤ x5 then (if x5 < (x1.length : Int) then (if (rd x0 x5) = (rd x1 x5) then (laws_sameB.l0 k x0 x1 (wrap64 (x5 + 1))) else (some false)) else (none)) else (none)) else (some true)
def laws_sameB.f (k : Nat) (l0 : List Int) (l1 : List Int) : Option (Bool) := if (l0.length : Int) = (l1.length : Int) then (laws_sameB.l0 k l0 l1 0) else (some false)
theorem laws_sameB.mono_l : ∀ k, (∀ y0 y1 y2, LeO (laws_sameB.l0 k y0 y1 y2) (laws_sameB.l0 (k + 1) y0 y1 y2))
  | 0 => fun _ _ _ r h => by simp [laws_sameB.l0] at h
  | k + 1 => by
    have ih0 := laws_sameB.mono_l k
    · intro y0 y1 y2
      unfold laws_sameB.l0
      repeat' first
      | (with_reducible exact ih0 _ _ _)
      | (with_reducible exact LeO.refl _)
      | (with_reducible exact LeO.none _)
      | (with_reducible refine LeO.ite ?_ ?_)
      | (with_reducible refine LeO.bind ?_ (fun _ => ?_))
      | exact ih0 _ _ _
      | exact LeO.none _
      | refine LeO.ite ?_ ?_
      | refine LeO.bind ?_ (fun _ => ?_)
theorem laws_sameB.mono : ∀ a0 a1 k, LeO (laws_sameB.f k a0 a1) (laws_sameB.f (k + 1) a0 a1) := by
  intro a0 a1 k
  have ih0 := laws_sameB.mono_l k
  unfold laws_sameB.f
  repeat' first
      | (with_reducible exact ih0 _ _ _)
      | (with_reducible exact LeO.refl _)
      | (with_reducible exact LeO.none _)
      | (with_reducible refine LeO.ite ?_ ?_)
      | (with_reducible refine LeO.bind ?_ (fun _ => ?_))
      | exact ih0 _ _ _
      | exact LeO.none _
      | refine LeO.ite ?_ ?_
      | refine LeO.bind ?_ (fun _ => ?_)
set_option maxHeartbeats 8000000 in
set_option maxRecDepth 100000 in
theorem laws_sameB.calls (k : Nat) (A0 : Option Addr) (c0 : Nat) (l0 : List Int) (A1 : Option Addr) (c1 : Nat) (l1 : List Int) (r : Bool) (w : World) (hr0 : Kd.C (Kd.int .u8) w A0 l0.length l0) (hc0 : l0.length ≤ c0) (hr1 : Kd.C (Kd.int .u8) w A1 l1.length l1) (hc1 : l1.length ≤ c1) (h : laws_sameB.f k l0 l1 = some r) :
    Calls Try.prog 53 #[.slice A0 l0.length c0, .slice A1 l1.length c1] w fun e w' => e = .returned (.bool r) ∧ Drawn0 w w' := by
  have HR0 := Aside0.mk hr0
  have HC0 := Aside0.mk hc0
  clear hr0 hc0
  have HR1 := Aside0.mk hr1
  have HC1 := Aside0.mk hc1
  clear hr1 hc1
  have H : (if (l0.length : Int) = (l1.length : Int) then (laws_sameB.l0 k l0 l1 0) else (some false)) = some r := h
  clear h
  by_cases c3 : (l0.length : Int) = (l1.length : Int)
  · rw [if_pos c3] at H
    have c3b0 : ((l0.length : Int) == (l1.length : Int)) = true := beq_iff_eq.mpr c3
    have c3b1 : ((l0.length : Int) != (l1.length : Int)) = false := bne_eq_false_iff_eq.mpr c3
    have c3b2 : (l0.length == l1.length) = true := by first | simpa using c3 | (simp at c3 ⊢; omega)
    clear c3
    have H' := Aside0.mk H
    clear H
    go_enter Try.func53, Try.ntmps53
    go_wp2
    repeat (go_quiet (fail); try go_wp2)
    go_loopg [5] k (fun kq v5 w' => ∃ (x5_1 : Int), v5 = .int .i64 x5_1 ∧ Aside0 (laws_sameB.l0 kq l0 l1 x5_1 = some r) ∧ Aside0 (kq ≤ k) ∧ Drawn0 w w')
    case atStart => exact ⟨(0), (by first | rfl | (simp; done) | (simp [*]; done)), H', ⟨Nat.le_refl _⟩, by repeat (first | exact Drawn0.refl _ | apply Drawn0.step)⟩
    case round =>
      clear H'
      try clear c1
      try clear p2
      try clear c3
      try clear c3b0
      try clear c3b1
      try clear c3b2
      obtain ⟨x5_1, rfl, HA, HK1, ⟨m1, rfl⟩⟩ := hrel
      cases gk with
      | zero => exact absurd HA.out (by simp [laws_sameB.l0])
      | succ k1 =>
        have H := HA.out
        clear HA
        simp only [laws_sameB.l0] at H
        by_cases c4 : x5_1 < (l0.length : Int)
        · rw [if_pos c4] at H
          have c4b0 : decide (x5_1 < (l0.length : Int)) = true := decide_eq_true c4
          clear c4
          by_cases c5 : 0 ≤ x5_1
          · rw [if_pos c5] at H
            have c5b0 : decide (0 ≤ x5_1) = true := decide_eq_true c5
            clear c5
            by_cases c6 : x5_1 < (l1.length : Int)
            · rw [if_pos c6] at H
              have c6b0 : decide (x5_1 < (l1.length : Int)) = true := decide_eq_true c6
              clear c6
              by_cases c7 : (rd l0 x5_1) = (rd l1 x5_1)
              · rw [if_pos c7] at H
                have c7b0 : ((rd l0 x5_1) == (rd l1 x5_1)) = true := beq_iff_eq.mpr c7
                have c7b1 : ((rd l0 x5_1) != (rd l1 x5_1)) = false := bne_eq_false_iff_eq.mpr c7
                clear c7
                have H' := Aside0.mk H
                clear H
                have p1297 : 0 ≤ (x5_1 : Int) := of_decide_eq_true (by first | (with_reducible assumption) | assumption)
                have q1297 : x5_1 < (l0.length : Int) := of_decide_eq_true (by first | (with_reducible assumption) | assumption)
                obtain ⟨ad1297, e1297, hx1297_0⟩ := Kd.at_int HR0.out x5_1 p1297 q1297
                cases e1297
                replace p1297 := eq_true p1297
                replace q1297 := eq_true q1297
                have p1298 : 0 ≤ (x5_1 : Int) := of_decide_eq_true (by first | (with_reducible assumption) | assumption)
                have q1298 : x5_1 < (l1.length : Int) := of_decide_eq_true (by first | (with_reducible assumption) | assumption)
                obtain ⟨ad1298, e1298, hx1298_0⟩ := Kd.at_int HR1.out x5_1 p1298 q1298
                cases e1298
                replace p1298 := eq_true p1298
                replace q1298 := eq_true q1298
                go_wp2
                repeat (go_quiet (fail); try go_wp2)
                go_roundg k1
                case measure => have := HK1.out; omega
                case rel => exact ⟨(wrap64 (x5_1 + 1)), (by first | rfl | (simp; done) | (simp [*]; done)), H', ⟨by have := HK1.out; omega⟩, by repeat (first | exact Drawn0.refl _ | apply Drawn0.step)⟩
              · rw [if_neg c7] at H
                have c7b0 : ((rd l0 x5_1) == (rd l1 x5_1)) = false := beq_eq_false_iff_ne.mpr c7
                have c7b1 : ((rd l0 x5_1) != (rd l1 x5_1)) = true := bne_iff_ne.mpr c7
                obtain rfl := Option.some.inj H
                have p1297 : 0 ≤ (x5_1 : Int) := of_decide_eq_true (by first | (with_reducible assumption) | assumption)
                have q1297 : x5_1 < (l0.length : Int) := of_decide_eq_true (by first | (with_reducible assumption) | assumption)
                obtain ⟨ad1297, e1297, hx1297_0⟩ := Kd.at_int HR0.out x5_1 p1297 q1297
                cases e1297
                replace p1297 := eq_true p1297
                replace q1297 := eq_true q1297
                have p1298 : 0 ≤ (x5_1 : Int) := of_decide_eq_true (by first | (with_reducible assumption) | assumption)
                have q1298 : x5_1 < (l1.length : Int) := of_decide_eq_true (by first | (with_reducible assumption) | assumption)
                obtain ⟨ad1298, e1298, hx1298_0⟩ := Kd.at_int HR1.out x5_1 p1298 q1298
                cases e1298
                replace p1298 := eq_true p1298
                replace q1298 := eq_true q1298
                go_wp2
                repeat (go_quiet (fail); try go_wp2)
                go_ret
                exact ⟨by first | rfl | (simp; done) | (simp [*]; done), by repeat (first | exact Drawn0.refl _ | apply Drawn0.step)⟩
            · rw [if_neg c6] at H
              exact absurd H (by simp)
          · rw [if_neg c5] at H
            exact absurd H (by simp)
        · rw [if_neg c4] at H
          have c4b0 : decide (x5_1 < (l0.length : Int)) = false := decide_eq_false c4
          clear c4
          obtain rfl := Option.some.inj H
          go_wp2
          repeat (go_quiet (fail); try go_wp2)
          go_ret
          exact ⟨by first | rfl | (simp; done) | (simp [*]; done), by repeat (first | exact Drawn0.refl _ | apply Drawn0.step)⟩
  · rw [if_neg c3] at H
    have c3b0 : ((l0.length : Int) == (l1.length : Int)) = false := beq_eq_false_iff_ne.mpr c3
    have c3b1 : ((l0.length : Int) != (l1.length : Int)) = true := bne_iff_ne.mpr c3
    have c3b2 : (l0.length == l1.length) = false := by first | simpa using c3 | (simp at c3 ⊢; omega)
    obtain rfl := Option.some.inj H
    go_enter Try.func53, Try.ntmps53
    go_wp2
    repeat (go_quiet (fail); try go_wp2)
    go_ret
    exact ⟨by first | rfl | (simp; done) | (simp [*]; done), by repeat (first | exact Drawn0.refl _ | apply Drawn0.step)⟩

end Go.Proofs.Ytbapokpkgonjkaa.Print

/- The machine's side of the statements: what a Go function comes to, as a Lean function, and that it does so (written by this session's own program over the kit's printer; Lean checks it). -/
namespace Go.Proofs.Ytbapokpkgonjkaa.Print
open Go.RowKit Go.Proofs.YtbapokpkgonjkaaW.PrintWords Go.Proofs.YtbapokpkgonjkaaW.PrintLast Go.Proofs.YtbapokpkgonjkaaW.PrintMore
attribute [local go_sem] max2_int min2_int max_two min_two max_three min_three max_four min_four   -- for this text's walks alone
set_option linter.unusedVariables false
set_option linter.unusedSimpArgs false

/-! ### laws_take: function 52 -/
def laws_take.f (l0 : List Int) (a1 : Int) : Option (Int) := if (l0.length : Int) = 0 then (some 0) else (if 0 ≤ (Int.tmod a1 (l0.length : Int)) then (if (Int.tmod a1 (l0.length : Int)) < (l0.length : Int) then (some (wrap64 (rd l0 (Int.tmod a1 (l0.length : Int))))) else (none)) else (none))
set_option maxHeartbeats 8000000 in
set_option maxRecDepth 100000 in
theorem laws_take.calls (A0 : Option Addr) (c0 : Nat) (l0 : List Int) (a1 : Int) (r : Int) (w : World) (hr0 : Kd.C (Kd.int .u8) w A0 l0.length l0) (hc0 : l0.length ≤ c0) (h : laws_take.f l0 a1 = some r) :
    Calls Try.prog 52 #[.slice A0 l0.length c0, .int .i64 a1] w fun e w' => e = .returned (.int .i64 r) ∧ Drawn0 w w' := by
  have HR0 := Aside0.mk hr0
  have HC0 := Aside0.mk hc0
  clear hr0 hc0
  have H : (if (l0.length : Int) = 0 then (some 0) else (if 0 ≤ (Int.tmod a1 (l0.length : Int)) then (if (Int.tmod a1 (l0.length : Int)) < (l0.length : Int) then (some (wrap64 (rd l0 (Int.tmod a1 (l0.length : Int))))) else (none)) else (none))) = some r := h
  clear h
  by_cases c3 : (l0.length : Int) = 0
  · rw [if_pos c3] at H
    have c3b0 : ((l0.length : Int) == 0) = true := beq_iff_eq.mpr c3
    have c3b1 : ((l0.length : Int) != 0) = false := bne_eq_false_iff_eq.mpr c3
    clear c3
    obtain rfl := Option.some.inj H
    go_enter Try.func52, Try.ntmps52
    go_wp2
    go_ret
    exact ⟨by first | rfl | (simp; done) | (simp [*]; done), by repeat (first | exact Drawn0.refl _ | apply Drawn0.step)⟩
  · rw [if_neg c3] at H
    have c3b0 : ((l0.length : Int) == 0) = false := beq_eq_false_iff_ne.mpr c3
    have c3b1 : ((l0.length : Int) != 0) = true := bne_iff_ne.mpr c3
    have c3b2 : ¬ (l0 = []) := fun h_ => c3 (by rw [h_]; rfl)
    obtain ⟨ji4, hji4⟩ : ∃ j_ : Int, (Int.tmod a1 (l0.length : Int)) = j_ := ⟨_, rfl⟩
    replace H : (if 0 ≤ (ji4) then (if (ji4) < (l0.length : Int) then (some (wrap64 (rd l0 (ji4)))) else (none)) else (none)) = some r := by first | (rw [hji4] at H; exact H) | (simp only [hji4] at H ⊢; exact H)
    by_cases c5 : 0 ≤ (ji4)
    · rw [if_pos c5] at H
      have c5b0 : decide (0 ≤ (ji4)) = true := decide_eq_true c5
      clear c5
      by_cases c6 : (ji4) < (l0.length : Int)
      · rw [if_pos c6] at H
        have c6b0 : decide ((ji4) < (l0.length : Int)) = true := decide_eq_true c6
        clear c6
        obtain rfl := Option.some.inj H
        have p1296 : 0 ≤ ((ji4) : Int) := of_decide_eq_true (by first | (with_reducible assumption) | assumption)
        have q1296 : (ji4) < (l0.length : Int) := of_decide_eq_true (by first | (with_reducible assumption) | assumption)
        obtain ⟨ad1296, e1296, hx1296_0⟩ := Kd.at_int HR0.out (ji4) p1296 q1296
        cases e1296
        replace p1296 := eq_true p1296
        replace q1296 := eq_true q1296
        go_enter Try.func52, Try.ntmps52
        go_wp2
        go_ret
        exact ⟨by first | rfl | (simp; done) | (simp only [← hji4] <;> (first | rfl | simp)) | (simp [*]; done), by repeat (first | exact Drawn0.refl _ | apply Drawn0.step)⟩
      · rw [if_neg c6] at H
        exact absurd H (by simp)
    · rw [if_neg c5] at H
      exact absurd H (by simp)

end Go.Proofs.Ytbapokpkgonjkaa.Print

/- Small helpers for the law FnDisk: rows that are appended to, a box that is stored into, a disk that was drawn. -/
namespace Go.Proofs.Ytbapokpkgonjkaa.Print
open Go.RowKit Go.Proofs.YtbapokpkgonjkaaW.PrintWords Go.Proofs.YtbapokpkgonjkaaW.PrintLast Go.Proofs.YtbapokpkgonjkaaW.PrintMore
set_option linter.unusedVariables false
set_option linter.unusedSimpArgs false
section
variable {P : Program} {ops : Array Oper} {rest : List Oper} {o : Oper} {a : Act} {Q : Exit → Act → World → Prop}
theorem BK.nil (w0 W : World) (n : Nat) : BK w0 W n n none 0 [] :=
  ⟨Kd.R_nil _ _ _ _ _, fun k hk => by simp [OB, Value.ownBlock] at hk⟩
/-- append(v, x...) on a row that is owned. -/
theorem bk_append {P : Program} {w0 W : World} {lo hi : Nat} (hgd : o.guard = none) (s x : Operand) (t : TypeId) (ho : o.op = .call { callee := .builtin .append, args := #[s, x], argTypes := #[t, t] })
    (ht : P.underlying t = some (.slice 5)) (hinfo : (P.info? 5).map (fun i => (i.zero, i.size, i.bytes)) = some (some (.int .u8 0), 1, 1))
    (A : Option Addr) (c : Nat) (l : List Int) (hs : a.eval s = .slice A l.length c) (B : Option Addr) (cb : Nat) (ys : List Int) (hx : a.eval x = .slice B ys.length cb)
    (hB : Below w0.heap.size w0 W) (hd : BK w0 W lo hi A c l) (hlo : w0.heap.size ≤ lo) (hlh : lo ≤ W.heap.size) (hhi : hi ≤ W.heap.size) (HR : Kd.C (Kd.int .u8) W B ys.length ys) (hl : l.length + ys.length ≤ 140737488355328)
    (h : ∀ A1 c1 w1 l1, l1 = l ++ ys → BK w0 w1 lo w1.heap.size A1 c1 l1 → Below w0.heap.size w0 w1 → Kept W w1 (fun k => lo ≤ k ∧ k < hi) → wpList P ops Q rest (a.put o.dst (.slice A1 l1.length c1)) w1) : wpList P ops Q (o :: rest) a W := by
  refine Kd.R_append_rows (Kd.int .u8) (w0 := w0) w0.heap.size hgd s x t 5 (.int .u8 0) 1 ho ht hinfo rfl (by decide) (by omega) (.slice A l.length c) l ys B _ cb (fun k => OB A l.length c k ∨ W.heap.size ≤ k) (fun _ => False) hs hx (Kd.R_mono hd.r (fun k hk => .inl hk)) HR (fun _ _ h => h) (fun _ h => h.elim) (fun k hk => .inr hk) hB hB.size (by omega) ?_
  intro v1 w1 hr hb hg hat
  obtain ⟨A1, c1, rfl⟩ := Kd.R_slice hr
  have hown : ∀ k, OB A1 (l ++ ys).length c1 k → OB A l.length c k ∨ W.heap.size ≤ k := fun k hk => hr.1 k hk.symm
  refine h A1 c1 w1 _ rfl ⟨Kd.R_tight rfl hr, fun k hk => ?_⟩ hb ⟨hg.size, fun i hi' hn => hg.block i hi' (fun e => hn (hd.b i (by rw [OB]; exact e)))⟩
  have hlt : k < w1.heap.size := Kd.R_lt hr k hk.symm
  rcases hown k hk with h1 | h1
  · exact ⟨(hd.b k h1).1, hlt⟩
  · exact ⟨Nat.le_trans hlh h1, hlt⟩
variable {Kc : Act → World → Prop}
/-- The same, within a region that draws its order. -/
theorem bk_append_step {P : Program} {w0 W : World} {lo hi : Nat} (hw : Region.wanted o (yielded ops a.tmps) = true) (s x : Operand) (t : TypeId) (ho : o.op = .call { callee := .builtin .append, args := #[s, x], argTypes := #[t, t] })
    (ht : P.underlying t = some (.slice 5)) (hinfo : (P.info? 5).map (fun i => (i.zero, i.size, i.bytes)) = some (some (.int .u8 0), 1, 1))
    (A : Option Addr) (c : Nat) (l : List Int) (hs : a.eval s = .slice A l.length c) (B : Option Addr) (cb : Nat) (ys : List Int) (hx : a.eval x = .slice B ys.length cb)
    (hB : Below w0.heap.size w0 W) (hd : BK w0 W lo hi A c l) (hlo : w0.heap.size ≤ lo) (hlh : lo ≤ W.heap.size) (hhi : hi ≤ W.heap.size) (HR : Kd.C (Kd.int .u8) W B ys.length ys) (hl : l.length + ys.length ≤ 140737488355328)
    (h : ∀ A1 c1 w1 l1, l1 = l ++ ys → BK w0 w1 lo w1.heap.size A1 c1 l1 → Below w0.heap.size w0 w1 → Kept W w1 (fun k => lo ≤ k ∧ k < hi) → Kc (a.put o.dst (.slice A1 l1.length c1)) w1) :
    if Region.wanted o (yielded ops a.tmps) = true then Oper.wp P o a W Kc Q else Kc (a.put o.dst undef) W := by
  refine Kd.R_append_rows_step (Kd.int .u8) (w0 := w0) w0.heap.size hw s x t 5 (.int .u8 0) 1 ho ht hinfo rfl (by decide) (by omega) (.slice A l.length c) l ys B _ cb (fun k => OB A l.length c k ∨ W.heap.size ≤ k) (fun _ => False) hs hx (Kd.R_mono hd.r (fun k hk => .inl hk)) HR (fun _ _ h => h) (fun _ h => h.elim) (fun k hk => .inr hk) hB hB.size (by omega) ?_
  intro v1 w1 hr hb hg hat
  obtain ⟨A1, c1, rfl⟩ := Kd.R_slice hr
  have hown : ∀ k, OB A1 (l ++ ys).length c1 k → OB A l.length c k ∨ W.heap.size ≤ k := fun k hk => hr.1 k hk.symm
  refine h A1 c1 w1 _ rfl ⟨Kd.R_tight rfl hr, fun k hk => ?_⟩ hb ⟨hg.size, fun i hi' hn => hg.block i hi' (fun e => hn (hd.b i (by rw [OB]; exact e)))⟩
  have hlt : k < w1.heap.size := Kd.R_lt hr k hk.symm
  rcases hown k hk with h1 | h1
  · exact ⟨(hd.b k h1).1, hlt⟩
  · exact ⟨Nat.le_trans hlh h1, hlt⟩
end
/-- A literal of one byte. -/
theorem bk_lit1 {w0 W : World} (x : Int) (h : w0.heap.size ≤ W.heap.size) : BK w0 (W.alloc (.cells #[.int .u8 x] 5)) W.heap.size (W.heap.size + 1) (some ⟨W.heap.size, 0, none⟩) 1 [x] := by
  refine ⟨⟨fun k hk => hk.symm, [.int .u8 x], ?_, ?_⟩, fun k hk => ?_⟩
  · have h2 := World.ownsRow_lit (base := w0.heap.size) (e := 5) (size := 1) W #[.int .u8 x] 1 h (by decide) rfl
    exact h2
  · exact Reps.one (show Kd.M (Kd.int .u8) _ _ _ x [.int .u8 x] from rfl) (Reps.none _ _)
  · have : k = W.heap.size := by simpa [OB, Value.ownBlock] using hk
    omega
/-- A box of six cells is stored into, cell by cell. -/
abbrev put6 (w : World) (g : Nat) (a b c d e f : Value) : World := (((((w.setCell ⟨g, 0, none⟩ a).setCell ⟨g, 1, none⟩ b).setCell ⟨g, 2, none⟩ c).setCell ⟨g, 3, none⟩ d).setCell ⟨g, 4, none⟩ e).setCell ⟨g, 5, none⟩ f
theorem put6_blk {w : World} {g t : Nat} {a b c d e f a' b' c' d' e' f' : Value} (h : w.heap[g]? = some (.cells #[a, b, c, d, e, f] t (0, 0))) : (put6 w g a' b' c' d' e' f').heap[g]? = some (.cells #[a', b', c', d', e', f'] t (0, 0)) := by
  refine blk_put (cs := #[a', b', c', d', e', f]) ?_ 5 _ rfl
  refine blk_put (cs := #[a', b', c', d', e, f]) ?_ 4 _ rfl
  refine blk_put (cs := #[a', b', c', d, e, f]) ?_ 3 _ rfl
  refine blk_put (cs := #[a', b', c, d, e, f]) ?_ 2 _ rfl
  refine blk_put (cs := #[a', b, c, d, e, f]) ?_ 1 _ rfl
  refine blk_put (cs := #[a, b, c, d, e, f]) ?_ 0 _ rfl
  exact h
theorem put6_kept (w : World) (g : Nat) (a b c d e f : Value) : Kept w (put6 w g a b c d e f) (fun k => k = g) := by
  refine ⟨by simp [put6], fun i hi hn => ?_⟩
  unfold put6
  rw [Below.heap_setCell _ _ _ i hn, Below.heap_setCell _ _ _ i hn, Below.heap_setCell _ _ _ i hn, Below.heap_setCell _ _ _ i hn, Below.heap_setCell _ _ _ i hn, Below.heap_setCell _ _ _ i hn]
theorem put6_below {w0 w : World} {g : Nat} {a b c d e f : Value} (h : Below w0.heap.size w0 w) (hg : w0.heap.size ≤ g) : Below w0.heap.size w0 (put6 w g a b c d e f) :=
  below_set (below_set (below_set (below_set (below_set (below_set h hg) hg) hg) hg) hg) hg
theorem put6_size (w : World) (g : Nat) (a b c d e f : Value) : (put6 w g a b c d e f).heap.size = w.heap.size := by simp [put6]
/-- A drawn disk, and the bytes beside it. -/
theorem DK.ofDraw {w0 w W : World} {l0 l2 l4 b : List Int} {v0 v2 v4 v7 : Value} (h0 : Kd.R (Kd.int .u8) 5 W w.heap.size (fun k_ => some k_ ≠ (v2 : Value).ownBlock ∧ some k_ ≠ (v4 : Value).ownBlock ∧ some k_ ≠ (v7 : Value).ownBlock) v0 l0) (h2 : Kd.R (Kd.int .u8) 5 W w.heap.size (fun k_ => some k_ ≠ (v0 : Value).ownBlock ∧ some k_ ≠ (v4 : Value).ownBlock ∧ some k_ ≠ (v7 : Value).ownBlock) v2 l2) (h4 : Kd.R (Kd.int .u8) 5 W w.heap.size (fun k_ => some k_ ≠ (v0 : Value).ownBlock ∧ some k_ ≠ (v2 : Value).ownBlock ∧ some k_ ≠ (v7 : Value).ownBlock) v4 l4) (h7 : Kd.R (Kd.int .u8) 5 W w.heap.size (fun k_ => some k_ ≠ (v0 : Value).ownBlock ∧ some k_ ≠ (v2 : Value).ownBlock ∧ some k_ ≠ (v4 : Value).ownBlock) v7 b) (hB : Below w0.heap.size w0 w) :
    ∃ A0 c0 A2 c2 A4 c4 Ab cb, v0 = .slice A0 l0.length c0 ∧ v2 = .slice A2 l2.length c2 ∧ v4 = .slice A4 l4.length c4 ∧ v7 = .slice Ab b.length cb ∧ DK w0 W w.heap.size W.heap.size A0 c0 l0 A2 c2 l2 A4 c4 l4 ∧ BK w0 W w.heap.size W.heap.size Ab cb b := by
  obtain ⟨A0, c0, A2, c2, A4, c4, e0, e2, e4, hd⟩ := DK.of (Kd.R_mono h0 (fun k hk => ⟨hk.1, hk.2.1⟩)) (Kd.R_mono h2 (fun k hk => ⟨hk.1, hk.2.1⟩)) (Kd.R_mono h4 (fun k hk => ⟨hk.1, hk.2.1⟩)) hB
  obtain ⟨Ab, cb, rfl⟩ := Kd.R_slice h7
  exact ⟨A0, c0, A2, c2, A4, c4, Ab, cb, e0, e2, e4, rfl, hd, BK.of h7 hB⟩
/-- One file's bytes: the disk's own. -/
def pickL (l0 l2 l4 : List Int) (n : Int) : List Int := if n = 0 then l0 else if n = 1 then l2 else l4
set_option maxHeartbeats 2000000 in
set_option maxRecDepth 100000 in
theorem pick_calls0 (V0 V2 V4 : Value) (a1 a3 a5 : Int) (w : World) :
    Calls Try.prog 54 #[.agg #[V0, .int .i64 a1, V2, .int .i64 a3, V4, .int .i64 a5], .int .i64 0] w fun e w' => e = .returned V0 ∧ Below w.heap.size w w' := by
  go_enter Try.func54, Try.ntmps54
  go_wp2_with fail
  go_ret
  exact ⟨rfl, by repeat (first | exact Below.refl _ _ | apply below_alloc)⟩
set_option maxHeartbeats 2000000 in
set_option maxRecDepth 100000 in
theorem pick_calls1 (V0 V2 V4 : Value) (a1 a3 a5 : Int) (w : World) :
    Calls Try.prog 54 #[.agg #[V0, .int .i64 a1, V2, .int .i64 a3, V4, .int .i64 a5], .int .i64 1] w fun e w' => e = .returned V2 ∧ Below w.heap.size w w' := by
  go_enter Try.func54, Try.ntmps54
  go_wp2_with fail
  go_ret
  exact ⟨rfl, by repeat (first | exact Below.refl _ _ | apply below_alloc)⟩
set_option maxHeartbeats 2000000 in
set_option maxRecDepth 100000 in
theorem pick_calls2 (V0 V2 V4 : Value) (a1 a3 a5 : Int) (w : World) :
    Calls Try.prog 54 #[.agg #[V0, .int .i64 a1, V2, .int .i64 a3, V4, .int .i64 a5], .int .i64 2] w fun e w' => e = .returned V4 ∧ Below w.heap.size w w' := by
  go_enter Try.func54, Try.ntmps54
  go_wp2_with fail
  go_ret
  exact ⟨rfl, by repeat (first | exact Below.refl _ _ | apply below_alloc)⟩
theorem sameB_l0_self (l : List Int) (hl : l.length ≤ 2097152) : ∀ (d k : Nat) (i : Nat), i + d = l.length → d < k → laws_sameB.l0 k l l (i : Int) = some true := by
  intro d
  induction d with
  | zero =>
    intro k i hi hk
    obtain ⟨k, rfl⟩ : ∃ m, k = m + 1 := ⟨k - 1, by omega⟩
    simp only [laws_sameB.l0]
    rw [if_neg (by omega)]
  | succ d ih =>
    intro k i hi hk
    obtain ⟨k, rfl⟩ : ∃ m, k = m + 1 := ⟨k - 1, by omega⟩
    simp only [laws_sameB.l0]
    rw [if_pos (by omega), if_pos (by omega), if_pos (by omega), if_true]
    have e : wrap64 ((i : Int) + 1) = ((i + 1 : Nat) : Int) := by unfold wrap64; omega
    rw [e]
    exact ih k (i + 1) (by omega) (by omega)
theorem sameB_f (l : List Int) (hl : l.length ≤ 2097152) (k : Nat) (hk : 2097152 < k) : laws_sameB.f k l l = some true := by
  unfold laws_sameB.f
  rw [if_pos rfl]
  exact sameB_l0_self l hl l.length k 0 (by omega) (by omega)
theorem sameB_calls (A : Option Addr) (c : Nat) (B : Option Addr) (d : Nat) (l : List Int) (w : World) (hA : Kd.C (Kd.int .u8) w A l.length l) (hc : l.length ≤ c) (hB : Kd.C (Kd.int .u8) w B l.length l) (hd : l.length ≤ d) (hl : l.length ≤ 2097152) :
    Calls Try.prog 53 #[.slice A l.length c, .slice B l.length d] w fun e w' => e = .returned (.bool true) ∧ Below w.heap.size w w' := by
  refine (laws_sameB.calls 3000000 A c l B d l true w hA hc hB hd (sameB_f l hl _ (by omega))).mono ?_
  rintro e w' ⟨rfl, hb⟩
  exact ⟨rfl, hb.below⟩
theorem take_f (l : List Int) (hb : Bytes l) : ∃ t : Int, (0 ≤ t ∧ t < 256) ∧ laws_take.f l 0 = some t := by
  unfold laws_take.f
  by_cases e : (l.length : Int) = 0
  · rw [if_pos e]
    exact ⟨0, ⟨by omega, by omega⟩, rfl⟩
  · have e0 : Int.tmod 0 (l.length : Int) = 0 := Int.zero_tmod _
    rw [if_neg e, e0, if_pos (by omega), if_pos (by omega)]
    have r := rd_range hb 0 (by omega) (by omega)
    have e1 : wrap64 (rd l 0) = rd l 0 := by unfold wrap64; omega
    rw [e1]
    exact ⟨_, r, rfl⟩
theorem take_calls (A : Option Addr) (c : Nat) (l : List Int) (t : Int) (w : World) (hA : Kd.C (Kd.int .u8) w A l.length l) (hc : l.length ≤ c) (hf : laws_take.f l 0 = some t) :
    Calls Try.prog 52 #[.slice A l.length c, .int .i64 0] w fun e w' => e = .returned (.int .i64 t) ∧ Below w.heap.size w w' := by
  refine (laws_take.calls A c l 0 t w hA hc hf).mono ?_
  rintro e w' ⟨rfl, hb⟩
  exact ⟨rfl, hb.below⟩
end Go.Proofs.Ytbapokpkgonjkaa.Print
