/- DiskCrash, DiskRename. -/
import Derived.Test.YtbapokpkgonjkaaPrint0
import Derived.Test.YtbapokpkgonjkaaHDiskA
import Derived.Test.YtbapokpkgonjkaaHDiskC
import Derived.Test.YtbapokpkgonjkaaHDiskD
namespace Go.Proofs.Ytbapokpkgonjkaa.Print
open Go.RowKit Go.Proofs.YtbapokpkgonjkaaW.PrintWords Go.Proofs.YtbapokpkgonjkaaW.PrintLast Go.Proofs.YtbapokpkgonjkaaW.PrintMore
set_option linter.unusedVariables false
set_option linter.unusedSimpArgs false

def okDisk (l0_0 : List Int) (a0_1 : Int) (l0_2 : List Int) (a0_3 : Int) (l0_4 : List Int) (a0_5 : Int) : Bool := okFile l0_0.length a0_1 && (okFile l0_2.length a0_3 && okFile l0_4.length a0_5)
theorem okFile_iff {n : Nat} {s : Int} (h : okFile n s = true) : n ≤ 200000 ∧ 0 ≤ s ∧ s ≤ (n : Int) := by
  unfold okFile at h
  simp at h
  omega
theorem okDisk_iff {l0 l2 l4 : List Int} {a1 a3 a5 : Int} (h : okDisk l0 a1 l2 a3 l4 a5 = true) : (l0.length ≤ 200000 ∧ 0 ≤ a1 ∧ a1 ≤ (l0.length : Int)) ∧ (l2.length ≤ 200000 ∧ 0 ≤ a3 ∧ a3 ≤ (l2.length : Int)) ∧ (l4.length ≤ 200000 ∧ 0 ≤ a5 ∧ a5 ≤ (l4.length : Int)) := by
  unfold okDisk at h
  simp only [Bool.and_eq_true] at h
  exact ⟨okFile_iff h.1, okFile_iff h.2.1, okFile_iff h.2.2⟩

theorem R_store6 {w : World} {base lo : Nat} {ok ok' : Nat → Prop} {v : Value} {l : List Int} {rb : Nat} {a b c d e f : Value} (h : Kd.R (Kd.int .u8) 5 w base ok v l) (hok : ∀ k, ok k → ok' k) (hb : rb < base) (hl : lo ≤ base) : Kd.R (Kd.int .u8) 5 ((((((w.setCell ⟨rb, 0, none⟩ a).setCell ⟨rb, 1, none⟩ b).setCell ⟨rb, 2, none⟩ c).setCell ⟨rb, 3, none⟩ d).setCell ⟨rb, 4, none⟩ e).setCell ⟨rb, 5, none⟩ f) lo ok' v l :=
  Kd.R_mono (Kd.R_lower (R_store (R_store (R_store (R_store (R_store (R_store h _ _ _ hb) _ _ _ hb) _ _ _ hb) _ _ _ hb) _ _ _ hb) _ _ _ hb) hl) hok
theorem below_store6 {B : Nat} {w0 w : World} {rb : Nat} {a b c d e f : Value} (h : Below B w0 w) (hb : B ≤ rb) : Below B w0 ((((((w.setCell ⟨rb, 0, none⟩ a).setCell ⟨rb, 1, none⟩ b).setCell ⟨rb, 2, none⟩ c).setCell ⟨rb, 3, none⟩ d).setCell ⟨rb, 4, none⟩ e).setCell ⟨rb, 5, none⟩ f) :=
  (((((h.setCell hb _).setCell hb _).setCell hb _).setCell hb _).setCell hb _).setCell hb _
theorem ownB {A : Option Addr} {n m c : Nat} : (Value.slice A n c).ownBlock = (Value.slice A m c).ownBlock := by cases A <;> rfl
theorem kept_le {n : Nat} {s keep : Int} (hs : 0 ≤ s) (hsn : s ≤ (n : Int)) (hk : 0 ≤ keep) : 0 ≤ keptLen n s keep ∧ keptLen n s keep ≤ (n : Int) := by
  unfold keptLen mn
  split <;> omega

def impl_DiskCrash.f (l0_0 : List Int) (a0_1 : Int) (l0_2 : List Int) (a0_3 : Int) (l0_4 : List Int) (a0_5 : Int) (a1 : Int) : Option (List Int × Int × List Int × Int × List Int × Int × Int) :=
  if okDisk l0_0 a0_1 l0_2 a0_3 l0_4 a0_5 = true ∧ 0 ≤ a1 then some (l0_0.take (keptLen l0_0.length a0_1 a1).toNat, keptLen l0_0.length a0_1 a1, l0_2.take (keptLen l0_2.length a0_3 a1).toNat, keptLen l0_2.length a0_3 a1, l0_4.take (keptLen l0_4.length a0_5 a1).toNat, keptLen l0_4.length a0_5 a1, 0)
  else some ([], 0, [], 0, [], 0, 1)

set_option maxHeartbeats 400000 in
set_option maxRecDepth 100000 in
theorem impl_DiskCrash.calls (A0_0 : Option Addr) (c0_0 : Nat) (l0_0 : List Int) (a0_1 : Int) (A0_2 : Option Addr) (c0_2 : Nat) (l0_2 : List Int) (a0_3 : Int) (A0_4 : Option Addr) (c0_4 : Nat) (l0_4 : List Int) (a0_5 : Int) (a1 : Int) (r1 : List Int) (r2 : Int) (r3 : List Int) (r4 : Int) (r5 : List Int) (r6 : Int) (r7 : Int) (w : World) (hr0_0 : Kd.C (Kd.int .u8) w A0_0 l0_0.length l0_0) (hc0_0 : l0_0.length ≤ c0_0) (hr0_2 : Kd.C (Kd.int .u8) w A0_2 l0_2.length l0_2) (hc0_2 : l0_2.length ≤ c0_2) (hr0_4 : Kd.C (Kd.int .u8) w A0_4 l0_4.length l0_4) (hc0_4 : l0_4.length ≤ c0_4) (h : impl_DiskCrash.f l0_0 a0_1 l0_2 a0_3 l0_4 a0_5 a1 = some (r1, r2, r3, r4, r5, r6, r7)) :
    Calls Try.prog 40 #[.agg #[.slice A0_0 l0_0.length c0_0, .int .i64 a0_1, .slice A0_2 l0_2.length c0_2, .int .i64 a0_3, .slice A0_4 l0_4.length c0_4, .int .i64 a0_5], .int .i64 a1] w fun e w' => ∃ v0_ v2_ v4_ : Value, e = .returned (.tuple #[.agg #[v0_, .int .i64 r2, v2_, .int .i64 r4, v4_, .int .i64 r6], .int .i64 r7]) ∧ Kd.R (Kd.int .u8) 5 w' w.heap.size (fun k_ => some k_ ≠ (v2_ : Value).ownBlock ∧ some k_ ≠ (v4_ : Value).ownBlock) v0_ r1 ∧ Kd.R (Kd.int .u8) 5 w' w.heap.size (fun k_ => some k_ ≠ (v0_ : Value).ownBlock ∧ some k_ ≠ (v4_ : Value).ownBlock) v2_ r3 ∧ Kd.R (Kd.int .u8) 5 w' w.heap.size (fun k_ => some k_ ≠ (v0_ : Value).ownBlock ∧ some k_ ≠ (v2_ : Value).ownBlock) v4_ r5 ∧ Below w.heap.size w w' := by
  have HR0 := Aside0.mk hr0_0
  have HR2 := Aside0.mk hr0_2
  have HR4 := Aside0.mk hr0_4
  clear hr0_0 hr0_2 hr0_4
  rcases hv : okDisk l0_0 a0_1 l0_2 a0_3 l0_4 a0_5 with _ | _
  · have h' : impl_DiskCrash.f l0_0 a0_1 l0_2 a0_3 l0_4 a0_5 a1 = some ([], 0, [], 0, [], 0, 1) := if_neg (fun c => by rw [hv] at c; exact absurd c.1 (by decide))
    rw [h'] at h
    simp only [Option.some.injEq, Prod.mk.injEq] at h
    obtain ⟨rfl, rfl, rfl, rfl, rfl, rfl, rfl⟩ := h
    have HV := Aside0.mk hv
    clear h' hv
    go_enter Try.func40, Try.ntmps40
    go_wp2_with fail
    refine (validDisk_any _ _ _ _ _ _ _ _ _ _ _ _ _).mono ?_
    rintro e w1 ⟨rfl, hb⟩
    have hvv : (okFile l0_0.length a0_1 && (okFile l0_2.length a0_3 && okFile l0_4.length a0_5)) = false := HV.out
    rw [hvv]
    clear hvv
    have hB1 : Below w.heap.size w w1 := below_then (by repeat (first | exact Below.refl _ _ | apply below_alloc)) (by simp; omega) hb
    have hz1 : w.heap.size + 1 < w1.heap.size := by have := hb.size; simp at this; omega
    have hy1 : w.heap.size < w1.heap.size := by omega
    obtain ⟨hc1, hf1⟩ := bcell hb
    have HB1 := Aside0.mk hB1
    clear hB1 hb
    go_wp2_with fail
    refine bodyPost_ret (v := .tuple #[.agg #[.slice none 0 0, .int .i64 0, .slice none 0 0, .int .i64 0, .slice none 0 0, .int .i64 0], .int .i64 1]) ?_ rfl ?_
    · simp [results, Try.results40, go_sem, hc1, hy1, hz1]
    · exact ⟨_, _, _, rfl, Kd.R_nil _ _ _ _ _, Kd.R_nil _ _ _ _ _, Kd.R_nil _ _ _ _ _, below_store6 HB1.out (by omega)⟩
  · by_cases hk : 0 ≤ a1
    · obtain ⟨⟨x0, x1, x2⟩, ⟨y0, y1, y2⟩, ⟨z0, z1, z2⟩⟩ := okDisk_iff hv
      have h' : impl_DiskCrash.f l0_0 a0_1 l0_2 a0_3 l0_4 a0_5 a1 = _ := if_pos ⟨hv, hk⟩
      rw [h'] at h
      simp only [Option.some.injEq, Prod.mk.injEq] at h
      obtain ⟨rfl, rfl, rfl, rfl, rfl, rfl, rfl⟩ := h
      have HV := Aside0.mk hv
      clear h' hv
      have hneg : decide (a1 < 0) = false := by simp; omega
      go_enter Try.func40, Try.ntmps40
      go_wp2_with fail
      refine (validDisk_any _ _ _ _ _ _ _ _ _ _ _ _ _).mono ?_
      rintro e w1 ⟨rfl, hb⟩
      have hvv : (okFile l0_0.length a0_1 && (okFile l0_2.length a0_3 && okFile l0_4.length a0_5)) = true := HV.out
      rw [hvv]
      clear hvv
      have hB1 : Below w.heap.size w w1 := below_then (below_alloc (below_alloc (Below.refl _ _) _) _) (by simp; omega) hb
      have hz1 : w.heap.size + 1 < w1.heap.size := by have := hb.size; simp at this; omega
      have hy1 : w.heap.size < w1.heap.size := by omega
      obtain ⟨hc1, hf1⟩ := bcell hb
      have HB1 := Aside0.mk hB1
      clear hB1 hb
      go_wp2_with fail
      refine (driveOf_any A0_0 A0_2 A0_4 c0_0 c0_2 c0_4 l0_0 l0_2 l0_4 a0_1 a0_3 a0_5 w1 (Kd.C_below HR0.out HB1.out) hc0_0 (Kd.C_below HR2.out HB1.out) hc0_2 (Kd.C_below HR4.out HB1.out) hc0_4 x0 y0 z0).mono ?_
      rintro e w2 ⟨v0, v2, v4, rfl, ho0, ho2, ho4, hb⟩
      obtain ⟨B0, d0, rfl, hd0, _⟩ := Kd.R_reads ho0
      obtain ⟨B2, d2, rfl, hd2, _⟩ := Kd.R_reads ho2
      obtain ⟨B4, d4, rfl, hd4, _⟩ := Kd.R_reads ho4
      have hB2 : Below w.heap.size w w2 := below_then HB1.out (by omega) hb
      have hz2 : w.heap.size + 1 < w2.heap.size := by have := hb.size; omega
      have hy2 : w.heap.size < w2.heap.size := by omega
      obtain ⟨hc2, hf2⟩ := bcell hb
      have HB2 := Aside0.mk hB2
      have HO0 := Aside0.mk ho0
      have HO2 := Aside0.mk ho2
      have HO4 := Aside0.mk ho4
      clear hB2 hb ho0 ho2 ho4
      go_wp2_with fail
      refine (drive_crash w2.heap.size 75 B0 B2 B4 l0_0.length d0 l0_2.length d2 l0_4.length d4 a0_1 a0_3 a0_5 a1 _ (blk_new w2 _) x0 x1 x2 hd0 y0 y1 y2 hd2 z0 z1 z2 hd4 hk).mono ?_
      rintro e w3 ⟨rfl, hB3, hb3⟩
      have hb : Below w2.heap.size w2 w3 := (below_alloc (Below.refl _ _) _).trans hB3
      have hB3' : Below w.heap.size w w3 := below_then HB2.out (by omega) hb
      have hz3 : w.heap.size + 1 < w3.heap.size := by have := hb.size; omega
      have hy3 : w.heap.size < w3.heap.size := by omega
      obtain ⟨hc3, hf3⟩ := bcell hb
      have k0 := blk_cell hb3 0
      have k1 := blk_cell hb3 1
      have k2 := blk_cell hb3 2
      have k3 := blk_cell hb3 3
      have k4 := blk_cell hb3 4
      have k5 := blk_cell hb3 5
      simp at k0 k1 k2 k3 k4 k5
      have HB3 := Aside0.mk hB3'
      have HO0' := Aside0.mk (Kd.R_below HO0.out hb)
      have HO2' := Aside0.mk (Kd.R_below HO2.out hb)
      have HO4' := Aside0.mk (Kd.R_below HO4.out hb)
      clear hB3 hb3 hb hB3' HO0 HO2 HO4
      go_wp2_with fail
      refine (drive_disk _ _ _ _ _ _ _ _ _ _ _ _ _).mono ?_
      rintro e w4 ⟨rfl, hb⟩
      have hB4 : Below w.heap.size w w4 := below_then HB3.out (by omega) hb
      have hz4 : w.heap.size + 1 < w4.heap.size := by have := hb.size; omega
      have hy4 : w.heap.size < w4.heap.size := by omega
      obtain ⟨hc4, hf4⟩ := bcell hb
      have HB4 := Aside0.mk hB4
      have HO0 := Aside0.mk (Kd.R_below HO0'.out hb)
      have HO2 := Aside0.mk (Kd.R_below HO2'.out hb)
      have HO4 := Aside0.mk (Kd.R_below HO4'.out hb)
      clear hB4 hb HO0' HO2' HO4' k0 k1 k2 k3 k4 k5
      go_wp2_with fail
      obtain ⟨p0, p1⟩ := kept_le x1 x2 hk
      obtain ⟨q0, q1⟩ := kept_le y1 y2 hk
      obtain ⟨u0, u1⟩ := kept_le z1 z2 hk
      refine bodyPost_ret (v := .tuple #[.agg #[.slice B0 (keptLen l0_0.length a0_1 a1).toNat d0, .int .i64 (keptLen l0_0.length a0_1 a1), .slice B2 (keptLen l0_2.length a0_3 a1).toNat d2, .int .i64 (keptLen l0_2.length a0_3 a1), .slice B4 (keptLen l0_4.length a0_5 a1).toNat d4, .int .i64 (keptLen l0_4.length a0_5 a1)], .int .i64 0]) ?_ rfl ?_
      · simp [results, Try.results40, go_sem, hc4, hc3, hc2, hc1, hy1, hz1, hy2, hz2, hy3, hz3, hy4, hz4]
      · refine ⟨_, _, _, rfl, ?_, ?_, ?_, ?_⟩
        · exact R_store6 (Kd.R_take HO0.out (by omega)) (fun k hk => ⟨fun e => hk.1 (e.trans ownB), fun e => hk.2 (e.trans ownB)⟩) hz1 (by omega)
        · exact R_store6 (Kd.R_take HO2.out (by omega)) (fun k hk => ⟨fun e => hk.1 (e.trans ownB), fun e => hk.2 (e.trans ownB)⟩) hz1 (by omega)
        · exact R_store6 (Kd.R_take HO4.out (by omega)) (fun k hk => ⟨fun e => hk.1 (e.trans ownB), fun e => hk.2 (e.trans ownB)⟩) hz1 (by omega)
        · exact below_store6 HB4.out (by omega)
    · have h' : impl_DiskCrash.f l0_0 a0_1 l0_2 a0_3 l0_4 a0_5 a1 = some ([], 0, [], 0, [], 0, 1) := if_neg (fun c => hk c.2)
      rw [h'] at h
      simp only [Option.some.injEq, Prod.mk.injEq] at h
      obtain ⟨rfl, rfl, rfl, rfl, rfl, rfl, rfl⟩ := h
      have HV := Aside0.mk hv
      clear h' hv
      have hneg : decide (a1 < 0) = true := by simp; omega
      go_enter Try.func40, Try.ntmps40
      go_wp2_with fail
      refine (validDisk_any _ _ _ _ _ _ _ _ _ _ _ _ _).mono ?_
      rintro e w1 ⟨rfl, hb⟩
      have hvv : (okFile l0_0.length a0_1 && (okFile l0_2.length a0_3 && okFile l0_4.length a0_5)) = true := HV.out
      rw [hvv]
      clear hvv
      have hB1 : Below w.heap.size w w1 := below_then (by repeat (first | exact Below.refl _ _ | apply below_alloc)) (by simp; omega) hb
      have hz1 : w.heap.size + 1 < w1.heap.size := by have := hb.size; simp at this; omega
      have hy1 : w.heap.size < w1.heap.size := by omega
      obtain ⟨hc1, hf1⟩ := bcell hb
      have HB1 := Aside0.mk hB1
      clear hB1 hb
      go_wp2_with fail
      refine bodyPost_ret (v := .tuple #[.agg #[.slice none 0 0, .int .i64 0, .slice none 0 0, .int .i64 0, .slice none 0 0, .int .i64 0], .int .i64 1]) ?_ rfl ?_
      · simp [results, Try.results40, go_sem, hc1, hy1, hz1]
      · exact ⟨_, _, _, rfl, Kd.R_nil _ _ _ _ _, Kd.R_nil _ _ _ _ _, Kd.R_nil _ _ _ _ _, below_store6 HB1.out (by omega)⟩

def impl_DiskRename.f (l0_0 : List Int) (a0_1 : Int) (l0_2 : List Int) (a0_3 : Int) (l0_4 : List Int) (a0_5 : Int) : Option (List Int × Int × List Int × Int × List Int × Int × Int) :=
  if okDisk l0_0 a0_1 l0_2 a0_3 l0_4 a0_5 = true then some (l0_0, a0_1, l0_4, a0_5, [], 0, 0) else some ([], 0, [], 0, [], 0, 1)

set_option maxHeartbeats 400000 in
set_option maxRecDepth 100000 in
theorem impl_DiskRename.calls (A0_0 : Option Addr) (c0_0 : Nat) (l0_0 : List Int) (a0_1 : Int) (A0_2 : Option Addr) (c0_2 : Nat) (l0_2 : List Int) (a0_3 : Int) (A0_4 : Option Addr) (c0_4 : Nat) (l0_4 : List Int) (a0_5 : Int) (r1 : List Int) (r2 : Int) (r3 : List Int) (r4 : Int) (r5 : List Int) (r6 : Int) (r7 : Int) (w : World) (hr0_0 : Kd.C (Kd.int .u8) w A0_0 l0_0.length l0_0) (hc0_0 : l0_0.length ≤ c0_0) (hr0_2 : Kd.C (Kd.int .u8) w A0_2 l0_2.length l0_2) (hc0_2 : l0_2.length ≤ c0_2) (hr0_4 : Kd.C (Kd.int .u8) w A0_4 l0_4.length l0_4) (hc0_4 : l0_4.length ≤ c0_4) (h : impl_DiskRename.f l0_0 a0_1 l0_2 a0_3 l0_4 a0_5 = some (r1, r2, r3, r4, r5, r6, r7)) :
    Calls Try.prog 44 #[.agg #[.slice A0_0 l0_0.length c0_0, .int .i64 a0_1, .slice A0_2 l0_2.length c0_2, .int .i64 a0_3, .slice A0_4 l0_4.length c0_4, .int .i64 a0_5]] w fun e w' => ∃ v0_ v2_ v4_ : Value, e = .returned (.tuple #[.agg #[v0_, .int .i64 r2, v2_, .int .i64 r4, v4_, .int .i64 r6], .int .i64 r7]) ∧ Kd.R (Kd.int .u8) 5 w' w.heap.size (fun k_ => some k_ ≠ (v2_ : Value).ownBlock ∧ some k_ ≠ (v4_ : Value).ownBlock) v0_ r1 ∧ Kd.R (Kd.int .u8) 5 w' w.heap.size (fun k_ => some k_ ≠ (v0_ : Value).ownBlock ∧ some k_ ≠ (v4_ : Value).ownBlock) v2_ r3 ∧ Kd.R (Kd.int .u8) 5 w' w.heap.size (fun k_ => some k_ ≠ (v0_ : Value).ownBlock ∧ some k_ ≠ (v2_ : Value).ownBlock) v4_ r5 ∧ Below w.heap.size w w' := by
  have HR0 := Aside0.mk hr0_0
  have HR2 := Aside0.mk hr0_2
  have HR4 := Aside0.mk hr0_4
  clear hr0_0 hr0_2 hr0_4
  rcases hv : okDisk l0_0 a0_1 l0_2 a0_3 l0_4 a0_5 with _ | _
  · have h' : impl_DiskRename.f l0_0 a0_1 l0_2 a0_3 l0_4 a0_5 = some ([], 0, [], 0, [], 0, 1) := if_neg (fun c => by rw [hv] at c; exact absurd c (by decide))
    rw [h'] at h
    simp only [Option.some.injEq, Prod.mk.injEq] at h
    obtain ⟨rfl, rfl, rfl, rfl, rfl, rfl, rfl⟩ := h
    have HV := Aside0.mk hv
    clear h' hv
    go_enter Try.func44, Try.ntmps44
    go_wp2_with fail
    refine (validDisk_any _ _ _ _ _ _ _ _ _ _ _ _ _).mono ?_
    rintro e w1 ⟨rfl, hb⟩
    have hvv : (okFile l0_0.length a0_1 && (okFile l0_2.length a0_3 && okFile l0_4.length a0_5)) = false := HV.out
    rw [hvv]
    clear hvv
    have hB1 : Below w.heap.size w w1 := below_then (by repeat (first | exact Below.refl _ _ | apply below_alloc)) (by simp; omega) hb
    have hz1 : w.heap.size + 1 < w1.heap.size := by have := hb.size; simp at this; omega
    have hy1 : w.heap.size < w1.heap.size := by omega
    obtain ⟨hc1, hf1⟩ := bcell hb
    have HB1 := Aside0.mk hB1
    clear hB1 hb
    go_wp2_with fail
    refine bodyPost_ret (v := .tuple #[.agg #[.slice none 0 0, .int .i64 0, .slice none 0 0, .int .i64 0, .slice none 0 0, .int .i64 0], .int .i64 1]) ?_ rfl ?_
    · simp [results, Try.results44, go_sem, hc1, hy1, hz1]
    · exact ⟨_, _, _, rfl, Kd.R_nil _ _ _ _ _, Kd.R_nil _ _ _ _ _, Kd.R_nil _ _ _ _ _, below_store6 HB1.out (by omega)⟩
  · obtain ⟨⟨x0, x1, x2⟩, ⟨y0, y1, y2⟩, ⟨z0, z1, z2⟩⟩ := okDisk_iff hv
    have h' : impl_DiskRename.f l0_0 a0_1 l0_2 a0_3 l0_4 a0_5 = _ := if_pos hv
    rw [h'] at h
    simp only [Option.some.injEq, Prod.mk.injEq] at h
    obtain ⟨rfl, rfl, rfl, rfl, rfl, rfl, rfl⟩ := h
    have HV := Aside0.mk hv
    clear h' hv
    go_enter Try.func44, Try.ntmps44
    go_wp2_with fail
    refine (validDisk_any _ _ _ _ _ _ _ _ _ _ _ _ _).mono ?_
    rintro e w1 ⟨rfl, hb⟩
    have hvv : (okFile l0_0.length a0_1 && (okFile l0_2.length a0_3 && okFile l0_4.length a0_5)) = true := HV.out
    rw [hvv]
    clear hvv
    have hB1 : Below w.heap.size w w1 := below_then (below_alloc (below_alloc (Below.refl _ _) _) _) (by simp; omega) hb
    have hz1 : w.heap.size + 1 < w1.heap.size := by have := hb.size; simp at this; omega
    have hy1 : w.heap.size < w1.heap.size := by omega
    obtain ⟨hc1, hf1⟩ := bcell hb
    have HB1 := Aside0.mk hB1
    clear hB1 hb
    go_wp2_with fail
    refine (driveOf_any A0_0 A0_2 A0_4 c0_0 c0_2 c0_4 l0_0 l0_2 l0_4 a0_1 a0_3 a0_5 w1 (Kd.C_below HR0.out HB1.out) hc0_0 (Kd.C_below HR2.out HB1.out) hc0_2 (Kd.C_below HR4.out HB1.out) hc0_4 x0 y0 z0).mono ?_
    rintro e w2 ⟨v0, v2, v4, rfl, ho0, ho2, ho4, hb⟩
    obtain ⟨B0, d0, rfl, hd0, _⟩ := Kd.R_reads ho0
    obtain ⟨B2, d2, rfl, hd2, _⟩ := Kd.R_reads ho2
    obtain ⟨B4, d4, rfl, hd4, _⟩ := Kd.R_reads ho4
    have hB2 : Below w.heap.size w w2 := below_then HB1.out (by omega) hb
    have hz2 : w.heap.size + 1 < w2.heap.size := by have := hb.size; omega
    have hy2 : w.heap.size < w2.heap.size := by omega
    obtain ⟨hc2, hf2⟩ := bcell hb
    have HB2 := Aside0.mk hB2
    have HO0 := Aside0.mk ho0
    have HO2 := Aside0.mk ho2
    have HO4 := Aside0.mk ho4
    clear hB2 hb ho0 ho2 ho4
    go_wp2_with fail
    refine (drive_rename w2.heap.size 75 B0 B2 B4 l0_0.length d0 l0_2.length d2 l0_4.length d4 a0_1 a0_3 a0_5 _ (blk_new w2 _)).mono ?_
    rintro e w3 ⟨rfl, hB3, hb3⟩
    have hb : Below w2.heap.size w2 w3 := (below_alloc (Below.refl _ _) _).trans hB3
    have hB3' : Below w.heap.size w w3 := below_then HB2.out (by omega) hb
    have hz3 : w.heap.size + 1 < w3.heap.size := by have := hb.size; omega
    have hy3 : w.heap.size < w3.heap.size := by omega
    obtain ⟨hc3, hf3⟩ := bcell hb
    have k0 := blk_cell hb3 0
    have k1 := blk_cell hb3 1
    have k2 := blk_cell hb3 2
    have k3 := blk_cell hb3 3
    have k4 := blk_cell hb3 4
    have k5 := blk_cell hb3 5
    simp at k0 k1 k2 k3 k4 k5
    have HB3 := Aside0.mk hB3'
    have HO0' := Aside0.mk (Kd.R_below HO0.out hb)
    have HO2' := Aside0.mk (Kd.R_below HO2.out hb)
    have HO4' := Aside0.mk (Kd.R_below HO4.out hb)
    clear hB3 hb3 hb hB3' HO0 HO2 HO4
    go_wp2_with fail
    refine (drive_disk _ _ _ _ _ _ _ _ _ _ _ _ _).mono ?_
    rintro e w4 ⟨rfl, hb⟩
    have hB4 : Below w.heap.size w w4 := below_then HB3.out (by omega) hb
    have hz4 : w.heap.size + 1 < w4.heap.size := by have := hb.size; omega
    have hy4 : w.heap.size < w4.heap.size := by omega
    obtain ⟨hc4, hf4⟩ := bcell hb
    have HB4 := Aside0.mk hB4
    have HO0 := Aside0.mk (Kd.R_below HO0'.out hb)
    have HO2 := Aside0.mk (Kd.R_below HO2'.out hb)
    have HO4 := Aside0.mk (Kd.R_below HO4'.out hb)
    clear hB4 hb HO0' HO2' HO4' k0 k1 k2 k3 k4 k5
    go_wp2_with fail
    refine bodyPost_ret (v := .tuple #[.agg #[.slice B0 l0_0.length d0, .int .i64 a0_1, .slice B4 l0_4.length d4, .int .i64 a0_5, .slice none 0 0, .int .i64 0], .int .i64 0]) ?_ rfl ?_
    · simp [results, Try.results44, go_sem, hc4, hc3, hc2, hc1, hy1, hz1, hy2, hz2, hy3, hz3, hy4, hz4]
    · refine ⟨_, _, _, rfl, ?_, ?_, ?_, ?_⟩
      · exact R_store6 HO0.out (fun k hk => ⟨hk.2, fun e => by cases e⟩) hz1 (by omega)
      · exact R_store6 HO4.out (fun k hk => ⟨hk.1, fun e => by cases e⟩) hz1 (by omega)
      · exact Kd.R_nil _ _ _ _ _
      · exact below_store6 HB4.out (by omega)

end Go.Proofs.Ytbapokpkgonjkaa.Print
