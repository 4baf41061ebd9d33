/- Texts of this session, joined by its own program. -/
import Derived.Test.YtbapokpkgonjkaaCDAppend7
import Derived.Test.YtbapokpkgonjkaaCDAppend3
import Derived.Test.YtbapokpkgonjkaaCDAppend0
import Derived.WalkKit
import Derived.Below
/- What DiskAppend answers is short enough. -/
namespace Go.Proofs.Ytbapokpkgonjkaa.Print
open Go.RowKit Go.Proofs.YtbapokpkgonjkaaW.PrintWords Go.Proofs.YtbapokpkgonjkaaW.PrintLast Go.Proofs.YtbapokpkgonjkaaW.PrintMore
set_option linter.unusedVariables false
set_option linter.unusedSimpArgs false
theorem DiskAppend_same (l0 l2 l4 b : List Int) (a1 a3 a5 n : Int) (hb : b.length ≤ 1048576) : ∃ (ks : Nat) (r1 : List Int) (r2 : Int) (r3 : List Int) (r4 : Int) (r5 : List Int) (r6 r7 : Int), impl_DiskAppend.f0 l0 a1 l2 a3 l4 a5 n b = some (r1, r2, r3, r4, r5, r6, r7) ∧ impl_DiskAppend.f l0 a1 l2 a3 l4 a5 n b = some (r1, r2, r3, r4, r5, r6, r7) ∧ r1.length ≤ 2097152 ∧ r3.length ≤ 2097152 ∧ r5.length ≤ 2097152 := by
  unfold impl_DiskAppend.f
  rw [if_pos (by omega)]
  unfold impl_DiskAppend.f0
  split
  · rename_i hv
    obtain ⟨⟨x0, x1, x2⟩, ⟨y0, y1, y2⟩, ⟨z0, z1, z2⟩⟩ := okDisk_iff hv
    repeat' split
    all_goals exact ⟨0, _, _, _, _, _, _, _, rfl, rfl, by first | omega | (simp; done) | (simp; omega), by first | omega | (simp; done) | (simp; omega), by first | omega | (simp; done) | (simp; omega)⟩
  · exact ⟨0, _, _, _, _, _, _, _, rfl, rfl, by simp, by simp, by simp⟩
end Go.Proofs.Ytbapokpkgonjkaa.Print

/- A row of bytes that a call owns, as one fact; the statements' helpers on rows of bytes, told by it. -/
namespace Go.Proofs.Ytbapokpkgonjkaa.Print
open Go.RowKit Go.Proofs.YtbapokpkgonjkaaW.PrintWords Go.Proofs.YtbapokpkgonjkaaW.PrintLast Go.Proofs.YtbapokpkgonjkaaW.PrintMore
set_option linter.unusedVariables false
set_option linter.unusedSimpArgs false
theorem toByteS_bk (k : Nat) (w0 : World) (A : Option Addr) (c : Nat) (l : List Int) (w : World) (hB : Below w0.heap.size w0 w) (h0 : Kd.C (Kd.int .u8) w A l.length l) (hc : l.length ≤ c) (hl : l.length ≤ 2097152) (hk : 2097152 < k) :
    Calls Try.prog 21 #[.slice A l.length c] w fun e w' => ∃ B d, e = .returned (.slice B l.length d) ∧ BK w0 w' w.heap.size w'.heap.size B d l ∧ Below w.heap.size w w' := by
  refine (laws_toByteS.calls k A c l l w h0 hc (toByteS_f l (by omega) k (by omega))).mono ?_
  rintro e w' ⟨v, rfl, hr, hb⟩
  obtain ⟨B, d, rfl⟩ := Kd.R_slice hr
  exact ⟨B, d, rfl, BK.of hr hB, hb⟩
theorem markByteS_bk (k m : Nat) (w0 : World) (lo hi : Nat) (A : Option Addr) (c : Nat) (l : List Int) (w : World) (hB : Below w0.heap.size w0 w) (hd : BK w0 w lo hi A c l) (hl : l.length ≤ 2097152) (hm : m ≤ 100000000) (hk : 2097152 < k) :
    Calls Try.prog 24 #[.slice A l.length c, .int .i64 m] w fun e w' => e = .returned (.int .i64 ((m + l.length : Nat) : Int)) ∧ BK w0 w' lo hi A c (marksB l.length m) ∧ Below w0.heap.size w0 w' ∧ Kept w w' (fun k => lo ≤ k ∧ k < hi) := by
  refine (laws_markByteS.calls k (OB A l.length c) _ l m _ _ w0 w hB hd.r (markByteS_f l m (by omega) k (by omega))).mono ?_
  rintro e w' ⟨rfl, hr, hb, hkp⟩
  refine ⟨rfl, ⟨?_, ?_⟩, hb, hkp.1, fun i hi hn => hkp.2 i hi (fun h => hn (hd.b i h))⟩
  · rw [marksB_length]
    exact Kd.R_tight rfl hr
  · rw [marksB_length]
    exact hd.b
theorem eqByteS_bk (k : Nat) (w0 w1 : World) (lo hi lo' hi' : Nat) (A : Option Addr) (c : Nat) (l : List Int) (B : Option Addr) (d : Nat) (w : World) (hd : BK w0 w lo hi A c l) (hd' : BK w1 w lo' hi' B d l) (hl : l.length ≤ 2097152) (hk : 2097152 < k) :
    Calls Try.prog 23 #[.slice A l.length c, .slice B l.length d] w fun e w' => e = .returned (.bool true) ∧ Below w.heap.size w w' := by
  refine (laws_eqByteS.calls k A c l B d l true w hd.reads.1 hd.reads.2 hd'.reads.1 hd'.reads.2 (eqByteS_self l (by omega) k (by omega))).mono ?_
  rintro e w' ⟨rfl, hb⟩
  exact ⟨rfl, hb.below⟩
theorem heldByteS_bk (k m n : Nat) (w0 : World) (lo hi : Nat) (A : Option Addr) (c : Nat) (w : World) (hd : BK w0 w lo hi A c (marksB n m)) (hl : n ≤ 2097152) (hm : m ≤ 100000000) (hk : 2097152 < k) :
    Calls Try.prog 25 #[.slice A n c, .int .i64 m] w fun e w' => e = .returned (.int .i64 ((m + n : Nat) : Int)) ∧ Below w.heap.size w w' := by
  have h := laws_heldByteS.calls k A c (marksB n m) m _ w hd.reads.1 hd.reads.2 (heldByteS_f n m (by omega) k (by omega))
  rw [marksB_length] at h
  refine h.mono ?_
  rintro e w' ⟨rfl, hb⟩
  exact ⟨rfl, hb.below⟩
end Go.Proofs.Ytbapokpkgonjkaa.Print

/- The reference's DiskAppend: its answer is the program's. -/
namespace Go.Proofs.Ytbapokpkgonjkaa.Print
open Go.RowKit Go.Proofs.YtbapokpkgonjkaaW.PrintWords Go.Proofs.YtbapokpkgonjkaaW.PrintLast Go.Proofs.YtbapokpkgonjkaaW.PrintMore
set_option linter.unusedVariables false
set_option linter.unusedSimpArgs false

set_option maxHeartbeats 2000000 in
set_option maxRecDepth 100000 in
theorem spec_DiskAppend_bad (A0 : Option Addr) (c0 : Nat) (l0 : List Int) (a1 : Int) (A2 : Option Addr) (c2 : Nat) (l2 : List Int) (a3 : Int) (A4 : Option Addr) (c4 : Nat) (l4 : List Int) (a5 : Int) (n : Int) (Ab : Option Addr) (cb : Nat) (b : List Int) (r1 : List Int) (r2 : Int) (r3 : List Int) (r4 : Int) (r5 : List Int) (r6 : Int) (r7 : Int) (w : World) (h0 : Kd.C (Kd.int .u8) w A0 l0.length l0) (hc0 : l0.length ≤ c0) (h2 : Kd.C (Kd.int .u8) w A2 l2.length l2) (hc2 : l2.length ≤ c2) (h4 : Kd.C (Kd.int .u8) w A4 l4.length l4) (hc4 : l4.length ≤ c4) (hrb : Kd.C (Kd.int .u8) w Ab b.length b) (hcb : b.length ≤ cb) (hlb : b.length ≤ 140737488155328) (hv : (!(okDisk l0 a1 l2 a3 l4 a5) || decide (n < 0) || decide (2 < n)) = true) (h : some (([] : List Int), (0 : Int), ([] : List Int), (0 : Int), ([] : List Int), (0 : Int), (1 : Int)) = some (r1, r2, r3, r4, r5, r6, r7)) :
    Calls Try.prog 49 #[.agg #[.slice A0 l0.length c0, .int .i64 a1, .slice A2 l2.length c2, .int .i64 a3, .slice A4 l4.length c4, .int .i64 a5], .int .i64 n, .slice Ab b.length cb] w fun e w' => ∃ v0_ v2_ v4_ : Value, e = .returned (.tuple #[.agg #[v0_, .int .i64 r2, v2_, .int .i64 r4, v4_, .int .i64 r6], .int .i64 r7]) ∧ Kd.R (Kd.int .u8) 5 w' w.heap.size (fun k_ => some k_ ≠ (v2_ : Value).ownBlock ∧ some k_ ≠ (v4_ : Value).ownBlock) v0_ r1 ∧ Kd.R (Kd.int .u8) 5 w' w.heap.size (fun k_ => some k_ ≠ (v0_ : Value).ownBlock ∧ some k_ ≠ (v4_ : Value).ownBlock) v2_ r3 ∧ Kd.R (Kd.int .u8) 5 w' w.heap.size (fun k_ => some k_ ≠ (v0_ : Value).ownBlock ∧ some k_ ≠ (v2_ : Value).ownBlock) v4_ r5 ∧ Below w.heap.size w w' := by
  have R0 := Aside0.mk h0
  have R2 := Aside0.mk h2
  have R4 := Aside0.mk h4
  have RB := Aside0.mk hrb
  clear h0 h2 h4 hrb
  simp only [Option.some.injEq, Prod.mk.injEq] at h
  obtain ⟨rfl, rfl, rfl, rfl, rfl, rfl, rfl⟩ := h
  have HV := Aside0.mk hv
  clear hv
  go_enter Try.func49, Try.ntmps49
  go_wp2_with fail
  refine (spec_l1bad.calls A0 c0 l0 a1 A2 c2 l2 a3 A4 c4 l4 a5 n _ _ (Kd.C_below R0.out (by repeat (first | exact Below.refl _ _ | apply below_alloc))) hc0 (Kd.C_below R2.out (by repeat (first | exact Below.refl _ _ | apply below_alloc))) hc2 (Kd.C_below R4.out (by repeat (first | exact Below.refl _ _ | apply below_alloc))) hc4 (l1bad_f l0 l2 l4 a1 a3 a5 n)).mono ?_
  rintro e w1 ⟨rfl, hb⟩
  have hvv : (!(okDisk l0 a1 l2 a3 l4 a5) || decide (n < 0) || decide (2 < n)) = true := HV.out
  rw [hvv]
  clear hvv
  have hB1 : Below w.heap.size w w1 := below_then (by repeat (first | exact Below.refl _ _ | apply below_alloc)) (by simp; omega) hb
  have hz1 : w.heap.size + 1 < w1.heap.size := by have := hb.size; simp at this; omega
  have hy1 : w.heap.size < w1.heap.size := by omega
  obtain ⟨qc1, qf1⟩ := bcell hb
  have HB1 := Aside0.mk hB1
  clear hB1 hb
  go_wp2_with fail
  refine bodyPost_ret (v := .tuple #[.agg #[.slice none 0 0, .int .i64 0, .slice none 0 0, .int .i64 0, .slice none 0 0, .int .i64 0], .int .i64 1]) ?_ rfl ?_
  · simp [results, Try.results49, go_sem, qc1, hy1, hz1]
  · exact ⟨_, _, _, rfl, Kd.R_nil _ _ _ _ _, Kd.R_nil _ _ _ _ _, Kd.R_nil _ _ _ _ _, below_store6 HB1.out (by omega)⟩
set_option maxHeartbeats 2000000 in
set_option maxRecDepth 100000 in
theorem spec_DiskAppend_0 (A0 : Option Addr) (c0 : Nat) (l0 : List Int) (a1 : Int) (A2 : Option Addr) (c2 : Nat) (l2 : List Int) (a3 : Int) (A4 : Option Addr) (c4 : Nat) (l4 : List Int) (a5 : Int) (Ab : Option Addr) (cb : Nat) (b : List Int) (r1 : List Int) (r2 : Int) (r3 : List Int) (r4 : Int) (r5 : List Int) (r6 : Int) (r7 : Int) (w : World) (h0 : Kd.C (Kd.int .u8) w A0 l0.length l0) (hc0 : l0.length ≤ c0) (h2 : Kd.C (Kd.int .u8) w A2 l2.length l2) (hc2 : l2.length ≤ c2) (h4 : Kd.C (Kd.int .u8) w A4 l4.length l4) (hc4 : l4.length ≤ c4) (hrb : Kd.C (Kd.int .u8) w Ab b.length b) (hcb : b.length ≤ cb) (hlb : b.length ≤ 140737488155328) (hv : (!(okDisk l0 a1 l2 a3 l4 a5) || decide ((0 : Int) < 0) || decide ((2 : Int) < 0)) = false) (h : (if l0.length + b.length ≤ 200000 then some (l0 ++ b, a1, l2, a3, l4, a5, 0) else some (l0, a1, l2, a3, l4, a5, 11)) = some (r1, r2, r3, r4, r5, r6, r7)) :
    Calls Try.prog 49 #[.agg #[.slice A0 l0.length c0, .int .i64 a1, .slice A2 l2.length c2, .int .i64 a3, .slice A4 l4.length c4, .int .i64 a5], .int .i64 0, .slice Ab b.length cb] w fun e w' => ∃ v0_ v2_ v4_ : Value, e = .returned (.tuple #[.agg #[v0_, .int .i64 r2, v2_, .int .i64 r4, v4_, .int .i64 r6], .int .i64 r7]) ∧ Kd.R (Kd.int .u8) 5 w' w.heap.size (fun k_ => some k_ ≠ (v2_ : Value).ownBlock ∧ some k_ ≠ (v4_ : Value).ownBlock) v0_ r1 ∧ Kd.R (Kd.int .u8) 5 w' w.heap.size (fun k_ => some k_ ≠ (v0_ : Value).ownBlock ∧ some k_ ≠ (v4_ : Value).ownBlock) v2_ r3 ∧ Kd.R (Kd.int .u8) 5 w' w.heap.size (fun k_ => some k_ ≠ (v0_ : Value).ownBlock ∧ some k_ ≠ (v2_ : Value).ownBlock) v4_ r5 ∧ Below w.heap.size w w' := by
  have R0 := Aside0.mk h0
  have R2 := Aside0.mk h2
  have R4 := Aside0.mk h4
  have RB := Aside0.mk hrb
  clear h0 h2 h4 hrb
  obtain ⟨hk, hn⟩ := l1bad_cases hv
  obtain ⟨⟨x0, x1, x2⟩, ⟨y0, y1, y2⟩, ⟨z0, z1, z2⟩⟩ := okDisk_iff hk
  have HV := Aside0.mk hv
  clear hv hn hk
  go_enter Try.func49, Try.ntmps49
  go_wp2_with fail
  refine (spec_l1bad.calls A0 c0 l0 a1 A2 c2 l2 a3 A4 c4 l4 a5 0 _ _ (Kd.C_below R0.out (by repeat (first | exact Below.refl _ _ | apply below_alloc))) hc0 (Kd.C_below R2.out (by repeat (first | exact Below.refl _ _ | apply below_alloc))) hc2 (Kd.C_below R4.out (by repeat (first | exact Below.refl _ _ | apply below_alloc))) hc4 (l1bad_f l0 l2 l4 a1 a3 a5 0)).mono ?_
  rintro e w1 ⟨rfl, hb⟩
  have hvv : (!(okDisk l0 a1 l2 a3 l4 a5) || decide ((0 : Int) < 0) || decide ((2 : Int) < 0)) = false := HV.out
  rw [hvv]
  clear hvv
  have hB1 : Below w.heap.size w w1 := below_then (by repeat (first | exact Below.refl _ _ | apply below_alloc)) (by simp; omega) hb
  have hz1 : w.heap.size + 1 < w1.heap.size := by have := hb.size; simp at this; omega
  have hy1 : w.heap.size < w1.heap.size := by omega
  obtain ⟨qc1, qf1⟩ := bcell hb
  have HB1 := Aside0.mk hB1
  clear hB1 hb
  go_wp2_with fail
  refine (spec_l1get.calls A0 c0 l0 a1 A2 c2 l2 a3 A4 c4 l4 a5 0 l0 a1 _ (Kd.C_below R0.out (by repeat (first | exact HB1.out | apply below_alloc))) hc0 (Kd.C_below R2.out (by repeat (first | exact HB1.out | apply below_alloc))) hc2 (Kd.C_below R4.out (by repeat (first | exact HB1.out | apply below_alloc))) hc4 (l1get_0 l0 l2 l4 a1 a3 a5 (by omega))).mono ?_
  rintro e w2 ⟨vf, rfl, of, hb⟩
  obtain ⟨Bf, df, rfl⟩ := Kd.R_slice of
  have hB2 : Below w.heap.size w w2 := below_then (by repeat (first | exact HB1.out | apply below_alloc)) (by first | omega | (simp; done) | (simp; omega)) hb
  have hz2 : w.heap.size + 1 < w2.heap.size := by have := hb.size; first | omega | (simp at this; omega)
  have hy2 : w.heap.size < w2.heap.size := by omega
  obtain ⟨qc2, qf2⟩ := bcell hb
  have HB2 := Aside0.mk hB2
  have OF := Aside0.mk of
  have SZ := Aside0.mk (show w1.heap.size ≤ w2.heap.size by have := hb.size; first | omega | (simp at this; omega))
  have HB21 := Aside0.mk hb
  clear hB2 hb of
  have hbx : l0.length + b.length ≤ 140737488355328 := by omega
  go_wp2_with ((with_reducible refine gate_builtin (b := .append) (xs := #[.tmp 17, .tmp 18]) rfl ?_); at_builtin; refine Kd.R_append_rows (Kd.int .u8) (w0 := w1) w1.heap.size rfl (.tmp 17) (.tmp 18) 22 5 (.int .u8 0) 1 rfl Try.underlying22 info5 rfl (by decide) (by omega) (.slice Bf l0.length df) l0 b _ _ _ (fun _ => True) (fun _ => False) rfl rfl (Kd.R_below OF.out (below_alloc (Below.refl _ _) _)) (Kd.C_alloc (Kd.C_below RB.out HB2.out) _) (fun _ _ h => h) (fun _ h => h.elim) (fun _ _ => trivial) (below_alloc HB21.out _) (below_size (below_alloc HB21.out _)) (by omega) ?_; intro v1 w3 ho hb hg hat; generalize hlb' : l0 ++ b = lb at ho h; have hlen : lb.length = l0.length + b.length := (by rw [← hlb', List.length_append]); obtain ⟨C1, e1, rfl⟩ := Kd.R_slice ho; have NE := Aside0.mk (show ∀ k, (Value.slice C1 lb.length e1).ownBlock = some k → k ≠ w2.heap.size from (by intro k e; rcases hat with h' | ⟨b', h', hb'⟩ <;> rw [h'] at e <;> first | (have := Kd.R_lt OF.out k e; omega) | (cases e; simp at hb'; omega))); have X3 := blk_grown (blk_new w2 _) hg (fun e => by have := Kd.R_lt OF.out _ e.symm; omega); have f0 := blk_cell X3 0; have f1 := blk_cell X3 1; have f2 := blk_lt X3; have f3 := blk_frozen X3 0; have f4 := blk_frozen X3 1; simp only [List.getElem?_toArray, List.getElem?_cons_zero, List.getElem?_cons_succ] at f0 f1; obtain ⟨qc3, qf3⟩ := bcell hb; have s3 := hb.size; have k3 : w.heap.size < w3.heap.size := (by omega); have j3 : w.heap.size + 1 < w3.heap.size := (by omega); have HB3 := Aside0.mk hb; have HO := Aside0.mk ho; clear hb hg hat ho X3 qc2 qf2)
  · have hx : 200000 < l0.length + b.length := by omega
    rw [if_neg (by omega)] at h
    simp only [Option.some.injEq, Prod.mk.injEq] at h
    obtain ⟨rfl, rfl, rfl, rfl, rfl, rfl, rfl⟩ := h
    refine (spec_l1disk.calls A0 c0 l0 a1 A2 c2 l2 a3 A4 c4 l4 a5 l0 a1 l2 a3 l4 a5 _ (Kd.C_below R0.out (below_set (below_step HB1.out HB3.out) (by have := SZ.out; omega))) hc0 (Kd.C_below R2.out (below_set (below_step HB1.out HB3.out) (by have := SZ.out; omega))) hc2 (Kd.C_below R4.out (below_set (below_step HB1.out HB3.out) (by have := SZ.out; omega))) hc4 (l1disk_f l0 l2 l4 a1 a3 a5 (by omega) (by omega) (by omega))).mono ?_
    rintro e w4 ⟨v0, v2, v4, rfl, o0, o2, o4, hb⟩
    obtain ⟨B0, d0, rfl⟩ := Kd.R_slice o0
    obtain ⟨B2, d2, rfl⟩ := Kd.R_slice o2
    obtain ⟨B4, d4, rfl⟩ := Kd.R_slice o4
    have hB14 : Below w1.heap.size w1 w4 := below_step (below_set HB3.out SZ.out) hb
    have s4 := hb.size
    simp at s4
    have k4 : w.heap.size < w4.heap.size := by omega
    have j4 : w.heap.size + 1 < w4.heap.size := by omega
    obtain ⟨qc4, qf4⟩ := bcell hB14
    have HB4 := Aside0.mk (below_step HB1.out hB14)
    have O0 := Aside0.mk o0
    have O2 := Aside0.mk o2
    have O4 := Aside0.mk o4
    clear hB14 hb o0 o2 o4 qc3 qf3
    go_wp2_with fail
    refine bodyPost_ret (v := .tuple #[.agg #[.slice B0 l0.length d0, .int .i64 a1, .slice B2 l2.length d2, .int .i64 a3, .slice B4 l4.length d4, .int .i64 a5], .int .i64 11]) ?_ rfl ?_
    · simp [results, Try.results49, go_sem, qc4, qc1, hy1, hz1, k4, j4]
    · exact ⟨_, _, _, rfl, R_store6 O0.out (fun k hk => hk) (by first | omega | (simp; done) | (simp; omega)) (by first | omega | (simp; done) | (simp; omega)), R_store6 O2.out (fun k hk => hk) (by first | omega | (simp; done) | (simp; omega)) (by first | omega | (simp; done) | (simp; omega)), R_store6 O4.out (fun k hk => hk) (by first | omega | (simp; done) | (simp; omega)) (by first | omega | (simp; done) | (simp; omega)), below_store6 HB4.out (by omega)⟩
  · have hx : l0.length + b.length ≤ 200000 := by omega
    rw [if_pos (by omega)] at h
    simp only [Option.some.injEq, Prod.mk.injEq] at h
    obtain ⟨rfl, rfl, rfl, rfl, rfl, rfl, rfl⟩ := h
    refine (spec_l1put_0 A0 c0 l0 a1 A2 c2 l2 a3 A4 c4 l4 a5 C1 (l0.length + b.length) e1 _ _ (Kd.C_below R0.out (below_set (below_step HB1.out HB3.out) (by have := SZ.out; omega))) hc0 (Kd.C_below R2.out (below_set (below_step HB1.out HB3.out) (by have := SZ.out; omega))) hc2 (Kd.C_below R4.out (below_set (below_step HB1.out HB3.out) (by have := SZ.out; omega))) hc4 x0 y0 z0).mono ?_
    rintro e w4 ⟨v2, v4, rfl, o2, o4, hb⟩
    obtain ⟨B2, d2, rfl⟩ := Kd.R_slice o2
    obtain ⟨B4, d4, rfl⟩ := Kd.R_slice o4
    have hB14 : Below w1.heap.size w1 w4 := below_step (below_set HB3.out SZ.out) hb
    have s4 := hb.size
    simp at s4
    have k4 : w.heap.size < w4.heap.size := by omega
    have j4 : w.heap.size + 1 < w4.heap.size := by omega
    obtain ⟨qc4, qf4⟩ := bcell hB14
    have HB4 := Aside0.mk (below_step HB1.out hB14)
    have f1 : ∀ k, (Value.slice C1 (l0.length + b.length) e1).ownBlock = some k → k < w3.heap.size := fun k e => Kd.R_lt HO.out k (by rw [hlen]; exact e)
    have f2 : ∀ k, (Value.slice B2 l2.length d2).ownBlock = some k → w3.heap.size ≤ k := fun k e => by have := Kd.R_base o2 k e; simp at this; omega
    have f3 : ∀ k, (Value.slice B4 l4.length d4).ownBlock = some k → w3.heap.size ≤ k := fun k e => by have := Kd.R_base o4 k e; simp at this; omega
    have fo : ∀ k, (Value.slice C1 (l0.length + b.length) e1).ownBlock = some k → w1.heap.size ≤ k := fun k e => Kd.R_base HO.out k (by rw [hlen]; exact e)
    have ho : Kd.R (Kd.int .u8) 5 w3 w1.heap.size (fun _ => True) (.slice C1 (l0.length + b.length) e1) lb := by rw [← hlen]; exact HO.out
    have ne : ∀ k, (Value.slice C1 (l0.length + b.length) e1).ownBlock = some k → k ≠ w2.heap.size := fun k e => NE.out k (by rw [hlen]; exact e)
    have OF' := Aside0.mk (Kd.R_below (Kd.R_far (p := ⟨w2.heap.size, 0, none⟩) (Kd.R_reok rfl ho (ok := fun k => k ≠ w2.heap.size) ne) (fun k hk => hk) _) hb)
    have FF := Aside0.mk (And.intro f1 (And.intro f2 (And.intro f3 fo)))
    have HO2 := Aside0.mk o2
    have HO4 := Aside0.mk o4
    clear hB14 hb o2 o4 qc3 qf3 f1 f2 f3 fo ho ne
    go_wp2_with fail
    refine bodyPost_ret (v := .tuple #[.agg #[.slice C1 (l0.length + b.length) e1, .int .i64 a1, .slice B2 l2.length d2, .int .i64 a3, .slice B4 l4.length d4, .int .i64 a5], .int .i64 0]) ?_ rfl ?_
    · simp [results, Try.results49, go_sem, qc4, qc1, hy1, hz1, k4, j4]
    · obtain ⟨f1, f2, f3, fo⟩ := FF.out
      rw [hlen] at *
      refine ⟨_, _, _, rfl, ?_, ?_, ?_, ?_⟩
      · exact R_store6 (Kd.R_reok rfl OF'.out (ok := fun k => some k ≠ _ ∧ some k ≠ _) (fun k e => ⟨(fun q => by have h1 := f1 k e; have h2 := f2 k q.symm; omega), (fun q => by have h1 := f1 k e; have h2 := f3 k q.symm; omega)⟩)) (fun k hk => hk) (by first | omega | (simp; done) | (simp; omega)) (by first | omega | (simp; done) | (simp; omega))
      · exact R_store6 (Kd.R_reok rfl HO2.out (ok := fun k => some k ≠ _ ∧ some k ≠ _) (fun k e => ⟨(fun q => by have h1 := f2 k e; have h2 := f1 k q.symm; omega), (HO2.out.1 k e)⟩)) (fun k hk => hk) (by first | omega | (simp; done) | (simp; omega)) (by first | omega | (simp; done) | (simp; omega))
      · exact R_store6 (Kd.R_reok rfl HO4.out (ok := fun k => some k ≠ _ ∧ some k ≠ _) (fun k e => ⟨(fun q => by have h1 := f3 k e; have h2 := f1 k q.symm; omega), (HO4.out.1 k e)⟩)) (fun k hk => hk) (by first | omega | (simp; done) | (simp; omega)) (by first | omega | (simp; done) | (simp; omega))
      · exact below_store6 HB4.out (by omega)
set_option maxHeartbeats 2000000 in
set_option maxRecDepth 100000 in
theorem spec_DiskAppend_1 (A0 : Option Addr) (c0 : Nat) (l0 : List Int) (a1 : Int) (A2 : Option Addr) (c2 : Nat) (l2 : List Int) (a3 : Int) (A4 : Option Addr) (c4 : Nat) (l4 : List Int) (a5 : Int) (Ab : Option Addr) (cb : Nat) (b : List Int) (r1 : List Int) (r2 : Int) (r3 : List Int) (r4 : Int) (r5 : List Int) (r6 : Int) (r7 : Int) (w : World) (h0 : Kd.C (Kd.int .u8) w A0 l0.length l0) (hc0 : l0.length ≤ c0) (h2 : Kd.C (Kd.int .u8) w A2 l2.length l2) (hc2 : l2.length ≤ c2) (h4 : Kd.C (Kd.int .u8) w A4 l4.length l4) (hc4 : l4.length ≤ c4) (hrb : Kd.C (Kd.int .u8) w Ab b.length b) (hcb : b.length ≤ cb) (hlb : b.length ≤ 140737488155328) (hv : (!(okDisk l0 a1 l2 a3 l4 a5) || decide ((1 : Int) < 0) || decide ((2 : Int) < 1)) = false) (h : (if l2.length + b.length ≤ 200000 then some (l0, a1, l2 ++ b, a3, l4, a5, 0) else some (l0, a1, l2, a3, l4, a5, 11)) = some (r1, r2, r3, r4, r5, r6, r7)) :
    Calls Try.prog 49 #[.agg #[.slice A0 l0.length c0, .int .i64 a1, .slice A2 l2.length c2, .int .i64 a3, .slice A4 l4.length c4, .int .i64 a5], .int .i64 1, .slice Ab b.length cb] w fun e w' => ∃ v0_ v2_ v4_ : Value, e = .returned (.tuple #[.agg #[v0_, .int .i64 r2, v2_, .int .i64 r4, v4_, .int .i64 r6], .int .i64 r7]) ∧ Kd.R (Kd.int .u8) 5 w' w.heap.size (fun k_ => some k_ ≠ (v2_ : Value).ownBlock ∧ some k_ ≠ (v4_ : Value).ownBlock) v0_ r1 ∧ Kd.R (Kd.int .u8) 5 w' w.heap.size (fun k_ => some k_ ≠ (v0_ : Value).ownBlock ∧ some k_ ≠ (v4_ : Value).ownBlock) v2_ r3 ∧ Kd.R (Kd.int .u8) 5 w' w.heap.size (fun k_ => some k_ ≠ (v0_ : Value).ownBlock ∧ some k_ ≠ (v2_ : Value).ownBlock) v4_ r5 ∧ Below w.heap.size w w' := by
  have R0 := Aside0.mk h0
  have R2 := Aside0.mk h2
  have R4 := Aside0.mk h4
  have RB := Aside0.mk hrb
  clear h0 h2 h4 hrb
  obtain ⟨hk, hn⟩ := l1bad_cases hv
  obtain ⟨⟨x0, x1, x2⟩, ⟨y0, y1, y2⟩, ⟨z0, z1, z2⟩⟩ := okDisk_iff hk
  have HV := Aside0.mk hv
  clear hv hn hk
  go_enter Try.func49, Try.ntmps49
  go_wp2_with fail
  refine (spec_l1bad.calls A0 c0 l0 a1 A2 c2 l2 a3 A4 c4 l4 a5 1 _ _ (Kd.C_below R0.out (by repeat (first | exact Below.refl _ _ | apply below_alloc))) hc0 (Kd.C_below R2.out (by repeat (first | exact Below.refl _ _ | apply below_alloc))) hc2 (Kd.C_below R4.out (by repeat (first | exact Below.refl _ _ | apply below_alloc))) hc4 (l1bad_f l0 l2 l4 a1 a3 a5 1)).mono ?_
  rintro e w1 ⟨rfl, hb⟩
  have hvv : (!(okDisk l0 a1 l2 a3 l4 a5) || decide ((1 : Int) < 0) || decide ((2 : Int) < 1)) = false := HV.out
  rw [hvv]
  clear hvv
  have hB1 : Below w.heap.size w w1 := below_then (by repeat (first | exact Below.refl _ _ | apply below_alloc)) (by simp; omega) hb
  have hz1 : w.heap.size + 1 < w1.heap.size := by have := hb.size; simp at this; omega
  have hy1 : w.heap.size < w1.heap.size := by omega
  obtain ⟨qc1, qf1⟩ := bcell hb
  have HB1 := Aside0.mk hB1
  clear hB1 hb
  go_wp2_with fail
  refine (spec_l1get.calls A0 c0 l0 a1 A2 c2 l2 a3 A4 c4 l4 a5 1 l2 a3 _ (Kd.C_below R0.out (by repeat (first | exact HB1.out | apply below_alloc))) hc0 (Kd.C_below R2.out (by repeat (first | exact HB1.out | apply below_alloc))) hc2 (Kd.C_below R4.out (by repeat (first | exact HB1.out | apply below_alloc))) hc4 (l1get_1 l0 l2 l4 a1 a3 a5 (by omega))).mono ?_
  rintro e w2 ⟨vf, rfl, of, hb⟩
  obtain ⟨Bf, df, rfl⟩ := Kd.R_slice of
  have hB2 : Below w.heap.size w w2 := below_then (by repeat (first | exact HB1.out | apply below_alloc)) (by first | omega | (simp; done) | (simp; omega)) hb
  have hz2 : w.heap.size + 1 < w2.heap.size := by have := hb.size; first | omega | (simp at this; omega)
  have hy2 : w.heap.size < w2.heap.size := by omega
  obtain ⟨qc2, qf2⟩ := bcell hb
  have HB2 := Aside0.mk hB2
  have OF := Aside0.mk of
  have SZ := Aside0.mk (show w1.heap.size ≤ w2.heap.size by have := hb.size; first | omega | (simp at this; omega))
  have HB21 := Aside0.mk hb
  clear hB2 hb of
  have hbx : l2.length + b.length ≤ 140737488355328 := by omega
  go_wp2_with ((with_reducible refine gate_builtin (b := .append) (xs := #[.tmp 17, .tmp 18]) rfl ?_); at_builtin; refine Kd.R_append_rows (Kd.int .u8) (w0 := w1) w1.heap.size rfl (.tmp 17) (.tmp 18) 22 5 (.int .u8 0) 1 rfl Try.underlying22 info5 rfl (by decide) (by omega) (.slice Bf l2.length df) l2 b _ _ _ (fun _ => True) (fun _ => False) rfl rfl (Kd.R_below OF.out (below_alloc (Below.refl _ _) _)) (Kd.C_alloc (Kd.C_below RB.out HB2.out) _) (fun _ _ h => h) (fun _ h => h.elim) (fun _ _ => trivial) (below_alloc HB21.out _) (below_size (below_alloc HB21.out _)) (by omega) ?_; intro v1 w3 ho hb hg hat; generalize hlb' : l2 ++ b = lb at ho h; have hlen : lb.length = l2.length + b.length := (by rw [← hlb', List.length_append]); obtain ⟨C1, e1, rfl⟩ := Kd.R_slice ho; have NE := Aside0.mk (show ∀ k, (Value.slice C1 lb.length e1).ownBlock = some k → k ≠ w2.heap.size from (by intro k e; rcases hat with h' | ⟨b', h', hb'⟩ <;> rw [h'] at e <;> first | (have := Kd.R_lt OF.out k e; omega) | (cases e; simp at hb'; omega))); have X3 := blk_grown (blk_new w2 _) hg (fun e => by have := Kd.R_lt OF.out _ e.symm; omega); have f0 := blk_cell X3 0; have f1 := blk_cell X3 1; have f2 := blk_lt X3; have f3 := blk_frozen X3 0; have f4 := blk_frozen X3 1; simp only [List.getElem?_toArray, List.getElem?_cons_zero, List.getElem?_cons_succ] at f0 f1; obtain ⟨qc3, qf3⟩ := bcell hb; have s3 := hb.size; have k3 : w.heap.size < w3.heap.size := (by omega); have j3 : w.heap.size + 1 < w3.heap.size := (by omega); have HB3 := Aside0.mk hb; have HO := Aside0.mk ho; clear hb hg hat ho X3 qc2 qf2)
  · have hx : 200000 < l2.length + b.length := by omega
    rw [if_neg (by omega)] at h
    simp only [Option.some.injEq, Prod.mk.injEq] at h
    obtain ⟨rfl, rfl, rfl, rfl, rfl, rfl, rfl⟩ := h
    refine (spec_l1disk.calls A0 c0 l0 a1 A2 c2 l2 a3 A4 c4 l4 a5 l0 a1 l2 a3 l4 a5 _ (Kd.C_below R0.out (below_set (below_step HB1.out HB3.out) (by have := SZ.out; omega))) hc0 (Kd.C_below R2.out (below_set (below_step HB1.out HB3.out) (by have := SZ.out; omega))) hc2 (Kd.C_below R4.out (below_set (below_step HB1.out HB3.out) (by have := SZ.out; omega))) hc4 (l1disk_f l0 l2 l4 a1 a3 a5 (by omega) (by omega) (by omega))).mono ?_
    rintro e w4 ⟨v0, v2, v4, rfl, o0, o2, o4, hb⟩
    obtain ⟨B0, d0, rfl⟩ := Kd.R_slice o0
    obtain ⟨B2, d2, rfl⟩ := Kd.R_slice o2
    obtain ⟨B4, d4, rfl⟩ := Kd.R_slice o4
    have hB14 : Below w1.heap.size w1 w4 := below_step (below_set HB3.out SZ.out) hb
    have s4 := hb.size
    simp at s4
    have k4 : w.heap.size < w4.heap.size := by omega
    have j4 : w.heap.size + 1 < w4.heap.size := by omega
    obtain ⟨qc4, qf4⟩ := bcell hB14
    have HB4 := Aside0.mk (below_step HB1.out hB14)
    have O0 := Aside0.mk o0
    have O2 := Aside0.mk o2
    have O4 := Aside0.mk o4
    clear hB14 hb o0 o2 o4 qc3 qf3
    go_wp2_with fail
    refine bodyPost_ret (v := .tuple #[.agg #[.slice B0 l0.length d0, .int .i64 a1, .slice B2 l2.length d2, .int .i64 a3, .slice B4 l4.length d4, .int .i64 a5], .int .i64 11]) ?_ rfl ?_
    · simp [results, Try.results49, go_sem, qc4, qc1, hy1, hz1, k4, j4]
    · exact ⟨_, _, _, rfl, R_store6 O0.out (fun k hk => hk) (by first | omega | (simp; done) | (simp; omega)) (by first | omega | (simp; done) | (simp; omega)), R_store6 O2.out (fun k hk => hk) (by first | omega | (simp; done) | (simp; omega)) (by first | omega | (simp; done) | (simp; omega)), R_store6 O4.out (fun k hk => hk) (by first | omega | (simp; done) | (simp; omega)) (by first | omega | (simp; done) | (simp; omega)), below_store6 HB4.out (by omega)⟩
  · have hx : l2.length + b.length ≤ 200000 := by omega
    rw [if_pos (by omega)] at h
    simp only [Option.some.injEq, Prod.mk.injEq] at h
    obtain ⟨rfl, rfl, rfl, rfl, rfl, rfl, rfl⟩ := h
    refine (spec_l1put_1 A0 c0 l0 a1 A2 c2 l2 a3 A4 c4 l4 a5 C1 (l2.length + b.length) e1 _ _ (Kd.C_below R0.out (below_set (below_step HB1.out HB3.out) (by have := SZ.out; omega))) hc0 (Kd.C_below R2.out (below_set (below_step HB1.out HB3.out) (by have := SZ.out; omega))) hc2 (Kd.C_below R4.out (below_set (below_step HB1.out HB3.out) (by have := SZ.out; omega))) hc4 x0 y0 z0).mono ?_
    rintro e w4 ⟨v0, v4, rfl, o0, o4, hb⟩
    obtain ⟨B0, d0, rfl⟩ := Kd.R_slice o0
    obtain ⟨B4, d4, rfl⟩ := Kd.R_slice o4
    have hB14 : Below w1.heap.size w1 w4 := below_step (below_set HB3.out SZ.out) hb
    have s4 := hb.size
    simp at s4
    have k4 : w.heap.size < w4.heap.size := by omega
    have j4 : w.heap.size + 1 < w4.heap.size := by omega
    obtain ⟨qc4, qf4⟩ := bcell hB14
    have HB4 := Aside0.mk (below_step HB1.out hB14)
    have f1 : ∀ k, (Value.slice C1 (l2.length + b.length) e1).ownBlock = some k → k < w3.heap.size := fun k e => Kd.R_lt HO.out k (by rw [hlen]; exact e)
    have f2 : ∀ k, (Value.slice B0 l0.length d0).ownBlock = some k → w3.heap.size ≤ k := fun k e => by have := Kd.R_base o0 k e; simp at this; omega
    have f3 : ∀ k, (Value.slice B4 l4.length d4).ownBlock = some k → w3.heap.size ≤ k := fun k e => by have := Kd.R_base o4 k e; simp at this; omega
    have fo : ∀ k, (Value.slice C1 (l2.length + b.length) e1).ownBlock = some k → w1.heap.size ≤ k := fun k e => Kd.R_base HO.out k (by rw [hlen]; exact e)
    have ho : Kd.R (Kd.int .u8) 5 w3 w1.heap.size (fun _ => True) (.slice C1 (l2.length + b.length) e1) lb := by rw [← hlen]; exact HO.out
    have ne : ∀ k, (Value.slice C1 (l2.length + b.length) e1).ownBlock = some k → k ≠ w2.heap.size := fun k e => NE.out k (by rw [hlen]; exact e)
    have OF' := Aside0.mk (Kd.R_below (Kd.R_far (p := ⟨w2.heap.size, 0, none⟩) (Kd.R_reok rfl ho (ok := fun k => k ≠ w2.heap.size) ne) (fun k hk => hk) _) hb)
    have FF := Aside0.mk (And.intro f1 (And.intro f2 (And.intro f3 fo)))
    have HO0 := Aside0.mk o0
    have HO4 := Aside0.mk o4
    clear hB14 hb o0 o4 qc3 qf3 f1 f2 f3 fo ho ne
    go_wp2_with fail
    refine bodyPost_ret (v := .tuple #[.agg #[.slice B0 l0.length d0, .int .i64 a1, .slice C1 (l2.length + b.length) e1, .int .i64 a3, .slice B4 l4.length d4, .int .i64 a5], .int .i64 0]) ?_ rfl ?_
    · simp [results, Try.results49, go_sem, qc4, qc1, hy1, hz1, k4, j4]
    · obtain ⟨f1, f2, f3, fo⟩ := FF.out
      rw [hlen] at *
      refine ⟨_, _, _, rfl, ?_, ?_, ?_, ?_⟩
      · exact R_store6 (Kd.R_reok rfl HO0.out (ok := fun k => some k ≠ _ ∧ some k ≠ _) (fun k e => ⟨(fun q => by have h1 := f2 k e; have h2 := f1 k q.symm; omega), (HO0.out.1 k e)⟩)) (fun k hk => hk) (by first | omega | (simp; done) | (simp; omega)) (by first | omega | (simp; done) | (simp; omega))
      · exact R_store6 (Kd.R_reok rfl OF'.out (ok := fun k => some k ≠ _ ∧ some k ≠ _) (fun k e => ⟨(fun q => by have h1 := f1 k e; have h2 := f2 k q.symm; omega), (fun q => by have h1 := f1 k e; have h2 := f3 k q.symm; omega)⟩)) (fun k hk => hk) (by first | omega | (simp; done) | (simp; omega)) (by first | omega | (simp; done) | (simp; omega))
      · exact R_store6 (Kd.R_reok rfl HO4.out (ok := fun k => some k ≠ _ ∧ some k ≠ _) (fun k e => ⟨(HO4.out.1 k e), (fun q => by have h1 := f3 k e; have h2 := f1 k q.symm; omega)⟩)) (fun k hk => hk) (by first | omega | (simp; done) | (simp; omega)) (by first | omega | (simp; done) | (simp; omega))
      · exact below_store6 HB4.out (by omega)
set_option maxHeartbeats 2000000 in
set_option maxRecDepth 100000 in
theorem spec_DiskAppend_2 (A0 : Option Addr) (c0 : Nat) (l0 : List Int) (a1 : Int) (A2 : Option Addr) (c2 : Nat) (l2 : List Int) (a3 : Int) (A4 : Option Addr) (c4 : Nat) (l4 : List Int) (a5 : Int) (Ab : Option Addr) (cb : Nat) (b : List Int) (r1 : List Int) (r2 : Int) (r3 : List Int) (r4 : Int) (r5 : List Int) (r6 : Int) (r7 : Int) (w : World) (h0 : Kd.C (Kd.int .u8) w A0 l0.length l0) (hc0 : l0.length ≤ c0) (h2 : Kd.C (Kd.int .u8) w A2 l2.length l2) (hc2 : l2.length ≤ c2) (h4 : Kd.C (Kd.int .u8) w A4 l4.length l4) (hc4 : l4.length ≤ c4) (hrb : Kd.C (Kd.int .u8) w Ab b.length b) (hcb : b.length ≤ cb) (hlb : b.length ≤ 140737488155328) (hv : (!(okDisk l0 a1 l2 a3 l4 a5) || decide ((2 : Int) < 0) || decide ((2 : Int) < 2)) = false) (h : (if l4.length + b.length ≤ 200000 then some (l0, a1, l2, a3, l4 ++ b, a5, 0) else some (l0, a1, l2, a3, l4, a5, 11)) = some (r1, r2, r3, r4, r5, r6, r7)) :
    Calls Try.prog 49 #[.agg #[.slice A0 l0.length c0, .int .i64 a1, .slice A2 l2.length c2, .int .i64 a3, .slice A4 l4.length c4, .int .i64 a5], .int .i64 2, .slice Ab b.length cb] w fun e w' => ∃ v0_ v2_ v4_ : Value, e = .returned (.tuple #[.agg #[v0_, .int .i64 r2, v2_, .int .i64 r4, v4_, .int .i64 r6], .int .i64 r7]) ∧ Kd.R (Kd.int .u8) 5 w' w.heap.size (fun k_ => some k_ ≠ (v2_ : Value).ownBlock ∧ some k_ ≠ (v4_ : Value).ownBlock) v0_ r1 ∧ Kd.R (Kd.int .u8) 5 w' w.heap.size (fun k_ => some k_ ≠ (v0_ : Value).ownBlock ∧ some k_ ≠ (v4_ : Value).ownBlock) v2_ r3 ∧ Kd.R (Kd.int .u8) 5 w' w.heap.size (fun k_ => some k_ ≠ (v0_ : Value).ownBlock ∧ some k_ ≠ (v2_ : Value).ownBlock) v4_ r5 ∧ Below w.heap.size w w' := by
  have R0 := Aside0.mk h0
  have R2 := Aside0.mk h2
  have R4 := Aside0.mk h4
  have RB := Aside0.mk hrb
  clear h0 h2 h4 hrb
  obtain ⟨hk, hn⟩ := l1bad_cases hv
  obtain ⟨⟨x0, x1, x2⟩, ⟨y0, y1, y2⟩, ⟨z0, z1, z2⟩⟩ := okDisk_iff hk
  have HV := Aside0.mk hv
  clear hv hn hk
  go_enter Try.func49, Try.ntmps49
  go_wp2_with fail
  refine (spec_l1bad.calls A0 c0 l0 a1 A2 c2 l2 a3 A4 c4 l4 a5 2 _ _ (Kd.C_below R0.out (by repeat (first | exact Below.refl _ _ | apply below_alloc))) hc0 (Kd.C_below R2.out (by repeat (first | exact Below.refl _ _ | apply below_alloc))) hc2 (Kd.C_below R4.out (by repeat (first | exact Below.refl _ _ | apply below_alloc))) hc4 (l1bad_f l0 l2 l4 a1 a3 a5 2)).mono ?_
  rintro e w1 ⟨rfl, hb⟩
  have hvv : (!(okDisk l0 a1 l2 a3 l4 a5) || decide ((2 : Int) < 0) || decide ((2 : Int) < 2)) = false := HV.out
  rw [hvv]
  clear hvv
  have hB1 : Below w.heap.size w w1 := below_then (by repeat (first | exact Below.refl _ _ | apply below_alloc)) (by simp; omega) hb
  have hz1 : w.heap.size + 1 < w1.heap.size := by have := hb.size; simp at this; omega
  have hy1 : w.heap.size < w1.heap.size := by omega
  obtain ⟨qc1, qf1⟩ := bcell hb
  have HB1 := Aside0.mk hB1
  clear hB1 hb
  go_wp2_with fail
  refine (spec_l1get.calls A0 c0 l0 a1 A2 c2 l2 a3 A4 c4 l4 a5 2 l4 a5 _ (Kd.C_below R0.out (by repeat (first | exact HB1.out | apply below_alloc))) hc0 (Kd.C_below R2.out (by repeat (first | exact HB1.out | apply below_alloc))) hc2 (Kd.C_below R4.out (by repeat (first | exact HB1.out | apply below_alloc))) hc4 (l1get_2 l0 l2 l4 a1 a3 a5 (by omega))).mono ?_
  rintro e w2 ⟨vf, rfl, of, hb⟩
  obtain ⟨Bf, df, rfl⟩ := Kd.R_slice of
  have hB2 : Below w.heap.size w w2 := below_then (by repeat (first | exact HB1.out | apply below_alloc)) (by first | omega | (simp; done) | (simp; omega)) hb
  have hz2 : w.heap.size + 1 < w2.heap.size := by have := hb.size; first | omega | (simp at this; omega)
  have hy2 : w.heap.size < w2.heap.size := by omega
  obtain ⟨qc2, qf2⟩ := bcell hb
  have HB2 := Aside0.mk hB2
  have OF := Aside0.mk of
  have SZ := Aside0.mk (show w1.heap.size ≤ w2.heap.size by have := hb.size; first | omega | (simp at this; omega))
  have HB21 := Aside0.mk hb
  clear hB2 hb of
  have hbx : l4.length + b.length ≤ 140737488355328 := by omega
  go_wp2_with ((with_reducible refine gate_builtin (b := .append) (xs := #[.tmp 17, .tmp 18]) rfl ?_); at_builtin; refine Kd.R_append_rows (Kd.int .u8) (w0 := w1) w1.heap.size rfl (.tmp 17) (.tmp 18) 22 5 (.int .u8 0) 1 rfl Try.underlying22 info5 rfl (by decide) (by omega) (.slice Bf l4.length df) l4 b _ _ _ (fun _ => True) (fun _ => False) rfl rfl (Kd.R_below OF.out (below_alloc (Below.refl _ _) _)) (Kd.C_alloc (Kd.C_below RB.out HB2.out) _) (fun _ _ h => h) (fun _ h => h.elim) (fun _ _ => trivial) (below_alloc HB21.out _) (below_size (below_alloc HB21.out _)) (by omega) ?_; intro v1 w3 ho hb hg hat; generalize hlb' : l4 ++ b = lb at ho h; have hlen : lb.length = l4.length + b.length := (by rw [← hlb', List.length_append]); obtain ⟨C1, e1, rfl⟩ := Kd.R_slice ho; have NE := Aside0.mk (show ∀ k, (Value.slice C1 lb.length e1).ownBlock = some k → k ≠ w2.heap.size from (by intro k e; rcases hat with h' | ⟨b', h', hb'⟩ <;> rw [h'] at e <;> first | (have := Kd.R_lt OF.out k e; omega) | (cases e; simp at hb'; omega))); have X3 := blk_grown (blk_new w2 _) hg (fun e => by have := Kd.R_lt OF.out _ e.symm; omega); have f0 := blk_cell X3 0; have f1 := blk_cell X3 1; have f2 := blk_lt X3; have f3 := blk_frozen X3 0; have f4 := blk_frozen X3 1; simp only [List.getElem?_toArray, List.getElem?_cons_zero, List.getElem?_cons_succ] at f0 f1; obtain ⟨qc3, qf3⟩ := bcell hb; have s3 := hb.size; have k3 : w.heap.size < w3.heap.size := (by omega); have j3 : w.heap.size + 1 < w3.heap.size := (by omega); have HB3 := Aside0.mk hb; have HO := Aside0.mk ho; clear hb hg hat ho X3 qc2 qf2)
  · have hx : 200000 < l4.length + b.length := by omega
    rw [if_neg (by omega)] at h
    simp only [Option.some.injEq, Prod.mk.injEq] at h
    obtain ⟨rfl, rfl, rfl, rfl, rfl, rfl, rfl⟩ := h
    refine (spec_l1disk.calls A0 c0 l0 a1 A2 c2 l2 a3 A4 c4 l4 a5 l0 a1 l2 a3 l4 a5 _ (Kd.C_below R0.out (below_set (below_step HB1.out HB3.out) (by have := SZ.out; omega))) hc0 (Kd.C_below R2.out (below_set (below_step HB1.out HB3.out) (by have := SZ.out; omega))) hc2 (Kd.C_below R4.out (below_set (below_step HB1.out HB3.out) (by have := SZ.out; omega))) hc4 (l1disk_f l0 l2 l4 a1 a3 a5 (by omega) (by omega) (by omega))).mono ?_
    rintro e w4 ⟨v0, v2, v4, rfl, o0, o2, o4, hb⟩
    obtain ⟨B0, d0, rfl⟩ := Kd.R_slice o0
    obtain ⟨B2, d2, rfl⟩ := Kd.R_slice o2
    obtain ⟨B4, d4, rfl⟩ := Kd.R_slice o4
    have hB14 : Below w1.heap.size w1 w4 := below_step (below_set HB3.out SZ.out) hb
    have s4 := hb.size
    simp at s4
    have k4 : w.heap.size < w4.heap.size := by omega
    have j4 : w.heap.size + 1 < w4.heap.size := by omega
    obtain ⟨qc4, qf4⟩ := bcell hB14
    have HB4 := Aside0.mk (below_step HB1.out hB14)
    have O0 := Aside0.mk o0
    have O2 := Aside0.mk o2
    have O4 := Aside0.mk o4
    clear hB14 hb o0 o2 o4 qc3 qf3
    go_wp2_with fail
    refine bodyPost_ret (v := .tuple #[.agg #[.slice B0 l0.length d0, .int .i64 a1, .slice B2 l2.length d2, .int .i64 a3, .slice B4 l4.length d4, .int .i64 a5], .int .i64 11]) ?_ rfl ?_
    · simp [results, Try.results49, go_sem, qc4, qc1, hy1, hz1, k4, j4]
    · exact ⟨_, _, _, rfl, R_store6 O0.out (fun k hk => hk) (by first | omega | (simp; done) | (simp; omega)) (by first | omega | (simp; done) | (simp; omega)), R_store6 O2.out (fun k hk => hk) (by first | omega | (simp; done) | (simp; omega)) (by first | omega | (simp; done) | (simp; omega)), R_store6 O4.out (fun k hk => hk) (by first | omega | (simp; done) | (simp; omega)) (by first | omega | (simp; done) | (simp; omega)), below_store6 HB4.out (by omega)⟩
  · have hx : l4.length + b.length ≤ 200000 := by omega
    rw [if_pos (by omega)] at h
    simp only [Option.some.injEq, Prod.mk.injEq] at h
    obtain ⟨rfl, rfl, rfl, rfl, rfl, rfl, rfl⟩ := h
    refine (spec_l1put_2 A0 c0 l0 a1 A2 c2 l2 a3 A4 c4 l4 a5 C1 (l4.length + b.length) e1 _ _ (Kd.C_below R0.out (below_set (below_step HB1.out HB3.out) (by have := SZ.out; omega))) hc0 (Kd.C_below R2.out (below_set (below_step HB1.out HB3.out) (by have := SZ.out; omega))) hc2 (Kd.C_below R4.out (below_set (below_step HB1.out HB3.out) (by have := SZ.out; omega))) hc4 x0 y0 z0).mono ?_
    rintro e w4 ⟨v0, v2, rfl, o0, o2, hb⟩
    obtain ⟨B0, d0, rfl⟩ := Kd.R_slice o0
    obtain ⟨B2, d2, rfl⟩ := Kd.R_slice o2
    have hB14 : Below w1.heap.size w1 w4 := below_step (below_set HB3.out SZ.out) hb
    have s4 := hb.size
    simp at s4
    have k4 : w.heap.size < w4.heap.size := by omega
    have j4 : w.heap.size + 1 < w4.heap.size := by omega
    obtain ⟨qc4, qf4⟩ := bcell hB14
    have HB4 := Aside0.mk (below_step HB1.out hB14)
    have f1 : ∀ k, (Value.slice C1 (l4.length + b.length) e1).ownBlock = some k → k < w3.heap.size := fun k e => Kd.R_lt HO.out k (by rw [hlen]; exact e)
    have f2 : ∀ k, (Value.slice B0 l0.length d0).ownBlock = some k → w3.heap.size ≤ k := fun k e => by have := Kd.R_base o0 k e; simp at this; omega
    have f3 : ∀ k, (Value.slice B2 l2.length d2).ownBlock = some k → w3.heap.size ≤ k := fun k e => by have := Kd.R_base o2 k e; simp at this; omega
    have fo : ∀ k, (Value.slice C1 (l4.length + b.length) e1).ownBlock = some k → w1.heap.size ≤ k := fun k e => Kd.R_base HO.out k (by rw [hlen]; exact e)
    have ho : Kd.R (Kd.int .u8) 5 w3 w1.heap.size (fun _ => True) (.slice C1 (l4.length + b.length) e1) lb := by rw [← hlen]; exact HO.out
    have ne : ∀ k, (Value.slice C1 (l4.length + b.length) e1).ownBlock = some k → k ≠ w2.heap.size := fun k e => NE.out k (by rw [hlen]; exact e)
    have OF' := Aside0.mk (Kd.R_below (Kd.R_far (p := ⟨w2.heap.size, 0, none⟩) (Kd.R_reok rfl ho (ok := fun k => k ≠ w2.heap.size) ne) (fun k hk => hk) _) hb)
    have FF := Aside0.mk (And.intro f1 (And.intro f2 (And.intro f3 fo)))
    have HO0 := Aside0.mk o0
    have HO2 := Aside0.mk o2
    clear hB14 hb o0 o2 qc3 qf3 f1 f2 f3 fo ho ne
    go_wp2_with fail
    refine bodyPost_ret (v := .tuple #[.agg #[.slice B0 l0.length d0, .int .i64 a1, .slice B2 l2.length d2, .int .i64 a3, .slice C1 (l4.length + b.length) e1, .int .i64 a5], .int .i64 0]) ?_ rfl ?_
    · simp [results, Try.results49, go_sem, qc4, qc1, hy1, hz1, k4, j4]
    · obtain ⟨f1, f2, f3, fo⟩ := FF.out
      rw [hlen] at *
      refine ⟨_, _, _, rfl, ?_, ?_, ?_, ?_⟩
      · exact R_store6 (Kd.R_reok rfl HO0.out (ok := fun k => some k ≠ _ ∧ some k ≠ _) (fun k e => ⟨(HO0.out.1 k e), (fun q => by have h1 := f2 k e; have h2 := f1 k q.symm; omega)⟩)) (fun k hk => hk) (by first | omega | (simp; done) | (simp; omega)) (by first | omega | (simp; done) | (simp; omega))
      · exact R_store6 (Kd.R_reok rfl HO2.out (ok := fun k => some k ≠ _ ∧ some k ≠ _) (fun k e => ⟨(HO2.out.1 k e), (fun q => by have h1 := f3 k e; have h2 := f1 k q.symm; omega)⟩)) (fun k hk => hk) (by first | omega | (simp; done) | (simp; omega)) (by first | omega | (simp; done) | (simp; omega))
      · exact R_store6 (Kd.R_reok rfl OF'.out (ok := fun k => some k ≠ _ ∧ some k ≠ _) (fun k e => ⟨(fun q => by have h1 := f1 k e; have h2 := f2 k q.symm; omega), (fun q => by have h1 := f1 k e; have h2 := f3 k q.symm; omega)⟩)) (fun k hk => hk) (by first | omega | (simp; done) | (simp; omega)) (by first | omega | (simp; done) | (simp; omega))
      · exact below_store6 HB4.out (by omega)
theorem spec_DiskAppend.calls (A0 : Option Addr) (c0 : Nat) (l0 : List Int) (a1 : Int) (A2 : Option Addr) (c2 : Nat) (l2 : List Int) (a3 : Int) (A4 : Option Addr) (c4 : Nat) (l4 : List Int) (a5 : Int) (n : Int) (Ab : Option Addr) (cb : Nat) (b : List Int) (r1 : List Int) (r2 : Int) (r3 : List Int) (r4 : Int) (r5 : List Int) (r6 : Int) (r7 : Int) (w : World) (h0 : Kd.C (Kd.int .u8) w A0 l0.length l0) (hc0 : l0.length ≤ c0) (h2 : Kd.C (Kd.int .u8) w A2 l2.length l2) (hc2 : l2.length ≤ c2) (h4 : Kd.C (Kd.int .u8) w A4 l4.length l4) (hc4 : l4.length ≤ c4) (hrb : Kd.C (Kd.int .u8) w Ab b.length b) (hcb : b.length ≤ cb) (hlb : b.length ≤ 140737488155328) (h : impl_DiskAppend.f0 l0 a1 l2 a3 l4 a5 n b = some (r1, r2, r3, r4, r5, r6, r7)) :
    Calls Try.prog 49 #[.agg #[.slice A0 l0.length c0, .int .i64 a1, .slice A2 l2.length c2, .int .i64 a3, .slice A4 l4.length c4, .int .i64 a5], .int .i64 n, .slice Ab b.length cb] w fun e w' => ∃ v0_ v2_ v4_ : Value, e = .returned (.tuple #[.agg #[v0_, .int .i64 r2, v2_, .int .i64 r4, v4_, .int .i64 r6], .int .i64 r7]) ∧ Kd.R (Kd.int .u8) 5 w' w.heap.size (fun k_ => some k_ ≠ (v2_ : Value).ownBlock ∧ some k_ ≠ (v4_ : Value).ownBlock) v0_ r1 ∧ Kd.R (Kd.int .u8) 5 w' w.heap.size (fun k_ => some k_ ≠ (v0_ : Value).ownBlock ∧ some k_ ≠ (v4_ : Value).ownBlock) v2_ r3 ∧ Kd.R (Kd.int .u8) 5 w' w.heap.size (fun k_ => some k_ ≠ (v0_ : Value).ownBlock ∧ some k_ ≠ (v2_ : Value).ownBlock) v4_ r5 ∧ Below w.heap.size w w' := by
  unfold impl_DiskAppend.f0 at h
  rcases hv : (!(okDisk l0 a1 l2 a3 l4 a5) || decide (n < 0) || decide (2 < n)) with _ | _
  · obtain ⟨hk, hn⟩ := l1bad_cases hv
    rw [if_pos hk] at h
    rcases hn with rfl | rfl | rfl
    · rw [if_pos rfl] at h
      exact spec_DiskAppend_0 A0 c0 l0 a1 A2 c2 l2 a3 A4 c4 l4 a5 Ab cb b r1 r2 r3 r4 r5 r6 r7 w h0 hc0 h2 hc2 h4 hc4 hrb hcb hlb hv h
    · rw [if_neg (by decide), if_pos rfl] at h
      exact spec_DiskAppend_1 A0 c0 l0 a1 A2 c2 l2 a3 A4 c4 l4 a5 Ab cb b r1 r2 r3 r4 r5 r6 r7 w h0 hc0 h2 hc2 h4 hc4 hrb hcb hlb hv h
    · rw [if_neg (by decide), if_neg (by decide), if_pos rfl] at h
      exact spec_DiskAppend_2 A0 c0 l0 a1 A2 c2 l2 a3 A4 c4 l4 a5 Ab cb b r1 r2 r3 r4 r5 r6 r7 w h0 hc0 h2 hc2 h4 hc4 hrb hcb hlb hv h
  · refine spec_DiskAppend_bad A0 c0 l0 a1 A2 c2 l2 a3 A4 c4 l4 a5 n Ab cb b r1 r2 r3 r4 r5 r6 r7 w h0 hc0 h2 hc2 h4 hc4 hrb hcb hlb hv ?_
    rw [← h]
    by_cases ho : okDisk l0 a1 l2 a3 l4 a5 = true
    · have hn : n < 0 ∨ 2 < n := by simpa [ho] using hv
      rw [if_pos ho, if_neg (by omega), if_neg (by omega), if_neg (by omega)]
    · rw [if_neg ho]
end Go.Proofs.Ytbapokpkgonjkaa.Print

/- The law FnExactDiskAppend: the walk; its plain part is a premise. -/
namespace Go.Proofs.Ytbapokpkgonjkaa.Print
open Go.RowKit Go.Proofs.YtbapokpkgonjkaaW.PrintWords Go.Proofs.YtbapokpkgonjkaaW.PrintLast Go.Proofs.YtbapokpkgonjkaaW.PrintMore
set_option linter.unusedVariables false
set_option linter.unusedSimpArgs false

set_option maxHeartbeats 2000000 in
set_option maxRecDepth 100000 in
theorem FnExactDiskAppend_walk (A0 : Option Addr) (c0 : Nat) (l0 : List Int) (a1_ : Int) (A2 : Option Addr) (c2 : Nat) (l2 : List Int) (a3_ : Int) (A4 : Option Addr) (c4 : Nat) (l4 : List Int) (a5_ : Int) (n : Int) (Ab : Option Addr) (cb : Nat) (b : List Int) (w : World) (h0 : Kd.C (Kd.int .u8) w A0 l0.length l0) (hc0 : l0.length ≤ c0) (h2 : Kd.C (Kd.int .u8) w A2 l2.length l2) (hc2 : l2.length ≤ c2) (h4 : Kd.C (Kd.int .u8) w A4 l4.length l4) (hc4 : l4.length ≤ c4) (hb_ : Kd.C (Kd.int .u8) w Ab b.length b) (hcb : b.length ≤ cb) (g0 : l0.length ≤ 140737488351232) (g2 : l2.length ≤ 140737488351232) (g4 : l4.length ≤ 140737488351232) (gb : b.length ≤ 140737488351232)
    (hsame : l0.length + l2.length + l4.length ≤ 1048576 → b.length ≤ 1048576 → ∃ (ks : Nat) (r1 : List Int) (r2 : Int) (r3 : List Int) (r4 : Int) (r5 : List Int) (r6 r7 : Int), impl_DiskAppend.f0 l0 a1_ l2 a3_ l4 a5_ n b = some (r1, r2, r3, r4, r5, r6, r7) ∧ impl_DiskAppend.f l0 a1_ l2 a3_ l4 a5_ n b = some (r1, r2, r3, r4, r5, r6, r7) ∧ r1.length ≤ 2097152 ∧ r3.length ≤ 2097152 ∧ r5.length ≤ 2097152) :
    Calls Try.prog 12 #[.agg #[(.slice A0 l0.length c0), .int .i64 a1_, (.slice A2 l2.length c2), .int .i64 a3_, (.slice A4 l4.length c4), .int .i64 a5_], .int .i64 n, .slice Ab b.length cb] w fun e w' => e = .returned (.bool true) ∧ Below w.heap.size w w' := by
  have R0 := Aside0.mk h0
  have R2 := Aside0.mk h2
  have R4 := Aside0.mk h4
  have RB := Aside0.mk hb_
  have HS := Aside0.mk hsame
  clear h0 h2 h4 hb_ hsame
  go_enter Try.func12, Try.ntmps12
  by_cases hbl : b.length ≤ 1048576
  case neg =>
    go_wp2_with fail
    go_ret
    exact ⟨rfl, below_alloc (Below.refl _ _) _⟩
  go_wp2_with fail
  refine (laws_szDisk.calls A0 c0 l0 a1_ A2 c2 l2 a3_ A4 c4 l4 a5_ 1048576 _ _ (Kd.C_alloc R0.out _) hc0 (Kd.C_alloc R2.out _) hc2 (Kd.C_alloc R4.out _) hc4 (szDisk_f l0 l2 l4 a1_ a3_ a5_ 1048576 (by omega) (by omega) g0 g2 g4)).mono ?_
  rintro e w1 ⟨rfl, hb⟩
  have HB := Aside0.mk (below_step (below_alloc (Below.refl w.heap.size w) _) hb)
  have X := Aside0.mk (blk_below (blk_new w (.cells #[(.slice A0 l0.length c0), .int .i64 a1_, (.slice A2 l2.length c2), .int .i64 a3_, (.slice A4 l4.length c4), .int .i64 a5_] 26)) hb)
  have s1 := hb.size
  simp only [World.size_alloc] at s1
  clear hb
  by_cases hlt : leftD l0.length l2.length l4.length 1048576 < 0
  case pos =>
    have hlt' : decide (leftD l0.length l2.length l4.length 1048576 < 0) = true := decide_eq_true hlt
    go_wp2_with fail
    go_ret
    exact ⟨rfl, HB.out⟩
  have hle := leftD_ok hlt
  have hlt' : decide (leftD l0.length l2.length l4.length 1048576 < 0) = false := decide_eq_false hlt
  obtain ⟨ks, r1, r2, r3, r4, r5, r6, r7, hs, hi, q1, q3, q5⟩ := HS.out hle hbl
  have SP := Aside0.mk hs
  have IM := Aside0.mk hi
  clear hs hi
  have z1_l := blk_lt X.out
  have z1_0 := blk_cell X.out 0
  have z1_1 := blk_cell X.out 1
  have z1_2 := blk_cell X.out 2
  have z1_3 := blk_cell X.out 3
  have z1_4 := blk_cell X.out 4
  have z1_5 := blk_cell X.out 5
  simp only [List.getElem?_toArray, List.getElem?_cons_zero, List.getElem?_cons_succ] at z1_0 z1_1 z1_2 z1_3 z1_4 z1_5
  go_wp2_with fail
  refine (toDisk_dk 3000000 w A0 c0 l0 a1_ A2 c2 l2 a3_ A4 c4 l4 a5_ _ HB.out (Kd.C_below R0.out HB.out) hc0 (Kd.C_below R2.out HB.out) hc2 (Kd.C_below R4.out HB.out) hc4 hle (by omega)).mono ?_
  rintro e w2 ⟨T0, Tc0, T2, Tc2, T4, Tc4, rfl, hd, hb⟩
  replace X := Aside0.mk (blk_below X.out hb)
  replace HB := Aside0.mk (below_step HB.out hb)
  have s2 := hb.size
  clear hb
  clear z1_l z1_0 z1_1 z1_2 z1_3 z1_4 z1_5
  (try simp only [World.size_alloc] at hd)
  have DT := Aside0.mk hd
  clear hd
  have z2_l := blk_lt X.out
  have z2_0 := blk_cell X.out 0
  have z2_1 := blk_cell X.out 1
  have z2_2 := blk_cell X.out 2
  have z2_3 := blk_cell X.out 3
  have z2_4 := blk_cell X.out 4
  have z2_5 := blk_cell X.out 5
  simp only [List.getElem?_toArray, List.getElem?_cons_zero, List.getElem?_cons_succ] at z2_0 z2_1 z2_2 z2_3 z2_4 z2_5
  go_wp2_with fail
  refine (toByteS_bk 3000000 w Ab cb b _ HB.out (Kd.C_below RB.out HB.out) hcb (by omega) (by omega)).mono ?_
  rintro e w3 ⟨Tb, Tbc, rfl, hd, hb⟩
  replace X := Aside0.mk (blk_below X.out hb)
  replace DT := Aside0.mk (DT.out.below hb)
  replace HB := Aside0.mk (below_step HB.out hb)
  have s3 := hb.size
  clear hb
  clear z2_l z2_0 z2_1 z2_2 z2_3 z2_4 z2_5
  (try simp only [World.size_alloc] at hd)
  have BT := Aside0.mk hd
  clear hd
  go_wp2_with fail
  refine (spec_DiskAppend.calls T0 Tc0 l0 a1_ T2 Tc2 l2 a3_ T4 Tc4 l4 a5_ n Tb Tbc b r1 r2 r3 r4 r5 r6 r7 _ DT.out.k0.reads.1 DT.out.k0.reads.2 DT.out.k2.reads.1 DT.out.k2.reads.2 DT.out.k4.reads.1 DT.out.k4.reads.2 BT.out.reads.1 BT.out.reads.2 (by omega) SP.out).mono ?_
  rintro e w4 ⟨v0, v2, v4, rfl, o0, o2, o4, hb⟩
  obtain ⟨W0, Wc0, W2, Wc2, W4, Wc4, rfl, rfl, rfl, hd⟩ := DK.of o0 o2 o4 HB.out
  clear o0 o2 o4
  clear DT
  clear BT
  replace X := Aside0.mk (blk_below X.out hb)
  replace HB := Aside0.mk (below_step HB.out hb)
  have s4 := hb.size
  clear hb
  (try simp only [World.size_alloc] at hd)
  have DW := Aside0.mk hd
  clear hd
  have z3_l := blk_lt X.out
  have z3_0 := blk_cell X.out 0
  have z3_1 := blk_cell X.out 1
  have z3_2 := blk_cell X.out 2
  have z3_3 := blk_cell X.out 3
  have z3_4 := blk_cell X.out 4
  have z3_5 := blk_cell X.out 5
  simp only [List.getElem?_toArray, List.getElem?_cons_zero, List.getElem?_cons_succ] at z3_0 z3_1 z3_2 z3_3 z3_4 z3_5
  go_wp2_with fail
  have hba := below_alloc (Below.refl w4.heap.size w4) (.cells #[(.slice W0 r1.length Wc0), .int .i64 r2, (.slice W2 r3.length Wc2), .int .i64 r4, (.slice W4 r5.length Wc4), .int .i64 r6] 31)
  have NB := Aside0.mk (blk_new w4 (.cells #[(.slice W0 r1.length Wc0), .int .i64 r2, (.slice W2 r3.length Wc2), .int .i64 r4, (.slice W4 r5.length Wc4), .int .i64 r6] 31))
  refine (toDisk_dk 3000000 w A0 c0 l0 a1_ A2 c2 l2 a3_ A4 c4 l4 a5_ _ (below_step HB.out hba) (Kd.C_below R0.out (below_step HB.out hba)) hc0 (Kd.C_below R2.out (below_step HB.out hba)) hc2 (Kd.C_below R4.out (below_step HB.out hba)) hc4 hle (by omega)).mono ?_
  rintro e w5 ⟨Xx0, Xxc0, Xx2, Xxc2, Xx4, Xxc4, rfl, hd, hb⟩
  replace X := Aside0.mk (blk_below (blk_below X.out hba) hb)
  replace DW := Aside0.mk ((DW.out.below hba).below hb)
  replace HB := Aside0.mk (below_step (below_step HB.out hba) hb)
  have Y := Aside0.mk (blk_below NB.out hb)
  clear NB
  have s5 := hb.size
  simp only [World.size_alloc] at s5
  clear hb hba
  clear z3_l z3_0 z3_1 z3_2 z3_3 z3_4 z3_5
  (try simp only [World.size_alloc] at hd)
  have DX := Aside0.mk hd
  clear hd
  go_wp2_with fail
  have hba := below_alloc (Below.refl w5.heap.size w5) (.cells #[(.slice Xx0 l0.length Xxc0), .int .i64 a1_, (.slice Xx2 l2.length Xxc2), .int .i64 a3_, (.slice Xx4 l4.length Xxc4), .int .i64 a5_] 31)
  have NB := Aside0.mk (blk_new w5 (.cells #[(.slice Xx0 l0.length Xxc0), .int .i64 a1_, (.slice Xx2 l2.length Xxc2), .int .i64 a3_, (.slice Xx4 l4.length Xxc4), .int .i64 a5_] 31))
  refine (toByteS_bk 3000000 w Ab cb b _ (below_step HB.out hba) (Kd.C_below RB.out (below_step HB.out hba)) hcb (by omega) (by omega)).mono ?_
  rintro e w6 ⟨Xb, Xbc, rfl, hd, hb⟩
  replace X := Aside0.mk (blk_below (blk_below X.out hba) hb)
  replace Y := Aside0.mk (blk_below (blk_below Y.out hba) hb)
  replace DW := Aside0.mk ((DW.out.below hba).below hb)
  replace DX := Aside0.mk ((DX.out.below hba).below hb)
  replace HB := Aside0.mk (below_step (below_step HB.out hba) hb)
  have Z := Aside0.mk (blk_below NB.out hb)
  clear NB
  have s6 := hb.size
  simp only [World.size_alloc] at s6
  clear hb hba
  (try simp only [World.size_alloc] at hd)
  have BX := Aside0.mk hd
  clear hd
  have z4_l := blk_lt Z.out
  have z4_0 := blk_cell Z.out 0
  have z4_1 := blk_cell Z.out 1
  have z4_2 := blk_cell Z.out 2
  have z4_3 := blk_cell Z.out 3
  have z4_4 := blk_cell Z.out 4
  have z4_5 := blk_cell Z.out 5
  simp only [List.getElem?_toArray, List.getElem?_cons_zero, List.getElem?_cons_succ] at z4_0 z4_1 z4_2 z4_3 z4_4 z4_5
  go_wp2_with fail
  refine (impl_DiskAppend.calls Xx0 Xxc0 l0 a1_ Xx2 Xxc2 l2 a3_ Xx4 Xxc4 l4 a5_ n Xb Xbc b r1 r2 r3 r4 r5 r6 r7 _ DX.out.k0.reads.1 DX.out.k0.reads.2 DX.out.k2.reads.1 DX.out.k2.reads.2 DX.out.k4.reads.1 DX.out.k4.reads.2 BX.out.reads.1 BX.out.reads.2 IM.out).mono ?_
  rintro e w7 ⟨v0, v2, v4, rfl, o0, o2, o4, hb⟩
  obtain ⟨G0, Gc0, G2, Gc2, G4, Gc4, rfl, rfl, rfl, hd⟩ := DK.of o0 o2 o4 HB.out
  clear o0 o2 o4
  replace X := Aside0.mk (blk_below X.out hb)
  replace Y := Aside0.mk (blk_below Y.out hb)
  replace Z := Aside0.mk (blk_below Z.out hb)
  replace DW := Aside0.mk (DW.out.below hb)
  replace DX := Aside0.mk (DX.out.below hb)
  replace BX := Aside0.mk (BX.out.below hb)
  replace HB := Aside0.mk (below_step HB.out hb)
  have s7 := hb.size
  clear hb
  clear z4_l z4_0 z4_1 z4_2 z4_3 z4_4 z4_5
  (try simp only [World.size_alloc] at hd)
  have DG := Aside0.mk hd
  clear hd
  have z5_l := blk_lt Y.out
  have z5_0 := blk_cell Y.out 0
  have z5_1 := blk_cell Y.out 1
  have z5_2 := blk_cell Y.out 2
  have z5_3 := blk_cell Y.out 3
  have z5_4 := blk_cell Y.out 4
  have z5_5 := blk_cell Y.out 5
  simp only [List.getElem?_toArray, List.getElem?_cons_zero, List.getElem?_cons_succ] at z5_0 z5_1 z5_2 z5_3 z5_4 z5_5
  go_wp2_with fail
  have hba := below_alloc (Below.refl w7.heap.size w7) (.cells #[(.slice G0 r1.length Gc0), .int .i64 r2, (.slice G2 r3.length Gc2), .int .i64 r4, (.slice G4 r5.length Gc4), .int .i64 r6] 31)
  have NB := Aside0.mk (blk_new w7 (.cells #[(.slice G0 r1.length Gc0), .int .i64 r2, (.slice G2 r3.length Gc2), .int .i64 r4, (.slice G4 r5.length Gc4), .int .i64 r6] 31))
  refine (eqDisk_dk 3000000 w _ _ _ _ G0 Gc0 r1 r2 G2 Gc2 r3 r4 G4 Gc4 r5 r6 W0 Wc0 W2 Wc2 W4 Wc4 _ (DG.out.below hba) (DW.out.below hba) q1 q3 q5 (by omega)).mono ?_
  rintro e w8 ⟨rfl, hb⟩
  replace X := Aside0.mk (blk_below (blk_below X.out hba) hb)
  replace Y := Aside0.mk (blk_below (blk_below Y.out hba) hb)
  replace Z := Aside0.mk (blk_below (blk_below Z.out hba) hb)
  replace DW := Aside0.mk ((DW.out.below hba).below hb)
  replace DX := Aside0.mk ((DX.out.below hba).below hb)
  replace BX := Aside0.mk ((BX.out.below hba).below hb)
  replace DG := Aside0.mk ((DG.out.below hba).below hb)
  replace HB := Aside0.mk (below_step (below_step HB.out hba) hb)
  have Gb := Aside0.mk (blk_below NB.out hb)
  clear NB
  have s8 := hb.size
  simp only [World.size_alloc] at s8
  clear hb hba
  clear z5_l z5_0 z5_1 z5_2 z5_3 z5_4 z5_5
  have z6_l := blk_lt X.out
  have z6_0 := blk_cell X.out 0
  have z6_1 := blk_cell X.out 1
  have z6_2 := blk_cell X.out 2
  have z6_3 := blk_cell X.out 3
  have z6_4 := blk_cell X.out 4
  have z6_5 := blk_cell X.out 5
  have z7_l := blk_lt Z.out
  have z7_0 := blk_cell Z.out 0
  have z7_1 := blk_cell Z.out 1
  have z7_2 := blk_cell Z.out 2
  have z7_3 := blk_cell Z.out 3
  have z7_4 := blk_cell Z.out 4
  have z7_5 := blk_cell Z.out 5
  simp only [List.getElem?_toArray, List.getElem?_cons_zero, List.getElem?_cons_succ] at z6_0 z6_1 z6_2 z6_3 z6_4 z6_5 z7_0 z7_1 z7_2 z7_3 z7_4 z7_5
  go_wp2_with fail
  go_region_held3 (fun w' => w'.cell? ⟨w.heap.size, 0, none⟩ = some ((.slice A0 l0.length c0)) ∧ w'.cell? ⟨w.heap.size, 1, none⟩ = some (.int .i64 a1_) ∧ w'.cell? ⟨w.heap.size, 2, none⟩ = some ((.slice A2 l2.length c2)) ∧ w'.cell? ⟨w.heap.size, 3, none⟩ = some (.int .i64 a3_) ∧ w'.cell? ⟨w.heap.size, 4, none⟩ = some ((.slice A4 l4.length c4)) ∧ w'.cell? ⟨w.heap.size, 5, none⟩ = some (.int .i64 a5_) ∧ w'.cell? ⟨w5.heap.size, 0, none⟩ = some ((.slice Xx0 l0.length Xxc0)) ∧ w'.cell? ⟨w5.heap.size, 1, none⟩ = some (.int .i64 a1_) ∧ w'.cell? ⟨w5.heap.size, 2, none⟩ = some ((.slice Xx2 l2.length Xxc2)) ∧ w'.cell? ⟨w5.heap.size, 3, none⟩ = some (.int .i64 a3_) ∧ w'.cell? ⟨w5.heap.size, 4, none⟩ = some ((.slice Xx4 l4.length Xxc4)) ∧ w'.cell? ⟨w5.heap.size, 5, none⟩ = some (.int .i64 a5_)) (first | exact ⟨z6_0, z6_1, z6_2, z6_3, z6_4, z6_5, z7_0, z7_1, z7_2, z7_3, z7_4, z7_5⟩ | exact ⟨z8_0, z8_1, z8_2, z8_3, z8_4, z8_5, z9_0, z9_1, z9_2, z9_3, z9_4, z9_5⟩ | exact ⟨z10_0, z10_1, z10_2, z10_3, z10_4, z10_5, z11_0, z11_1, z11_2, z11_3, z11_4, z11_5⟩) (first | (go_at_call 17; refine (toDisk_dk 3000000 w A0 c0 l0 a1_ A2 c2 l2 a3_ A4 c4 l4 a5_ _ (by with_reducible repeat (first | exact HB.out | apply below_drew1)) (by repeat (first | exact Kd.C_below R0.out HB.out | refine Kd.C_drew ?_)) hc0 (by repeat (first | exact Kd.C_below R2.out HB.out | refine Kd.C_drew ?_)) hc2 (by repeat (first | exact Kd.C_below R4.out HB.out | refine Kd.C_drew ?_)) hc4 hle (by omega)).mono ?_; rintro e w9 ⟨V0, Vc0, V2, Vc2, V4, Vc4, rfl, hd, hb0⟩; have hb : Below w8.heap.size w8 w9 := (by first | exact hb0 | exact (below_drew1 (Below.refl w8.heap.size w8)).trans hb0); clear hb0; replace X := Aside0.mk (blk_below X.out hb); replace Y := Aside0.mk (blk_below Y.out hb); replace Z := Aside0.mk (blk_below Z.out hb); replace Gb := Aside0.mk (blk_below Gb.out hb); replace DW := Aside0.mk (DW.out.below hb); replace DX := Aside0.mk (DX.out.below hb); replace BX := Aside0.mk (BX.out.below hb); replace DG := Aside0.mk (DG.out.below hb); replace HB := Aside0.mk (below_step HB.out hb); have s9 := hb.size; clear hb; (try simp only [World.size_alloc] at hd); have DV := Aside0.mk hd; clear hd; clear z6_l z6_0 z6_1 z6_2 z6_3 z6_4 z6_5 z7_l z7_0 z7_1 z7_2 z7_3 z7_4 z7_5; have z8_l := blk_lt X.out; have z8_0 := blk_cell X.out 0; have z8_1 := blk_cell X.out 1; have z8_2 := blk_cell X.out 2; have z8_3 := blk_cell X.out 3; have z8_4 := blk_cell X.out 4; have z8_5 := blk_cell X.out 5; have z9_l := blk_lt Z.out; have z9_0 := blk_cell Z.out 0; have z9_1 := blk_cell Z.out 1; have z9_2 := blk_cell Z.out 2; have z9_3 := blk_cell Z.out 3; have z9_4 := blk_cell Z.out 4; have z9_5 := blk_cell Z.out 5; simp only [List.getElem?_toArray, List.getElem?_cons_zero, List.getElem?_cons_succ] at z8_0 z8_1 z8_2 z8_3 z8_4 z8_5 z9_0 z9_1 z9_2 z9_3 z9_4 z9_5) | (go_at_call 19; refine (eqDisk_dk 3000000 w _ _ _ _ Xx0 Xxc0 l0 a1_ Xx2 Xxc2 l2 a3_ Xx4 Xxc4 l4 a5_ V0 Vc0 V2 Vc2 V4 Vc4 _ (by repeat (first | exact DX.out | refine DK.below ?_ (below_drew1 (Below.refl _ _)))) (by repeat (first | exact DV.out | refine DK.below ?_ (below_drew1 (Below.refl _ _)))) (by omega) (by omega) (by omega) (by omega)).mono ?_; rintro e w10 ⟨rfl, hb0⟩; have hb : Below w9.heap.size w9 w10 := (by first | exact hb0 | exact (below_drew1 (Below.refl w9.heap.size w9)).trans hb0); clear hb0; clear DV; replace X := Aside0.mk (blk_below X.out hb); replace Y := Aside0.mk (blk_below Y.out hb); replace Z := Aside0.mk (blk_below Z.out hb); replace Gb := Aside0.mk (blk_below Gb.out hb); replace DW := Aside0.mk (DW.out.below hb); replace DX := Aside0.mk (DX.out.below hb); replace BX := Aside0.mk (BX.out.below hb); replace DG := Aside0.mk (DG.out.below hb); replace HB := Aside0.mk (below_step HB.out hb); have s10 := hb.size; clear hb; clear z8_l z8_0 z8_1 z8_2 z8_3 z8_4 z8_5 z9_l z9_0 z9_1 z9_2 z9_3 z9_4 z9_5; have z10_l := blk_lt X.out; have z10_0 := blk_cell X.out 0; have z10_1 := blk_cell X.out 1; have z10_2 := blk_cell X.out 2; have z10_3 := blk_cell X.out 3; have z10_4 := blk_cell X.out 4; have z10_5 := blk_cell X.out 5; have z11_l := blk_lt Z.out; have z11_0 := blk_cell Z.out 0; have z11_1 := blk_cell Z.out 1; have z11_2 := blk_cell Z.out 2; have z11_3 := blk_cell Z.out 3; have z11_4 := blk_cell Z.out 4; have z11_5 := blk_cell Z.out 5; simp only [List.getElem?_toArray, List.getElem?_cons_zero, List.getElem?_cons_succ] at z10_0 z10_1 z10_2 z10_3 z10_4 z10_5 z11_0 z11_1 z11_2 z11_3 z11_4 z11_5))
  clear z10_l z10_0 z10_1 z10_2 z10_3 z10_4 z10_5 z11_l z11_0 z11_1 z11_2 z11_3 z11_4 z11_5
  go_wp2_with fail
  refine (toByteS_bk 3000000 w Ab cb b _ HB.out (Kd.C_below RB.out HB.out) hcb (by omega) (by omega)).mono ?_
  rintro e w11 ⟨Vb, Vbc, rfl, hd, hb⟩
  replace X := Aside0.mk (blk_below X.out hb)
  replace Y := Aside0.mk (blk_below Y.out hb)
  replace Z := Aside0.mk (blk_below Z.out hb)
  replace Gb := Aside0.mk (blk_below Gb.out hb)
  replace DW := Aside0.mk (DW.out.below hb)
  replace DX := Aside0.mk (DX.out.below hb)
  replace BX := Aside0.mk (BX.out.below hb)
  replace DG := Aside0.mk (DG.out.below hb)
  replace HB := Aside0.mk (below_step HB.out hb)
  have s11 := hb.size
  clear hb
  (try simp only [World.size_alloc] at hd)
  have BV := Aside0.mk hd
  clear hd
  go_wp2_with fail
  refine (eqByteS_bk 3000000 w w _ _ _ _ Xb Xbc b Vb Vbc _ BX.out BV.out (by omega) (by omega)).mono ?_
  rintro e w12 ⟨rfl, hb⟩
  clear BV
  replace X := Aside0.mk (blk_below X.out hb)
  replace Y := Aside0.mk (blk_below Y.out hb)
  replace Z := Aside0.mk (blk_below Z.out hb)
  replace Gb := Aside0.mk (blk_below Gb.out hb)
  replace DW := Aside0.mk (DW.out.below hb)
  replace DX := Aside0.mk (DX.out.below hb)
  replace BX := Aside0.mk (BX.out.below hb)
  replace DG := Aside0.mk (DG.out.below hb)
  replace HB := Aside0.mk (below_step HB.out hb)
  have s12 := hb.size
  clear hb
  have hsz := hle
  have b4 := blk_lt Z.out
  have b5 := blk_lt Gb.out
  have b6 := blk_lt Y.out
  have b7 := blk_lt X.out
  have z12_l := blk_lt Z.out
  have z12_0 := blk_cell Z.out 0
  have z12_1 := blk_cell Z.out 1
  have z12_2 := blk_cell Z.out 2
  have z12_3 := blk_cell Z.out 3
  have z12_4 := blk_cell Z.out 4
  have z12_5 := blk_cell Z.out 5
  simp only [List.getElem?_toArray, List.getElem?_cons_zero, List.getElem?_cons_succ] at z12_0 z12_1 z12_2 z12_3 z12_4 z12_5
  go_wp2_with fail
  refine (markDisk_dk 3000000 1 w _ _ Xx0 Xxc0 l0 a1_ Xx2 Xxc2 l2 a3_ Xx4 Xxc4 l4 a5_ _ HB.out DX.out (by omega) (by omega) (by omega) (by omega) (by omega) (by omega)).mono ?_
  rintro e w13 ⟨rfl, hd, hb, hk⟩
  replace X := Aside0.mk (blk_kept X.out hk (by intro h; omega))
  replace Y := Aside0.mk (blk_kept Y.out hk (by intro h; omega))
  replace Z := Aside0.mk (blk_kept Z.out hk (by intro h; omega))
  replace Gb := Aside0.mk (blk_kept Gb.out hk (by intro h; omega))
  replace DW := Aside0.mk (DW.out.kept hk (by intro k h1 h2 h3; omega))
  replace BX := Aside0.mk (BX.out.kept hk (by intro k h1 h2 h3; omega))
  replace DG := Aside0.mk (DG.out.kept hk (by intro k h1 h2 h3; omega))
  replace HB := Aside0.mk hb
  have s13 := hk.1
  replace DX := Aside0.mk hd
  clear hb hk hd
  clear z12_l z12_0 z12_1 z12_2 z12_3 z12_4 z12_5
  generalize hm1 : 1 + l0.length + l2.length + l4.length = m1
  go_wp2_with fail
  refine (markByteS_bk 3000000 m1 w _ _ Xb Xbc b _ HB.out BX.out (by omega) (by omega) (by omega)).mono ?_
  rintro e w14 ⟨rfl, hd, hb, hk⟩
  replace X := Aside0.mk (blk_kept X.out hk (by intro h; omega))
  replace Y := Aside0.mk (blk_kept Y.out hk (by intro h; omega))
  replace Z := Aside0.mk (blk_kept Z.out hk (by intro h; omega))
  replace Gb := Aside0.mk (blk_kept Gb.out hk (by intro h; omega))
  replace DW := Aside0.mk (DW.out.kept hk (by intro k h1 h2 h3; omega))
  replace DX := Aside0.mk (DX.out.kept hk (by intro k h1 h2 h3; omega))
  replace DG := Aside0.mk (DG.out.kept hk (by intro k h1 h2 h3; omega))
  replace HB := Aside0.mk hb
  have s14 := hk.1
  replace BX := Aside0.mk hd
  clear hb hk hd
  generalize hm2 : m1 + b.length = m2
  have hneg : decide ((m2 : Int) < 0) = false := decide_eq_false (by omega)
  clear DX BX Z
  have z13_l := blk_lt Gb.out
  have z13_0 := blk_cell Gb.out 0
  have z13_1 := blk_cell Gb.out 1
  have z13_2 := blk_cell Gb.out 2
  have z13_3 := blk_cell Gb.out 3
  have z13_4 := blk_cell Gb.out 4
  have z13_5 := blk_cell Gb.out 5
  have z14_l := blk_lt Y.out
  have z14_0 := blk_cell Y.out 0
  have z14_1 := blk_cell Y.out 1
  have z14_2 := blk_cell Y.out 2
  have z14_3 := blk_cell Y.out 3
  have z14_4 := blk_cell Y.out 4
  have z14_5 := blk_cell Y.out 5
  simp only [List.getElem?_toArray, List.getElem?_cons_zero, List.getElem?_cons_succ] at z13_0 z13_1 z13_2 z13_3 z13_4 z13_5 z14_0 z14_1 z14_2 z14_3 z14_4 z14_5
  go_wp2_with fail
  refine (eqDisk_dk 3000000 w _ _ _ _ G0 Gc0 r1 r2 G2 Gc2 r3 r4 G4 Gc4 r5 r6 W0 Wc0 W2 Wc2 W4 Wc4 _ DG.out DW.out q1 q3 q5 (by omega)).mono ?_
  rintro e w15 ⟨rfl, hb⟩
  replace X := Aside0.mk (blk_below X.out hb)
  replace Y := Aside0.mk (blk_below Y.out hb)
  replace Gb := Aside0.mk (blk_below Gb.out hb)
  replace DW := Aside0.mk (DW.out.below hb)
  replace DG := Aside0.mk (DG.out.below hb)
  replace HB := Aside0.mk (below_step HB.out hb)
  have s15 := hb.size
  clear hb
  clear z13_l z13_0 z13_1 z13_2 z13_3 z13_4 z13_5 z14_l z14_0 z14_1 z14_2 z14_3 z14_4 z14_5
  have z15_l := blk_lt Gb.out
  have z15_0 := blk_cell Gb.out 0
  have z15_1 := blk_cell Gb.out 1
  have z15_2 := blk_cell Gb.out 2
  have z15_3 := blk_cell Gb.out 3
  have z15_4 := blk_cell Gb.out 4
  have z15_5 := blk_cell Gb.out 5
  simp only [List.getElem?_toArray, List.getElem?_cons_zero, List.getElem?_cons_succ] at z15_0 z15_1 z15_2 z15_3 z15_4 z15_5
  go_wp2_with fail
  refine (markDisk_dk 3000000 1 w _ _ G0 Gc0 r1 r2 G2 Gc2 r3 r4 G4 Gc4 r5 r6 _ HB.out DG.out q1 q3 q5 (by omega) (by omega) (by omega)).mono ?_
  rintro e w16 ⟨rfl, hd, hb, hk⟩
  replace X := Aside0.mk (blk_kept X.out hk (by intro h; omega))
  replace Y := Aside0.mk (blk_kept Y.out hk (by intro h; omega))
  replace Gb := Aside0.mk (blk_kept Gb.out hk (by intro h; omega))
  replace DW := Aside0.mk (DW.out.kept hk (by intro k h1 h2 h3; omega))
  replace HB := Aside0.mk hb
  have s16 := hk.1
  replace DG := Aside0.mk hd
  clear hb hk hd
  clear z15_l z15_0 z15_1 z15_2 z15_3 z15_4 z15_5
  generalize hm3 : 1 + r1.length + r3.length + r5.length = m3
  have z16_l := blk_lt Gb.out
  have z16_0 := blk_cell Gb.out 0
  have z16_1 := blk_cell Gb.out 1
  have z16_2 := blk_cell Gb.out 2
  have z16_3 := blk_cell Gb.out 3
  have z16_4 := blk_cell Gb.out 4
  have z16_5 := blk_cell Gb.out 5
  simp only [List.getElem?_toArray, List.getElem?_cons_zero, List.getElem?_cons_succ] at z16_0 z16_1 z16_2 z16_3 z16_4 z16_5
  go_wp2_with fail
  refine (heldDisk_dk 3000000 1 w _ _ r1.length r3.length r5.length G0 Gc0 r2 G2 Gc2 r4 G4 Gc4 r6 _ DG.out q1 q3 q5 (by omega) (by omega)).mono ?_
  rintro e w17 ⟨rfl, hb⟩
  replace X := Aside0.mk (blk_below X.out hb)
  replace Y := Aside0.mk (blk_below Y.out hb)
  replace Gb := Aside0.mk (blk_below Gb.out hb)
  replace DW := Aside0.mk (DW.out.below hb)
  replace DG := Aside0.mk (DG.out.below hb)
  replace HB := Aside0.mk (below_step HB.out hb)
  have s17 := hb.size
  clear hb
  clear z16_l z16_0 z16_1 z16_2 z16_3 z16_4 z16_5
  rw [hm3]
  have hneg3 : decide ((m3 : Int) < 0) = false := decide_eq_false (by omega)
  have z17_l := blk_lt X.out
  have z17_0 := blk_cell X.out 0
  have z17_1 := blk_cell X.out 1
  have z17_2 := blk_cell X.out 2
  have z17_3 := blk_cell X.out 3
  have z17_4 := blk_cell X.out 4
  have z17_5 := blk_cell X.out 5
  simp only [List.getElem?_toArray, List.getElem?_cons_zero, List.getElem?_cons_succ] at z17_0 z17_1 z17_2 z17_3 z17_4 z17_5
  go_wp2_with fail
  refine (toDisk_dk 3000000 w A0 c0 l0 a1_ A2 c2 l2 a3_ A4 c4 l4 a5_ _ HB.out (Kd.C_below R0.out HB.out) hc0 (Kd.C_below R2.out HB.out) hc2 (Kd.C_below R4.out HB.out) hc4 hle (by omega)).mono ?_
  rintro e w18 ⟨T0, Tc0, T2, Tc2, T4, Tc4, rfl, hd, hb⟩
  replace X := Aside0.mk (blk_below X.out hb)
  replace Y := Aside0.mk (blk_below Y.out hb)
  replace Gb := Aside0.mk (blk_below Gb.out hb)
  replace DW := Aside0.mk (DW.out.below hb)
  replace DG := Aside0.mk (DG.out.below hb)
  replace HB := Aside0.mk (below_step HB.out hb)
  have s18 := hb.size
  clear hb
  clear z17_l z17_0 z17_1 z17_2 z17_3 z17_4 z17_5
  (try simp only [World.size_alloc] at hd)
  have DT := Aside0.mk hd
  clear hd
  go_wp2_with fail
  refine (toByteS_bk 3000000 w Ab cb b _ HB.out (Kd.C_below RB.out HB.out) hcb (by omega) (by omega)).mono ?_
  rintro e w19 ⟨Tb, Tbc, rfl, hd, hb⟩
  replace X := Aside0.mk (blk_below X.out hb)
  replace Y := Aside0.mk (blk_below Y.out hb)
  replace Gb := Aside0.mk (blk_below Gb.out hb)
  replace DW := Aside0.mk (DW.out.below hb)
  replace DG := Aside0.mk (DG.out.below hb)
  replace DT := Aside0.mk (DT.out.below hb)
  replace HB := Aside0.mk (below_step HB.out hb)
  have s19 := hb.size
  clear hb
  (try simp only [World.size_alloc] at hd)
  have BT := Aside0.mk hd
  clear hd
  go_wp2_with fail
  refine (impl_DiskAppend.calls T0 Tc0 l0 a1_ T2 Tc2 l2 a3_ T4 Tc4 l4 a5_ n Tb Tbc b r1 r2 r3 r4 r5 r6 r7 _ DT.out.k0.reads.1 DT.out.k0.reads.2 DT.out.k2.reads.1 DT.out.k2.reads.2 DT.out.k4.reads.1 DT.out.k4.reads.2 BT.out.reads.1 BT.out.reads.2 IM.out).mono ?_
  rintro e w20 ⟨v0, v2, v4, rfl, o0, o2, o4, hb⟩
  obtain ⟨H0, Hc0, H2, Hc2, H4, Hc4, rfl, rfl, rfl, hd⟩ := DK.of o0 o2 o4 HB.out
  clear o0 o2 o4
  clear DT
  clear BT
  replace X := Aside0.mk (blk_below X.out hb)
  replace Y := Aside0.mk (blk_below Y.out hb)
  replace Gb := Aside0.mk (blk_below Gb.out hb)
  replace DW := Aside0.mk (DW.out.below hb)
  replace DG := Aside0.mk (DG.out.below hb)
  replace HB := Aside0.mk (below_step HB.out hb)
  have s20 := hb.size
  clear hb
  (try simp only [World.size_alloc] at hd)
  have DH := Aside0.mk hd
  clear hd
  have z18_l := blk_lt Y.out
  have z18_0 := blk_cell Y.out 0
  have z18_1 := blk_cell Y.out 1
  have z18_2 := blk_cell Y.out 2
  have z18_3 := blk_cell Y.out 3
  have z18_4 := blk_cell Y.out 4
  have z18_5 := blk_cell Y.out 5
  simp only [List.getElem?_toArray, List.getElem?_cons_zero, List.getElem?_cons_succ] at z18_0 z18_1 z18_2 z18_3 z18_4 z18_5
  go_wp2_with fail
  have hba := below_alloc (Below.refl w20.heap.size w20) (.cells #[(.slice H0 r1.length Hc0), .int .i64 r2, (.slice H2 r3.length Hc2), .int .i64 r4, (.slice H4 r5.length Hc4), .int .i64 r6] 31)
  have NB := Aside0.mk (blk_new w20 (.cells #[(.slice H0 r1.length Hc0), .int .i64 r2, (.slice H2 r3.length Hc2), .int .i64 r4, (.slice H4 r5.length Hc4), .int .i64 r6] 31))
  refine (eqDisk_dk 3000000 w _ _ _ _ H0 Hc0 r1 r2 H2 Hc2 r3 r4 H4 Hc4 r5 r6 W0 Wc0 W2 Wc2 W4 Wc4 _ (DH.out.below hba) (DW.out.below hba) q1 q3 q5 (by omega)).mono ?_
  rintro e w21 ⟨rfl, hb⟩
  replace X := Aside0.mk (blk_below (blk_below X.out hba) hb)
  replace Y := Aside0.mk (blk_below (blk_below Y.out hba) hb)
  replace Gb := Aside0.mk (blk_below (blk_below Gb.out hba) hb)
  replace DW := Aside0.mk ((DW.out.below hba).below hb)
  replace DG := Aside0.mk ((DG.out.below hba).below hb)
  replace DH := Aside0.mk ((DH.out.below hba).below hb)
  replace HB := Aside0.mk (below_step (below_step HB.out hba) hb)
  have Hb := Aside0.mk (blk_below NB.out hb)
  clear NB
  have s21 := hb.size
  simp only [World.size_alloc] at s21
  clear hb hba
  clear z18_l z18_0 z18_1 z18_2 z18_3 z18_4 z18_5
  have z19_l := blk_lt Gb.out
  have z19_0 := blk_cell Gb.out 0
  have z19_1 := blk_cell Gb.out 1
  have z19_2 := blk_cell Gb.out 2
  have z19_3 := blk_cell Gb.out 3
  have z19_4 := blk_cell Gb.out 4
  have z19_5 := blk_cell Gb.out 5
  simp only [List.getElem?_toArray, List.getElem?_cons_zero, List.getElem?_cons_succ] at z19_0 z19_1 z19_2 z19_3 z19_4 z19_5
  go_wp2_with fail
  refine (heldDisk_dk 3000000 1 w _ _ r1.length r3.length r5.length G0 Gc0 r2 G2 Gc2 r4 G4 Gc4 r6 _ DG.out q1 q3 q5 (by omega) (by omega)).mono ?_
  rintro e w22 ⟨rfl, hb⟩
  replace X := Aside0.mk (blk_below X.out hb)
  replace Y := Aside0.mk (blk_below Y.out hb)
  replace Gb := Aside0.mk (blk_below Gb.out hb)
  replace Hb := Aside0.mk (blk_below Hb.out hb)
  replace DW := Aside0.mk (DW.out.below hb)
  replace DG := Aside0.mk (DG.out.below hb)
  replace DH := Aside0.mk (DH.out.below hb)
  replace HB := Aside0.mk (below_step HB.out hb)
  have s22 := hb.size
  clear hb
  clear z19_l z19_0 z19_1 z19_2 z19_3 z19_4 z19_5
  rw [hm3]
  go_wp2_with fail
  go_ret
  exact ⟨rfl, HB.out⟩
end Go.Proofs.Ytbapokpkgonjkaa.Print

/- The row of the law FnExactDiskAppend. No condition. -/
namespace Go.Proofs.Ytbapokpkgonjkaa.fnExactDiskAppend
open Go.ChangeShapes Go.WideShapes Go.ChangeAt Go.RowKit Print
open Go.ChangeMaps (open_string shut_string)
open Go.Proofs.YtbapokpkgonjkaaW.PrintWords Go.Proofs.YtbapokpkgonjkaaW.PrintLast Go.Proofs.YtbapokpkgonjkaaW.PrintMore
set_option linter.unusedVariables false
theorem own : ownKnob Try.prog.godebug = none := by kernel_rfl
theorem laidOut : laidOutB Try.prog = true := by kernel_rfl
set_option maxRecDepth 100000 in
theorem lifted (os : Os) (started : os.Started) (H : Type) (enc : TypeId × Value → H) :
    ReturnsInHanded {} Try.checked os 12 .any (Rows.fnExactDiskAppendSpec.pre6 enc Try.prog Try.f12 Rows.fnExactDiskAppendRow.domain false) (Rows.fnExactDiskAppendSpec.post enc Try.prog Try.f12 false true false false) := by
  refine returnsInHanded_of_change_sized (C := Try.checked) own started (by kernel_rfl) Try.func12
    (ChangeSpec.witness6 (enc := enc) (C := Try.checked) false ⟨#[], #[.agg #[.slice none 0 0, .int .i64 0, .slice none 0 0, .int .i64 0, .slice none 0 0, .int .i64 0], .int .i64 0, .slice none 0 0], []⟩ 8 (by kernel_rfl) (by kernel_rfl) (by kernel_rfl) (by kernel_rfl)) ?_
  intro W base args ds gs before hval0 hW hcnd hsz0 _
  have hsz : (DataW.weightsEach Try.prog (Try.f12.params.toList ++ Rows.fnExactDiskAppendSpec.plain.varTypes Try.prog) (ds ++ gs)).all (· ≤ reachBytes) = true := hsz0
  have hval : ∀ (j : Nat) t v, Try.f12.params[j]? = some t → args[j]? = some v → Value.okWide Try.prog W .any base t v := hval0
  have hW' := hW
  obtain ⟨p, q, hA0, hV, rfl, hfz, hnd⟩ := hW
  have hA : DataW.TrodAll enc Try.prog W 0 (fun _ => true) true Try.f12.params.toList args.toList ds p := hA0
  rw [Try.params12] at hA hval hsz
  obtain ⟨v0, vs0, d0, ds0, p0, q0, hargs, rfl, rfl, h0, r0⟩ := trodAll_cons hA
  obtain ⟨v1, vs1, d1, ds1, p1, q1, rfl, rfl, rfl, h1, r1⟩ := trodAll_cons r0
  obtain ⟨v2, vs2, d2, ds2, p2, q2, rfl, rfl, rfl, h2, r2⟩ := trodAll_cons r1
  obtain ⟨rfl, rfl, rfl⟩ := trodAll_nil r2
  obtain rfl : args = #[v0, v1, v2] := by cases args; simp_all
  obtain ⟨rfl, rfl⟩ := trodVars_none hV
  have k0 := h0
  have lt0 : ∀ x ∈ p0, x.block < W.heap.size := by obtain ⟨m, hm⟩ := k0; exact DataW.trod_lt m _ _ _ hm
  have k1 := h1
  have lt1 : ∀ x ∈ p1, x.block < W.heap.size := by obtain ⟨m, hm⟩ := k1; exact DataW.trod_lt m _ _ _ hm
  have k2 := h2
  have lt2 : ∀ x ∈ p2, x.block < W.heap.size := by obtain ⟨m, hm⟩ := k2; exact DataW.trod_lt m _ _ _ hm
  obtain ⟨A0_0, c0_0, l0_0, a0_1, A0_2, c0_2, l0_2, a0_3, A0_4, c0_4, l0_4, a0_5, rfl, hd0_0, hc0_0, hd0_2, hc0_2, hd0_4, hc0_4, g0_0, g0_2, g0_4, w0_0, w0_2, w0_4, w0_1, w0_3, w0_5⟩ := disk_open hsz (j := 0) rfl rfl (hval 0 26 v0 rfl rfl) h0
  obtain ⟨n1, rfl, rfl, rfl, w1⟩ := open_int Try.underlying3 (hval 1 3 v1 rfl rfl) h1
  obtain ⟨A2, c2, l2, rfl, hd2, hc2, g2, w2⟩ := bytes_open hsz (j := 2) rfl rfl (hval 2 22 v2 rfl rfl) h2
  clear hA0 hval0 hsz0 hsz
  refine (FnExactDiskAppend_walk A0_0 c0_0 l0_0 a0_1 A0_2 c0_2 l0_2 a0_3 A0_4 c0_4 l0_4 a0_5 n1 A2 c2 l2 W hd0_0 hc0_0 hd0_2 hc0_2 hd0_4 hc0_4 hd2 hc2 g0_0 g0_2 g0_4 g2 (fun _ hb => DiskAppend_same l0_0 l0_2 l0_4 l2 a0_1 a0_3 a0_5 n1 hb)).mono fun e W' ⟨he, bel⟩ => ?_
  subst he
  exact ⟨_, rfl, _, _, _, [], _, [], hW', trodAll_mk1 (shut_bool Try.underlying4 _), (trodAll_cons_mk (Below.trod laidOut (by kernel_rfl) (of_decide_eq_true (by kernel_rfl)) k0 bel lt0) (trodAll_cons_mk (Below.trod laidOut (by kernel_rfl) (of_decide_eq_true (by kernel_rfl)) k1 bel lt1) (trodAll_cons_mk (Below.trod laidOut (by kernel_rfl) (of_decide_eq_true (by kernel_rfl)) k2 bel lt2) trodAll_mk0))), rfl, bel.frame _, fun h => by cases h⟩
theorem over : Rows.fnExactDiskAppendRow.holds Try.pinned (OpenSpec.ofChange Rows.fnExactDiskAppendSpec) :=
  OpenClaim.holds_of_wide 12 Try.f12 rfl rfl rfl rfl rfl rfl rfl ⟨rfl, rfl, rfl, rfl, rfl⟩ rfl rfl rfl rfl rfl (by kernel_rfl) Try.func12 (by kernel_rfl)
    (of_decide_eq_true (by kernel_rfl)) (by unfold Func.isWrapper; first | (rw [if_pos (by decide +kernel)]; kernel_rfl) | (rw [if_neg (by decide +kernel)]; exact ⟨rfl, rfl⟩))
    (fun os started H enc _ => lifted os started H enc)
theorem proved : Rows.FnExactDiskAppendSaid := over
#print axioms proved
end Go.Proofs.Ytbapokpkgonjkaa.fnExactDiskAppend
namespace Go.Proofs.Ytbapokpkgonjkaa
/-- The row, under a short name, for the claim. -/
theorem fnExactDiskAppend_holds : Rows.FnExactDiskAppendSaid := fnExactDiskAppend.proved
end Go.Proofs.Ytbapokpkgonjkaa
