/- A disk that a call owns, as one fact; the statements' helpers on disks, told by it. -/
import Derived.Test.YtbapokpkgonjkaaHPureDisk
namespace Go.Proofs.Ytbapokpkgonjkaa.Print
open Go.RowKit Go.Proofs.YtbapokpkgonjkaaW.PrintWords Go.Proofs.YtbapokpkgonjkaaW.PrintLast Go.Proofs.YtbapokpkgonjkaaW.PrintMore
set_option linter.unusedVariables false
set_option linter.unusedSimpArgs false

def OB (A : Option Addr) (n c : Nat) (k : Nat) : Prop := some k = (Value.slice A n c).ownBlock
/-- A row of bytes in a block from lo to hi. -/
structure BK (w0 W : World) (lo hi : Nat) (A : Option Addr) (c : Nat) (l : List Int) : Prop where
  r : Kd.R (Kd.int .u8) 5 W w0.heap.size (fun k => OB A l.length c k) (.slice A l.length c) l
  b : ∀ k, OB A l.length c k → lo ≤ k ∧ k < hi
theorem BK.reads {w0 W : World} {lo hi : Nat} {A : Option Addr} {c : Nat} {l : List Int} (h : BK w0 W lo hi A c l) : Kd.C (Kd.int .u8) W A l.length l ∧ l.length ≤ c := ⟨(Kd.R_reads' h.r).2.2, (Kd.R_reads' h.r).2.1⟩
theorem BK.of {w0 w W : World} {ok : Nat → Prop} {A : Option Addr} {c : Nat} {l : List Int} (h : Kd.R (Kd.int .u8) 5 W w.heap.size ok (.slice A l.length c) l) (hB : Below w0.heap.size w0 w) : BK w0 W w.heap.size W.heap.size A c l :=
  ⟨Kd.R_tight rfl (Kd.R_lower h hB.size), fun k hk => ⟨Kd.R_base h k hk.symm, Kd.R_lt h k hk.symm⟩⟩
theorem BK.kept {w0 W W' : World} {lo hi : Nat} {A : Option Addr} {c : Nat} {l : List Int} {S : Nat → Prop} (h : BK w0 W lo hi A c l) (hk : Kept W W' S) (hS : ∀ k, lo ≤ k → k < hi → ¬ S k) : BK w0 W' lo hi A c l :=
  ⟨Kd.R_kept h.r hk (fun k ho => hS k (h.b k ho).1 (h.b k ho).2), h.b⟩
theorem BK.below {w0 W W' : World} {lo hi : Nat} {A : Option Addr} {c : Nat} {l : List Int} (h : BK w0 W lo hi A c l) (hb : Below W.heap.size W W') : BK w0 W' lo hi A c l := ⟨Kd.R_below h.r hb, h.b⟩
theorem kept_below {w W : World} {S : Nat → Prop} (h : Below w.heap.size w W) : Kept w W S := ⟨h.size, fun i hi _ => h.block i hi⟩

structure DK (w0 W : World) (lo hi : Nat) (A0 : Option Addr) (c0 : Nat) (l0 : List Int) (A2 : Option Addr) (c2 : Nat) (l2 : List Int) (A4 : Option Addr) (c4 : Nat) (l4 : List Int) : Prop where
  k0 : BK w0 W lo hi A0 c0 l0
  k2 : BK w0 W lo hi A2 c2 l2
  k4 : BK w0 W lo hi A4 c4 l4
  n02 : ∀ k, OB A0 l0.length c0 k → ¬ OB A2 l2.length c2 k
  n04 : ∀ k, OB A0 l0.length c0 k → ¬ OB A4 l4.length c4 k
  n24 : ∀ k, OB A2 l2.length c2 k → ¬ OB A4 l4.length c4 k
section
variable {w0 w W W' : World} {lo hi : Nat} {A0 A2 A4 : Option Addr} {c0 c2 c4 : Nat} {l0 l2 l4 : List Int}
theorem DK.of {v0 v2 v4 : Value} (h0 : Kd.R (Kd.int .u8) 5 W w.heap.size (fun k_ => some k_ ≠ (v2 : Value).ownBlock ∧ some k_ ≠ (v4 : Value).ownBlock) v0 l0) (h2 : Kd.R (Kd.int .u8) 5 W w.heap.size (fun k_ => some k_ ≠ (v0 : Value).ownBlock ∧ some k_ ≠ (v4 : Value).ownBlock) v2 l2) (h4 : Kd.R (Kd.int .u8) 5 W w.heap.size (fun k_ => some k_ ≠ (v0 : Value).ownBlock ∧ some k_ ≠ (v2 : Value).ownBlock) v4 l4) (hB : Below w0.heap.size w0 w) :
    ∃ A0 c0 A2 c2 A4 c4, v0 = .slice A0 l0.length c0 ∧ v2 = .slice A2 l2.length c2 ∧ v4 = .slice A4 l4.length c4 ∧ DK w0 W w.heap.size W.heap.size A0 c0 l0 A2 c2 l2 A4 c4 l4 := by
  obtain ⟨A0, c0, rfl⟩ := Kd.R_slice h0
  obtain ⟨A2, c2, rfl⟩ := Kd.R_slice h2
  obtain ⟨A4, c4, rfl⟩ := Kd.R_slice h4
  exact ⟨A0, c0, A2, c2, A4, c4, rfl, rfl, rfl, BK.of h0 hB, BK.of h2 hB, BK.of h4 hB, fun k hk => (h0.1 k hk.symm).1, fun k hk => (h0.1 k hk.symm).2, fun k hk => (h2.1 k hk.symm).2⟩
theorem DK.kept {S : Nat → Prop} (h : DK w0 W lo hi A0 c0 l0 A2 c2 l2 A4 c4 l4) (hk : Kept W W' S) (hS : ∀ k, lo ≤ k → k < hi → ¬ S k) : DK w0 W' lo hi A0 c0 l0 A2 c2 l2 A4 c4 l4 :=
  ⟨h.k0.kept hk hS, h.k2.kept hk hS, h.k4.kept hk hS, h.n02, h.n04, h.n24⟩
theorem DK.below (h : DK w0 W lo hi A0 c0 l0 A2 c2 l2 A4 c4 l4) (hb : Below W.heap.size W W') : DK w0 W' lo hi A0 c0 l0 A2 c2 l2 A4 c4 l4 :=
  ⟨h.k0.below hb, h.k2.below hb, h.k4.below hb, h.n02, h.n04, h.n24⟩
end

/-- toDisk, its answer as one fact. -/
theorem toDisk_dk (k : Nat) (w0 : World) (A0 : Option Addr) (c0 : Nat) (l0 : List Int) (a1 : Int) (A2 : Option Addr) (c2 : Nat) (l2 : List Int) (a3 : Int) (A4 : Option Addr) (c4 : Nat) (l4 : List Int) (a5 : Int) (w : World) (hB : Below w0.heap.size w0 w)
    (h0 : Kd.C (Kd.int .u8) w A0 l0.length l0) (hc0 : l0.length ≤ c0) (h2 : Kd.C (Kd.int .u8) w A2 l2.length l2) (hc2 : l2.length ≤ c2) (h4 : Kd.C (Kd.int .u8) w A4 l4.length l4) (hc4 : l4.length ≤ c4) (hl : l0.length + l2.length + l4.length ≤ 1048576) (hk : 1048576 < k) :
    Calls Try.prog 17 #[.agg #[.slice A0 l0.length c0, .int .i64 a1, .slice A2 l2.length c2, .int .i64 a3, .slice A4 l4.length c4, .int .i64 a5]] w fun e w' => ∃ B0 d0 B2 d2 B4 d4, e = .returned (.agg #[.slice B0 l0.length d0, .int .i64 a1, .slice B2 l2.length d2, .int .i64 a3, .slice B4 l4.length d4, .int .i64 a5]) ∧ DK w0 w' w.heap.size w'.heap.size B0 d0 l0 B2 d2 l2 B4 d4 l4 ∧ Below w.heap.size w w' := by
  refine (laws_toDisk.calls k A0 c0 l0 a1 A2 c2 l2 a3 A4 c4 l4 a5 l0 a1 l2 a3 l4 a5 w h0 hc0 h2 hc2 h4 hc4 (toDisk_f l0 l2 l4 a1 a3 a5 k hl hk)).mono ?_
  rintro e w' ⟨v0, v2, v4, rfl, r0, r2, r4, hb⟩
  obtain ⟨B0, d0, B2, d2, B4, d4, rfl, rfl, rfl, hd⟩ := DK.of r0 r2 r4 hB
  exact ⟨B0, d0, B2, d2, B4, d4, rfl, hd, hb⟩
/-- markDisk on a disk that is owned: it is written, all else stays. -/
theorem markDisk_dk (k m : Nat) (w0 : World) (lo hi : Nat) (A0 : Option Addr) (c0 : Nat) (l0 : List Int) (a1 : Int) (A2 : Option Addr) (c2 : Nat) (l2 : List Int) (a3 : Int) (A4 : Option Addr) (c4 : Nat) (l4 : List Int) (a5 : Int) (w : World) (hB : Below w0.heap.size w0 w) (hd : DK w0 w lo hi A0 c0 l0 A2 c2 l2 A4 c4 l4)
    (g0 : l0.length ≤ 2097152) (g2 : l2.length ≤ 2097152) (g4 : l4.length ≤ 2097152) (hm : m ≤ 100000000) (hk : 2097152 < k) (hhi : hi ≤ w.heap.size) :
    Calls Try.prog 41 #[.agg #[.slice A0 l0.length c0, .int .i64 a1, .slice A2 l2.length c2, .int .i64 a3, .slice A4 l4.length c4, .int .i64 a5], .int .i64 m] w fun e w' => e = .returned (.int .i64 ((m + l0.length + l2.length + l4.length : Nat) : Int)) ∧ DK w0 w' lo hi A0 c0 (marksB l0.length m) A2 c2 (marksB l2.length (m + l0.length)) A4 c4 (marksB l4.length (m + l0.length + l2.length)) ∧ Below w0.heap.size w0 w' ∧ Kept w w' (fun k => lo ≤ k ∧ k < hi) := by
  refine (laws_markDisk.calls k (OB A0 l0.length c0) _ l0 a1 (OB A2 l2.length c2) _ l2 a3 (OB A4 l4.length c4) _ l4 a5 m _ _ _ _ w0 w hB hd.k0.r (fun k h h' => hd.n02 k h h') (fun k h h' => hd.n04 k h h') hd.k2.r (fun k h h' => hd.n02 k h' h) (fun k h h' => hd.n24 k h h') hd.k4.r (fun k h h' => hd.n04 k h' h) (fun k h h' => hd.n24 k h' h) (markDisk_f l0 l2 l4 a1 a3 a5 m k g0 g2 g4 hm hk)).mono ?_
  rintro e w' ⟨rfl, r0, r2, r4, hb, hkp⟩
  have hS : ∀ k, (OB A0 l0.length c0 k ∨ OB A2 l2.length c2 k ∨ OB A4 l4.length c4 k) → lo ≤ k ∧ k < hi := fun k h => by
    rcases h with h | h | h
    · exact hd.k0.b k h
    · exact hd.k2.b k h
    · exact hd.k4.b k h
  refine ⟨rfl, ⟨⟨?_, ?_⟩, ⟨?_, ?_⟩, ⟨?_, ?_⟩, ?_, ?_, ?_⟩, hb, hkp.1, fun i hi hn => hkp.2 i hi (fun h => hn (hS i h))⟩
  all_goals simp only [marksB_length]
  · exact Kd.R_tight rfl r0
  · exact hd.k0.b
  · exact Kd.R_tight rfl r2
  · exact hd.k2.b
  · exact Kd.R_tight rfl r4
  · exact hd.k4.b
  · exact hd.n02
  · exact hd.n04
  · exact hd.n24
/-- eqDisk of two that are owned and equal. -/
theorem eqDisk_dk (k : Nat) (w0 : World) (lo hi lo' hi' : Nat) (A0 : Option Addr) (c0 : Nat) (l0 : List Int) (a1 : Int) (A2 : Option Addr) (c2 : Nat) (l2 : List Int) (a3 : Int) (A4 : Option Addr) (c4 : Nat) (l4 : List Int) (a5 : Int) (B0 : Option Addr) (d0 : Nat) (B2 : Option Addr) (d2 : Nat) (B4 : Option Addr) (d4 : Nat) (w : World)
    (hd : DK w0 w lo hi A0 c0 l0 A2 c2 l2 A4 c4 l4) (hd' : DK w0 w lo' hi' B0 d0 l0 B2 d2 l2 B4 d4 l4) (g0 : l0.length ≤ 2097152) (g2 : l2.length ≤ 2097152) (g4 : l4.length ≤ 2097152) (hk : 2097152 < k) :
    Calls Try.prog 19 #[.agg #[.slice A0 l0.length c0, .int .i64 a1, .slice A2 l2.length c2, .int .i64 a3, .slice A4 l4.length c4, .int .i64 a5], .agg #[.slice B0 l0.length d0, .int .i64 a1, .slice B2 l2.length d2, .int .i64 a3, .slice B4 l4.length d4, .int .i64 a5]] w fun e w' => e = .returned (.bool true) ∧ Below w.heap.size w w' :=
  laws_eqDisk.calls k A0 c0 l0 a1 A2 c2 l2 a3 A4 c4 l4 a5 B0 d0 l0 a1 B2 d2 l2 a3 B4 d4 l4 a5 true w hd.k0.reads.1 hd.k0.reads.2 hd.k2.reads.1 hd.k2.reads.2 hd.k4.reads.1 hd.k4.reads.2 hd'.k0.reads.1 hd'.k0.reads.2 hd'.k2.reads.1 hd'.k2.reads.2 hd'.k4.reads.1 hd'.k4.reads.2 (eqDisk_self l0 l2 l4 a1 a3 a5 k g0 g2 g4 hk)
/-- heldDisk of one that is marked. -/
theorem heldDisk_dk (k m : Nat) (w0 : World) (lo hi n0 n2 n4 : Nat) (A0 : Option Addr) (c0 : Nat) (a1 : Int) (A2 : Option Addr) (c2 : Nat) (a3 : Int) (A4 : Option Addr) (c4 : Nat) (a5 : Int) (w : World)
    (hd : DK w0 w lo hi A0 c0 (marksB n0 m) A2 c2 (marksB n2 (m + n0)) A4 c4 (marksB n4 (m + n0 + n2))) (g0 : n0 ≤ 2097152) (g2 : n2 ≤ 2097152) (g4 : n4 ≤ 2097152) (hm : m ≤ 100000000) (hk : 2097152 < k) :
    Calls Try.prog 42 #[.agg #[.slice A0 n0 c0, .int .i64 a1, .slice A2 n2 c2, .int .i64 a3, .slice A4 n4 c4, .int .i64 a5], .int .i64 m] w fun e w' => e = .returned (.int .i64 ((m + n0 + n2 + n4 : Nat) : Int)) ∧ Below w.heap.size w w' := by
  have h := laws_heldDisk.calls k A0 c0 (marksB n0 m) a1 A2 c2 (marksB n2 (m + n0)) a3 A4 c4 (marksB n4 (m + n0 + n2)) a5 m _ w hd.k0.reads.1 hd.k0.reads.2 hd.k2.reads.1 hd.k2.reads.2 hd.k4.reads.1 hd.k4.reads.2 (heldDisk_f n0 n2 n4 a1 a3 a5 m k g0 g2 g4 hm hk)
  simp only [marksB_length] at h
  exact h

end Go.Proofs.Ytbapokpkgonjkaa.Print
