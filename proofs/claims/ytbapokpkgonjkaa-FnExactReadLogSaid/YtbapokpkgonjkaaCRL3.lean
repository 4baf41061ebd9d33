/- Texts of this session, joined by its own program. -/
import Derived.Test.YtbapokpkgonjkaaCRL0
import Derived.Test.YtbapokpkgonjkaaCRL1
import Derived.Test.YtbapokpkgonjkaaCRL2
import Derived.Laws.BitsAllLaws
/- Plain laws of the statements' own helpers on bytes: toX copies, eqX of a thing with itself, heldX behind markX. -/
namespace Go.Proofs.Ytbapokpkgonjkaa.Print
open Go.RowKit Go.Proofs.YtbapokpkgonjkaaW.PrintWords Go.Proofs.YtbapokpkgonjkaaW.PrintLast Go.Proofs.YtbapokpkgonjkaaW.PrintMore

theorem wrap_up (i : Nat) (h : i ≤ 140737488355328) : wrap64 ((i : Int) + 1) = ((i + 1 : Nat) : Int) := by
  unfold wrap64; omega
theorem rd_nat (l : List Int) (i : Nat) : rd l (i : Int) = l.getD i 0 := by
  unfold rd; rw [Int.toNat_natCast]
theorem getD_at (l : List Int) (i : Nat) (h : i < l.length) : l.getD i 0 = l[i] := by
  rw [List.getD_eq_getElem?_getD, List.getElem?_eq_getElem h]; rfl

theorem toByteS_loop (l : List Int) (hl : l.length ≤ 140737488351232) (d : Nat) : ∀ (k i : Nat) (x : List Int), x.length = l.length → i + d = l.length → d < k →
    (∀ j, j < i → x[j]? = l[j]?) → laws_toByteS.l0 k l x (i : Int) = some l := by
  induction d with
  | zero =>
    intro k i x hx hi hk hj
    obtain ⟨k, rfl⟩ : ∃ m, k = m + 1 := ⟨k - 1, by omega⟩
    simp only [laws_toByteS.l0]
    rw [if_neg (by omega)]
    congr 1
    apply List.ext_getElem?
    intro j
    rcases Nat.lt_or_ge j i with h | h
    · exact hj j h
    · rw [List.getElem?_eq_none (by omega), List.getElem?_eq_none (by omega)]
  | succ d ih =>
    intro k i x hx hi hk hj
    obtain ⟨k, rfl⟩ : ∃ m, k = m + 1 := ⟨k - 1, by omega⟩
    simp only [laws_toByteS.l0]
    rw [if_pos (by omega), if_pos (by omega), if_pos (by omega), wrap_up i (by omega)]
    refine ih k (i + 1) _ (by rw [List.length_set]; exact hx) (by omega) (by omega) ?_
    intro j h
    rw [Int.toNat_natCast, List.getElem?_set]
    by_cases e : i = j
    · subst e
      rw [if_pos rfl, if_pos (by omega), rd_nat, List.getD_eq_getElem?_getD, List.getElem?_eq_getElem (by omega)]
      rfl
    · rw [if_neg e]
      exact hj j (by omega)
theorem toByteS_f (l : List Int) (hl : l.length ≤ 140737488351232) (k : Nat) (hk : l.length < k) : laws_toByteS.f k l = some l := by
  unfold laws_toByteS.f
  rw [if_pos (by omega), if_pos (by omega)]
  exact toByteS_loop l hl l.length k 0 _ (by rw [List.length_replicate]; omega) (by omega) hk (fun j h => absurd h (by omega))

theorem eqByteS_loop (l : List Int) (hl : l.length ≤ 140737488351232) (d : Nat) : ∀ (k i : Nat), i + d = l.length → d < k → laws_eqByteS.l0 k l l (i : Int) = some true := by
  induction d with
  | zero =>
    intro k i hi hk
    obtain ⟨k, rfl⟩ : ∃ m, k = m + 1 := ⟨k - 1, by omega⟩
    simp only [laws_eqByteS.l0]
    rw [if_neg (by omega)]
  | succ d ih =>
    intro k i hi hk
    obtain ⟨k, rfl⟩ : ∃ m, k = m + 1 := ⟨k - 1, by omega⟩
    simp only [laws_eqByteS.l0]
    rw [if_pos (by omega), if_pos (by omega), if_pos (by omega), if_pos trivial, wrap_up i (by omega)]
    exact ih k (i + 1) (by omega) (by omega)
theorem eqByteS_self (l : List Int) (hl : l.length ≤ 140737488351232) (k : Nat) (hk : l.length < k) : laws_eqByteS.f k l l = some true := by
  unfold laws_eqByteS.f
  rw [if_pos rfl]
  exact eqByteS_loop l hl l.length k 0 (by omega) hk

/-- the bytes that markX writes from number m on -/
def marksB (n : Nat) (m : Nat) : List Int := (List.range n).map fun i => ((m + i : Nat) : Int) % 256
theorem marksB_length (n m : Nat) : (marksB n m).length = n := by simp [marksB]
theorem marksB_at (n m i : Nat) (h : i < n) : (marksB n m)[i]? = some (((m + i : Nat) : Int) % 256) := by simp [marksB, h]

theorem markByteS_loop (n m : Nat) (hm : m + n ≤ 140737488351232) (d : Nat) : ∀ (k i : Nat) (x : List Int), x.length = n → i + d = n → d < k → (∀ j, j < i → x[j]? = (marksB n m)[j]?) →
    laws_markByteS.l0 k x ((m + i : Nat) : Int) (i : Int) = some (((m + n : Nat) : Int), marksB n m) := by
  induction d with
  | zero =>
    intro k i x hx hi hk hj
    obtain ⟨k, rfl⟩ : ∃ m, k = m + 1 := ⟨k - 1, by omega⟩
    simp only [laws_markByteS.l0]
    rw [if_neg (by omega)]
    have e : x = marksB n m := by
      apply List.ext_getElem?
      intro j
      rcases Nat.lt_or_ge j i with h | h
      · exact hj j h
      · rw [List.getElem?_eq_none (by omega), List.getElem?_eq_none (by rw [marksB_length]; omega)]
    rw [e, show i = n by omega]
  | succ d ih =>
    intro k i x hx hi hk hj
    obtain ⟨k, rfl⟩ : ∃ m, k = m + 1 := ⟨k - 1, by omega⟩
    simp only [laws_markByteS.l0]
    rw [if_pos (by omega), if_pos (by omega), wrap_up i (by omega), wrap_up (m + i) (by omega)]
    refine ih k (i + 1) _ (by rw [List.length_set]; exact hx) (by omega) (by omega) ?_
    intro j h
    rw [Int.toNat_natCast, List.getElem?_set]
    by_cases e : i = j
    · subst e
      rw [if_pos rfl, if_pos (by omega), marksB_at n m i (by omega)]
    · rw [if_neg e]
      exact hj j (by omega)
theorem markByteS_f (l : List Int) (m : Nat) (hm : m + l.length ≤ 140737488351232) (k : Nat) (hk : l.length < k) : laws_markByteS.f k l (m : Int) = some (((m + l.length : Nat) : Int), marksB l.length m) := by
  unfold laws_markByteS.f
  exact markByteS_loop l.length m hm l.length k 0 l rfl (by omega) hk (fun j h => absurd h (by omega))
theorem heldByteS_loop (n m : Nat) (hm : m + n ≤ 140737488351232) (d : Nat) : ∀ (k i : Nat), i + d = n → d < k → laws_heldByteS.l0 k (marksB n m) ((m + i : Nat) : Int) (i : Int) = some (((m + n : Nat) : Int)) := by
  induction d with
  | zero =>
    intro k i hi hk
    obtain ⟨k, rfl⟩ : ∃ m, k = m + 1 := ⟨k - 1, by omega⟩
    simp only [laws_heldByteS.l0]
    rw [if_neg (by rw [marksB_length]; omega), show i = n by omega]
  | succ d ih =>
    intro k i hi hk
    obtain ⟨k, rfl⟩ : ∃ m, k = m + 1 := ⟨k - 1, by omega⟩
    simp only [laws_heldByteS.l0]
    have hr : rd (marksB n m) (i : Int) = ((m + i : Nat) : Int) % 256 := by
      rw [rd_nat, List.getD_eq_getElem?_getD, marksB_at n m i (by omega)]; rfl
    rw [if_pos (by rw [marksB_length]; omega), if_pos (by omega), if_pos hr, wrap_up i (by omega), wrap_up (m + i) (by omega)]
    exact ih k (i + 1) (by omega) (by omega)
theorem heldByteS_f (n m : Nat) (hm : m + n ≤ 140737488351232) (k : Nat) (hk : n < k) : laws_heldByteS.f k (marksB n m) (m : Int) = some (((m + n : Nat) : Int)) := by
  unfold laws_heldByteS.f
  exact heldByteS_loop n m hm n k 0 (by omega) hk
theorem szByteS_f (l : List Int) (left : Int) (h0 : left ≤ 1048576) (h1 : -1048576 ≤ left) (hl : l.length ≤ 140737488351232) : laws_szByteS.f l left = some (if left - l.length < 0 then -1 else left - l.length) := by
  unfold laws_szByteS.f
  have e : wrap64 (left - (l.length : Int)) = left - l.length := by unfold wrap64; omega
  rw [e]
  split <;> rfl

end Go.Proofs.Ytbapokpkgonjkaa.Print

/- Plain laws of the statements' own helpers on disks: toX copies, eqX of a thing with itself, heldX behind markX, szX. -/
namespace Go.Proofs.Ytbapokpkgonjkaa.Print
open Go.RowKit Go.Proofs.YtbapokpkgonjkaaW.PrintWords Go.Proofs.YtbapokpkgonjkaaW.PrintLast Go.Proofs.YtbapokpkgonjkaaW.PrintMore

/-- what szDisk leaves -/
def leftB (n : Nat) (left : Int) : Int := if left - n < 0 then -1 else left - n
theorem szFile_f (l : List Int) (a left : Int) (h0 : left ≤ 1048576) (h1 : -1048576 ≤ left) (hl : l.length ≤ 140737488351232) : laws_szFile.f l a left = some (leftB l.length left) := by
  unfold laws_szFile.f
  rw [szByteS_f l left h0 h1 hl]
  simp only [Option.bind_some]
  unfold leftB
  by_cases c : left - (l.length : Int) < 0
  · rw [if_pos c, if_pos (by decide)]
  · rw [if_neg c, if_neg c]
/-- whether a disk is small enough, and what is left -/
def leftD (n0 n2 n4 : Nat) (left : Int) : Int := if leftB n0 left < 0 then -1 else if leftB n2 (leftB n0 left) < 0 then -1 else if leftB n4 (leftB n2 (leftB n0 left)) < 0 then -1 else leftB n4 (leftB n2 (leftB n0 left))
theorem leftB_range (n : Nat) (left : Int) (h0 : left ≤ 1048576) (h1 : 0 ≤ left) : leftB n left ≤ 1048576 ∧ -1 ≤ leftB n left := by unfold leftB; split <;> omega
theorem szDisk_f (l0 l2 l4 : List Int) (a1 a3 a5 : Int) (left : Int) (h0 : left ≤ 1048576) (h1 : 0 ≤ left) (g0 : l0.length ≤ 140737488351232) (g2 : l2.length ≤ 140737488351232) (g4 : l4.length ≤ 140737488351232) : laws_szDisk.f l0 a1 l2 a3 l4 a5 left = some (leftD l0.length l2.length l4.length left) := by
  unfold laws_szDisk.f leftD
  have r0 := leftB_range l0.length left h0 h1
  rw [szFile_f l0 a1 left h0 (by omega) g0]
  simp only [Option.bind_some]
  by_cases c : leftB l0.length left < 0
  · rw [if_pos c, if_pos c]
  · rw [if_neg c, if_neg c, szFile_f l2 a3 _ (by omega) (by omega) g2]
    simp only [Option.bind_some]
    have r2 := leftB_range l2.length _ r0.1 (by omega)
    by_cases c2 : leftB l2.length (leftB l0.length left) < 0
    · rw [if_pos c2, if_pos c2]
    · rw [if_neg c2, if_neg c2, szFile_f l4 a5 _ (by omega) (by omega) g4]
      simp only [Option.bind_some]
      split <;> rfl
theorem leftD_ok {n0 n2 n4 : Nat} (h : ¬ leftD n0 n2 n4 1048576 < 0) : n0 + n2 + n4 ≤ 1048576 := by
  unfold leftD leftB at h
  repeat' split at h
  all_goals omega
theorem toDisk_f (l0 l2 l4 : List Int) (a1 a3 a5 : Int) (k : Nat) (h : l0.length + l2.length + l4.length ≤ 1048576) (hk : 1048576 < k) : laws_toDisk.f k l0 a1 l2 a3 l4 a5 = some (l0, a1, l2, a3, l4, a5) := by
  unfold laws_toDisk.f laws_toFile.f
  rw [toByteS_f l0 (by omega) k (by omega), toByteS_f l2 (by omega) k (by omega), toByteS_f l4 (by omega) k (by omega)]
  rfl
theorem eqDisk_self (l0 l2 l4 : List Int) (a1 a3 a5 : Int) (k : Nat) (h0 : l0.length ≤ 2097152) (h2 : l2.length ≤ 2097152) (h4 : l4.length ≤ 2097152) (hk : 2097152 < k) : laws_eqDisk.f k l0 a1 l2 a3 l4 a5 l0 a1 l2 a3 l4 a5 = some true := by
  unfold laws_eqDisk.f laws_eqFile.f
  rw [eqByteS_self l0 (by omega) k (by omega), eqByteS_self l2 (by omega) k (by omega), eqByteS_self l4 (by omega) k (by omega)]
  simp
theorem markDisk_f (l0 l2 l4 : List Int) (a1 a3 a5 : Int) (m k : Nat) (h0 : l0.length ≤ 2097152) (h2 : l2.length ≤ 2097152) (h4 : l4.length ≤ 2097152) (hm : m ≤ 100000000) (hk : 2097152 < k) :
    laws_markDisk.f k l0 a1 l2 a3 l4 a5 (m : Int) = some (((m + l0.length + l2.length + l4.length : Nat) : Int), marksB l0.length m, marksB l2.length (m + l0.length), marksB l4.length (m + l0.length + l2.length)) := by
  unfold laws_markDisk.f laws_markFile.f
  rw [markByteS_f l0 m (by omega) k (by omega)]
  simp only [Option.bind_some]
  rw [markByteS_f l2 (m + l0.length) (by omega) k (by omega)]
  simp only [Option.bind_some]
  rw [markByteS_f l4 (m + l0.length + l2.length) (by omega) k (by omega)]
  rfl
theorem heldDisk_f (n0 n2 n4 : Nat) (a1 a3 a5 : Int) (m k : Nat) (h0 : n0 ≤ 2097152) (h2 : n2 ≤ 2097152) (h4 : n4 ≤ 2097152) (hm : m ≤ 100000000) (hk : 2097152 < k) :
    laws_heldDisk.f k (marksB n0 m) a1 (marksB n2 (m + n0)) a3 (marksB n4 (m + n0 + n2)) a5 (m : Int) = some (((m + n0 + n2 + n4 : Nat) : Int)) := by
  unfold laws_heldDisk.f laws_heldFile.f
  rw [heldByteS_f n0 m (by omega) k (by omega)]
  simp only [Option.bind_some]
  rw [if_neg (by omega)]
  simp only [Option.bind_some]
  rw [if_neg (by omega), heldByteS_f n2 (m + n0) (by omega) k (by omega)]
  simp only [Option.bind_some]
  rw [if_neg (by omega)]
  simp only [Option.bind_some]
  rw [if_neg (by omega), heldByteS_f n4 (m + n0 + n2) (by omega) k (by omega)]
  simp only [Option.bind_some]
  rw [if_neg (by omega)]
  simp only [Option.bind_some]
  rw [if_neg (by omega)]

end Go.Proofs.Ytbapokpkgonjkaa.Print

/- A disk that a call owns, a row of bytes that a call owns: each as one fact. -/
namespace Go.Proofs.Ytbapokpkgonjkaa.Print
open Go.RowKit Go.Proofs.YtbapokpkgonjkaaW.PrintWords Go.Proofs.YtbapokpkgonjkaaW.PrintLast Go.Proofs.YtbapokpkgonjkaaW.PrintMore
set_option linter.unusedVariables false
set_option linter.unusedSimpArgs false
def OB (A : Option Addr) (n c : Nat) (k : Nat) : Prop := some k = (Value.slice A n c).ownBlock
/-- A row of bytes in a block from lo to hi. -/
structure BK (w0 W : World) (lo hi : Nat) (A : Option Addr) (c : Nat) (l : List Int) : Prop where
  r : Kd.R (Kd.int .u8) 5 W w0.heap.size (fun k => OB A l.length c k) (.slice A l.length c) l
  b : ∀ k, OB A l.length c k → lo ≤ k ∧ k < hi
theorem BK.reads {w0 W : World} {lo hi : Nat} {A : Option Addr} {c : Nat} {l : List Int} (h : BK w0 W lo hi A c l) : Kd.C (Kd.int .u8) W A l.length l ∧ l.length ≤ c := ⟨(Kd.R_reads' h.r).2.2, (Kd.R_reads' h.r).2.1⟩
theorem BK.of {w0 w W : World} {ok : Nat → Prop} {A : Option Addr} {c : Nat} {l : List Int} (h : Kd.R (Kd.int .u8) 5 W w.heap.size ok (.slice A l.length c) l) (hB : Below w0.heap.size w0 w) : BK w0 W w.heap.size W.heap.size A c l :=
  ⟨Kd.R_tight rfl (Kd.R_lower h hB.size), fun k hk => ⟨Kd.R_base h k hk.symm, Kd.R_lt h k hk.symm⟩⟩
theorem BK.kept {w0 W W' : World} {lo hi : Nat} {A : Option Addr} {c : Nat} {l : List Int} {S : Nat → Prop} (h : BK w0 W lo hi A c l) (hk : Kept W W' S) (hS : ∀ k, lo ≤ k → k < hi → ¬ S k) : BK w0 W' lo hi A c l :=
  ⟨Kd.R_kept h.r hk (fun k ho => hS k (h.b k ho).1 (h.b k ho).2), h.b⟩
theorem BK.below {w0 W W' : World} {lo hi : Nat} {A : Option Addr} {c : Nat} {l : List Int} (h : BK w0 W lo hi A c l) (hb : Below W.heap.size W W') : BK w0 W' lo hi A c l := ⟨Kd.R_below h.r hb, h.b⟩
theorem kept_below {w W : World} {S : Nat → Prop} (h : Below w.heap.size w W) : Kept w W S := ⟨h.size, fun i hi _ => h.block i hi⟩

structure DK (w0 W : World) (lo hi : Nat) (A0 : Option Addr) (c0 : Nat) (l0 : List Int) (A2 : Option Addr) (c2 : Nat) (l2 : List Int) (A4 : Option Addr) (c4 : Nat) (l4 : List Int) : Prop where
  k0 : BK w0 W lo hi A0 c0 l0
  k2 : BK w0 W lo hi A2 c2 l2
  k4 : BK w0 W lo hi A4 c4 l4
  n02 : ∀ k, OB A0 l0.length c0 k → ¬ OB A2 l2.length c2 k
  n04 : ∀ k, OB A0 l0.length c0 k → ¬ OB A4 l4.length c4 k
  n24 : ∀ k, OB A2 l2.length c2 k → ¬ OB A4 l4.length c4 k
section
variable {w0 w W W' : World} {lo hi : Nat} {A0 A2 A4 : Option Addr} {c0 c2 c4 : Nat} {l0 l2 l4 : List Int}
theorem DK.of {v0 v2 v4 : Value} (h0 : Kd.R (Kd.int .u8) 5 W w.heap.size (fun k_ => some k_ ≠ (v2 : Value).ownBlock ∧ some k_ ≠ (v4 : Value).ownBlock) v0 l0) (h2 : Kd.R (Kd.int .u8) 5 W w.heap.size (fun k_ => some k_ ≠ (v0 : Value).ownBlock ∧ some k_ ≠ (v4 : Value).ownBlock) v2 l2) (h4 : Kd.R (Kd.int .u8) 5 W w.heap.size (fun k_ => some k_ ≠ (v0 : Value).ownBlock ∧ some k_ ≠ (v2 : Value).ownBlock) v4 l4) (hB : Below w0.heap.size w0 w) :
    ∃ A0 c0 A2 c2 A4 c4, v0 = .slice A0 l0.length c0 ∧ v2 = .slice A2 l2.length c2 ∧ v4 = .slice A4 l4.length c4 ∧ DK w0 W w.heap.size W.heap.size A0 c0 l0 A2 c2 l2 A4 c4 l4 := by
  obtain ⟨A0, c0, rfl⟩ := Kd.R_slice h0
  obtain ⟨A2, c2, rfl⟩ := Kd.R_slice h2
  obtain ⟨A4, c4, rfl⟩ := Kd.R_slice h4
  exact ⟨A0, c0, A2, c2, A4, c4, rfl, rfl, rfl, BK.of h0 hB, BK.of h2 hB, BK.of h4 hB, fun k hk => (h0.1 k hk.symm).1, fun k hk => (h0.1 k hk.symm).2, fun k hk => (h2.1 k hk.symm).2⟩
theorem DK.kept {S : Nat → Prop} (h : DK w0 W lo hi A0 c0 l0 A2 c2 l2 A4 c4 l4) (hk : Kept W W' S) (hS : ∀ k, lo ≤ k → k < hi → ¬ S k) : DK w0 W' lo hi A0 c0 l0 A2 c2 l2 A4 c4 l4 :=
  ⟨h.k0.kept hk hS, h.k2.kept hk hS, h.k4.kept hk hS, h.n02, h.n04, h.n24⟩
theorem DK.below (h : DK w0 W lo hi A0 c0 l0 A2 c2 l2 A4 c4 l4) (hb : Below W.heap.size W W') : DK w0 W' lo hi A0 c0 l0 A2 c2 l2 A4 c4 l4 :=
  ⟨h.k0.below hb, h.k2.below hb, h.k4.below hb, h.n02, h.n04, h.n24⟩
end

end Go.Proofs.Ytbapokpkgonjkaa.Print

/- A disk that a call owns, as one fact; the statements' helpers on disks, told by it. -/
namespace Go.Proofs.Ytbapokpkgonjkaa.Print
open Go.RowKit Go.Proofs.YtbapokpkgonjkaaW.PrintWords Go.Proofs.YtbapokpkgonjkaaW.PrintLast Go.Proofs.YtbapokpkgonjkaaW.PrintMore
set_option linter.unusedVariables false
set_option linter.unusedSimpArgs false

/-- toDisk, its answer as one fact. -/
theorem toDisk_dk (k : Nat) (w0 : World) (A0 : Option Addr) (c0 : Nat) (l0 : List Int) (a1 : Int) (A2 : Option Addr) (c2 : Nat) (l2 : List Int) (a3 : Int) (A4 : Option Addr) (c4 : Nat) (l4 : List Int) (a5 : Int) (w : World) (hB : Below w0.heap.size w0 w)
    (h0 : Kd.C (Kd.int .u8) w A0 l0.length l0) (hc0 : l0.length ≤ c0) (h2 : Kd.C (Kd.int .u8) w A2 l2.length l2) (hc2 : l2.length ≤ c2) (h4 : Kd.C (Kd.int .u8) w A4 l4.length l4) (hc4 : l4.length ≤ c4) (hl : l0.length + l2.length + l4.length ≤ 1048576) (hk : 1048576 < k) :
    Calls Try.prog 17 #[.agg #[.slice A0 l0.length c0, .int .i64 a1, .slice A2 l2.length c2, .int .i64 a3, .slice A4 l4.length c4, .int .i64 a5]] w fun e w' => ∃ B0 d0 B2 d2 B4 d4, e = .returned (.agg #[.slice B0 l0.length d0, .int .i64 a1, .slice B2 l2.length d2, .int .i64 a3, .slice B4 l4.length d4, .int .i64 a5]) ∧ DK w0 w' w.heap.size w'.heap.size B0 d0 l0 B2 d2 l2 B4 d4 l4 ∧ Below w.heap.size w w' := by
  refine (laws_toDisk.calls k A0 c0 l0 a1 A2 c2 l2 a3 A4 c4 l4 a5 l0 a1 l2 a3 l4 a5 w h0 hc0 h2 hc2 h4 hc4 (toDisk_f l0 l2 l4 a1 a3 a5 k hl hk)).mono ?_
  rintro e w' ⟨v0, v2, v4, rfl, r0, r2, r4, hb⟩
  obtain ⟨B0, d0, B2, d2, B4, d4, rfl, rfl, rfl, hd⟩ := DK.of r0 r2 r4 hB
  exact ⟨B0, d0, B2, d2, B4, d4, rfl, hd, hb⟩
/-- markDisk on a disk that is owned: it is written, all else stays. -/
theorem markDisk_dk (k m : Nat) (w0 : World) (lo hi : Nat) (A0 : Option Addr) (c0 : Nat) (l0 : List Int) (a1 : Int) (A2 : Option Addr) (c2 : Nat) (l2 : List Int) (a3 : Int) (A4 : Option Addr) (c4 : Nat) (l4 : List Int) (a5 : Int) (w : World) (hB : Below w0.heap.size w0 w) (hd : DK w0 w lo hi A0 c0 l0 A2 c2 l2 A4 c4 l4)
    (g0 : l0.length ≤ 2097152) (g2 : l2.length ≤ 2097152) (g4 : l4.length ≤ 2097152) (hm : m ≤ 100000000) (hk : 2097152 < k) (hhi : hi ≤ w.heap.size) :
    Calls Try.prog 41 #[.agg #[.slice A0 l0.length c0, .int .i64 a1, .slice A2 l2.length c2, .int .i64 a3, .slice A4 l4.length c4, .int .i64 a5], .int .i64 m] w fun e w' => e = .returned (.int .i64 ((m + l0.length + l2.length + l4.length : Nat) : Int)) ∧ DK w0 w' lo hi A0 c0 (marksB l0.length m) A2 c2 (marksB l2.length (m + l0.length)) A4 c4 (marksB l4.length (m + l0.length + l2.length)) ∧ Below w0.heap.size w0 w' ∧ Kept w w' (fun k => lo ≤ k ∧ k < hi) := by
  refine (laws_markDisk.calls k (OB A0 l0.length c0) _ l0 a1 (OB A2 l2.length c2) _ l2 a3 (OB A4 l4.length c4) _ l4 a5 m _ _ _ _ w0 w hB hd.k0.r (fun k h h' => hd.n02 k h h') (fun k h h' => hd.n04 k h h') hd.k2.r (fun k h h' => hd.n02 k h' h) (fun k h h' => hd.n24 k h h') hd.k4.r (fun k h h' => hd.n04 k h' h) (fun k h h' => hd.n24 k h' h) (markDisk_f l0 l2 l4 a1 a3 a5 m k g0 g2 g4 hm hk)).mono ?_
  rintro e w' ⟨rfl, r0, r2, r4, hb, hkp⟩
  have hS : ∀ k, (OB A0 l0.length c0 k ∨ OB A2 l2.length c2 k ∨ OB A4 l4.length c4 k) → lo ≤ k ∧ k < hi := fun k h => by
    rcases h with h | h | h
    · exact hd.k0.b k h
    · exact hd.k2.b k h
    · exact hd.k4.b k h
  refine ⟨rfl, ⟨⟨?_, ?_⟩, ⟨?_, ?_⟩, ⟨?_, ?_⟩, ?_, ?_, ?_⟩, hb, hkp.1, fun i hi hn => hkp.2 i hi (fun h => hn (hS i h))⟩
  all_goals simp only [marksB_length]
  · exact Kd.R_tight rfl r0
  · exact hd.k0.b
  · exact Kd.R_tight rfl r2
  · exact hd.k2.b
  · exact Kd.R_tight rfl r4
  · exact hd.k4.b
  · exact hd.n02
  · exact hd.n04
  · exact hd.n24
/-- eqDisk of two that are owned and equal. -/
theorem eqDisk_dk (k : Nat) (w0 : World) (lo hi lo' hi' : Nat) (A0 : Option Addr) (c0 : Nat) (l0 : List Int) (a1 : Int) (A2 : Option Addr) (c2 : Nat) (l2 : List Int) (a3 : Int) (A4 : Option Addr) (c4 : Nat) (l4 : List Int) (a5 : Int) (B0 : Option Addr) (d0 : Nat) (B2 : Option Addr) (d2 : Nat) (B4 : Option Addr) (d4 : Nat) (w : World)
    (hd : DK w0 w lo hi A0 c0 l0 A2 c2 l2 A4 c4 l4) (hd' : DK w0 w lo' hi' B0 d0 l0 B2 d2 l2 B4 d4 l4) (g0 : l0.length ≤ 2097152) (g2 : l2.length ≤ 2097152) (g4 : l4.length ≤ 2097152) (hk : 2097152 < k) :
    Calls Try.prog 19 #[.agg #[.slice A0 l0.length c0, .int .i64 a1, .slice A2 l2.length c2, .int .i64 a3, .slice A4 l4.length c4, .int .i64 a5], .agg #[.slice B0 l0.length d0, .int .i64 a1, .slice B2 l2.length d2, .int .i64 a3, .slice B4 l4.length d4, .int .i64 a5]] w fun e w' => e = .returned (.bool true) ∧ Below w.heap.size w w' :=
  laws_eqDisk.calls k A0 c0 l0 a1 A2 c2 l2 a3 A4 c4 l4 a5 B0 d0 l0 a1 B2 d2 l2 a3 B4 d4 l4 a5 true w hd.k0.reads.1 hd.k0.reads.2 hd.k2.reads.1 hd.k2.reads.2 hd.k4.reads.1 hd.k4.reads.2 hd'.k0.reads.1 hd'.k0.reads.2 hd'.k2.reads.1 hd'.k2.reads.2 hd'.k4.reads.1 hd'.k4.reads.2 (eqDisk_self l0 l2 l4 a1 a3 a5 k g0 g2 g4 hk)
/-- heldDisk of one that is marked. -/
theorem heldDisk_dk (k m : Nat) (w0 : World) (lo hi n0 n2 n4 : Nat) (A0 : Option Addr) (c0 : Nat) (a1 : Int) (A2 : Option Addr) (c2 : Nat) (a3 : Int) (A4 : Option Addr) (c4 : Nat) (a5 : Int) (w : World)
    (hd : DK w0 w lo hi A0 c0 (marksB n0 m) A2 c2 (marksB n2 (m + n0)) A4 c4 (marksB n4 (m + n0 + n2))) (g0 : n0 ≤ 2097152) (g2 : n2 ≤ 2097152) (g4 : n4 ≤ 2097152) (hm : m ≤ 100000000) (hk : 2097152 < k) :
    Calls Try.prog 42 #[.agg #[.slice A0 n0 c0, .int .i64 a1, .slice A2 n2 c2, .int .i64 a3, .slice A4 n4 c4, .int .i64 a5], .int .i64 m] w fun e w' => e = .returned (.int .i64 ((m + n0 + n2 + n4 : Nat) : Int)) ∧ Below w.heap.size w w' := by
  have h := laws_heldDisk.calls k A0 c0 (marksB n0 m) a1 A2 c2 (marksB n2 (m + n0)) a3 A4 c4 (marksB n4 (m + n0 + n2)) a5 m _ w hd.k0.reads.1 hd.k0.reads.2 hd.k2.reads.1 hd.k2.reads.2 hd.k4.reads.1 hd.k4.reads.2 (heldDisk_f n0 n2 n4 a1 a3 a5 m k g0 g2 g4 hm hk)
  simp only [marksB_length] at h
  exact h

end Go.Proofs.Ytbapokpkgonjkaa.Print

/- A row of bytes that a call owns, as one fact; the statements' helpers on rows of bytes, told by it. -/
namespace Go.Proofs.Ytbapokpkgonjkaa.Print
open Go.RowKit Go.Proofs.YtbapokpkgonjkaaW.PrintWords Go.Proofs.YtbapokpkgonjkaaW.PrintLast Go.Proofs.YtbapokpkgonjkaaW.PrintMore
set_option linter.unusedVariables false
set_option linter.unusedSimpArgs false
theorem toByteS_bk (k : Nat) (w0 : World) (A : Option Addr) (c : Nat) (l : List Int) (w : World) (hB : Below w0.heap.size w0 w) (h0 : Kd.C (Kd.int .u8) w A l.length l) (hc : l.length ≤ c) (hl : l.length ≤ 2097152) (hk : 2097152 < k) :
    Calls Try.prog 21 #[.slice A l.length c] w fun e w' => ∃ B d, e = .returned (.slice B l.length d) ∧ BK w0 w' w.heap.size w'.heap.size B d l ∧ Below w.heap.size w w' := by
  refine (laws_toByteS.calls k A c l l w h0 hc (toByteS_f l (by omega) k (by omega))).mono ?_
  rintro e w' ⟨v, rfl, hr, hb⟩
  obtain ⟨B, d, rfl⟩ := Kd.R_slice hr
  exact ⟨B, d, rfl, BK.of hr hB, hb⟩
theorem markByteS_bk (k m : Nat) (w0 : World) (lo hi : Nat) (A : Option Addr) (c : Nat) (l : List Int) (w : World) (hB : Below w0.heap.size w0 w) (hd : BK w0 w lo hi A c l) (hl : l.length ≤ 2097152) (hm : m ≤ 100000000) (hk : 2097152 < k) :
    Calls Try.prog 24 #[.slice A l.length c, .int .i64 m] w fun e w' => e = .returned (.int .i64 ((m + l.length : Nat) : Int)) ∧ BK w0 w' lo hi A c (marksB l.length m) ∧ Below w0.heap.size w0 w' ∧ Kept w w' (fun k => lo ≤ k ∧ k < hi) := by
  refine (laws_markByteS.calls k (OB A l.length c) _ l m _ _ w0 w hB hd.r (markByteS_f l m (by omega) k (by omega))).mono ?_
  rintro e w' ⟨rfl, hr, hb, hkp⟩
  refine ⟨rfl, ⟨?_, ?_⟩, hb, hkp.1, fun i hi hn => hkp.2 i hi (fun h => hn (hd.b i h))⟩
  · rw [marksB_length]
    exact Kd.R_tight rfl hr
  · rw [marksB_length]
    exact hd.b
theorem eqByteS_bk (k : Nat) (w0 w1 : World) (lo hi lo' hi' : Nat) (A : Option Addr) (c : Nat) (l : List Int) (B : Option Addr) (d : Nat) (w : World) (hd : BK w0 w lo hi A c l) (hd' : BK w1 w lo' hi' B d l) (hl : l.length ≤ 2097152) (hk : 2097152 < k) :
    Calls Try.prog 23 #[.slice A l.length c, .slice B l.length d] w fun e w' => e = .returned (.bool true) ∧ Below w.heap.size w w' := by
  refine (laws_eqByteS.calls k A c l B d l true w hd.reads.1 hd.reads.2 hd'.reads.1 hd'.reads.2 (eqByteS_self l (by omega) k (by omega))).mono ?_
  rintro e w' ⟨rfl, hb⟩
  exact ⟨rfl, hb.below⟩
theorem heldByteS_bk (k m n : Nat) (w0 : World) (lo hi : Nat) (A : Option Addr) (c : Nat) (w : World) (hd : BK w0 w lo hi A c (marksB n m)) (hl : n ≤ 2097152) (hm : m ≤ 100000000) (hk : 2097152 < k) :
    Calls Try.prog 25 #[.slice A n c, .int .i64 m] w fun e w' => e = .returned (.int .i64 ((m + n : Nat) : Int)) ∧ Below w.heap.size w w' := by
  have h := laws_heldByteS.calls k A c (marksB n m) m _ w hd.reads.1 hd.reads.2 (heldByteS_f n m (by omega) k (by omega))
  rw [marksB_length] at h
  refine h.mono ?_
  rintro e w' ⟨rfl, hb⟩
  exact ⟨rfl, hb.below⟩
end Go.Proofs.Ytbapokpkgonjkaa.Print

/- lowFirst: a number in n bytes, the lowest first; numberOf: the number that bytes are. Conditions: n from 0 to 8; at most 8 bytes, each from 0 to 255. -/
namespace Go.Proofs.Ytbapokpkgonjkaa.Print
open Go.RowKit Go.Proofs.YtbapokpkgonjkaaW.PrintWords Go.Proofs.YtbapokpkgonjkaaW.PrintLast Go.Proofs.YtbapokpkgonjkaaW.PrintMore
set_option linter.unusedVariables false
set_option linter.unusedSimpArgs false

/-- the lowest n bytes of v -/
def leB (v : Int) (n : Nat) : List Int := (List.range n).map fun i => v / 2 ^ (8 * i) % 256
theorem leB_length (v : Int) (n : Nat) : (leB v n).length = n := by simp [leB]
theorem leB_succ (v : Int) (n : Nat) : leB v (n + 1) = leB v n ++ [v / 2 ^ (8 * n) % 256] := by simp [leB, List.range_succ]

def impl_lowFirst.f (a0 : Int) (a1 : Int) : Option (List Int) := if 0 ≤ a1 ∧ a1 ≤ 8 then some (leB a0 a1.toNat) else none

theorem low_step (v : Int) (n i : Nat) (hi : i < n) : (leB v i ++ List.replicate (n - i) 0).set i (v / 2 ^ (8 * i) % 256) = leB v (i + 1) ++ List.replicate (n - (i + 1)) 0 := by
  rw [leB_succ, List.set_append_right _ _ (by rw [leB_length]; omega), leB_length, Nat.sub_self, show n - i = (n - (i + 1)) + 1 by omega, List.replicate_succ, List.set_cons_zero, List.append_assoc]
  rfl

set_option maxHeartbeats 400000 in
set_option maxRecDepth 100000 in
theorem impl_lowFirst.calls (a0 : Int) (a1 : Int) (r : List Int) (w : World) (h : impl_lowFirst.f a0 a1 = some r) :
    Calls Try.prog 65 #[.int .u64 a0, .int .i64 a1] w fun e w' => ∃ v0_ : Value, e = .returned (v0_) ∧ Kd.R (Kd.int .u8) 5 w' w.heap.size (fun _ => True) v0_ r ∧ Below w.heap.size w w' := by
  unfold impl_lowFirst.f at h
  split at h
  case isFalse => cases h
  rename_i hn
  obtain ⟨h0, h8⟩ := hn
  obtain ⟨n, rfl⟩ := Int.eq_ofNat_of_zero_le h0
  rw [Int.toNat_natCast] at h
  obtain rfl := Option.some.inj h
  clear h
  have hn8 : n ≤ 8 := by omega
  go_enter Try.func65, Try.ntmps65
  go_wp2_with ((with_reducible refine gate_dst (N := 8) rfl ?_); refine Kd.R_make (Kd.int .u8) _ 5 rfl (N := 8) rfl 22 _ _ rfl (n : Int) rfl rfl Try.underlying22 (.int .u8 0) 1 info5 rfl (by decide) (by omega) 0 (ok := fun _ => True) (okp := fun _ => True) rfl (fun _ hk => hk) trivial (by omega) (by omega) (Below.refl _ _) (Nat.le_refl _) ?_; intro v1 w1 ho hb hg_ hnew_; clear hg_ hnew_; rw [Int.toNat_natCast] at ho; obtain ⟨A1, c1, rfl⟩ := Kd.R_slice ho; rw [List.length_replicate] at ho; have HO1 := Aside0.mk ho; have HB1 := Aside0.mk hb; clear ho hb)
  go_loopw [11] (fun v11 wr => ∃ i : Nat, i ≤ n ∧ v11 = .int .i64 i ∧ Aside0 (Kd.R (Kd.int .u8) 5 wr w.heap.size (fun _ => True) (.slice A1 n c1) (leB a0 i ++ List.replicate (n - i) 0)) ∧ Aside0 (Below w.heap.size w wr)) (fun v11 _ => n - (intOf v11).toNat)
  case atStart => exact ⟨0, Nat.zero_le _, rfl, HO1, HB1⟩
  case round =>
    clear HO1 HB1
    obtain ⟨i, hi, rfl, HO, HB⟩ := hrel
    by_cases hlt : i < n
    · have hlen : (leB a0 i ++ List.replicate (n - i) 0).length = n := by rw [List.length_append, leB_length, List.length_replicate]; omega
      obtain ⟨g9, c9, e9, gb9, gl9, cl9, HG9⟩ := Kd.R_form HO.out (by rw [hlen]; omega)
      obtain ⟨rfl, -, rfl⟩ : A1 = some ⟨g9, 0, none⟩ ∧ n = _ ∧ c1 = c9 := by simpa using e9
      clear e9
      obtain ⟨hx9, hf9⟩ := Kd.R_celln 0 HO.out (i : Int) (by omega) (by omega)
      have HP := Kd.R_putg HO.out (i : Int) (a0 / 2 ^ (8 * i) % 256)
      rw [Int.toNat_natCast] at hx9 hf9 HP
      rw [low_step a0 n i hlt] at HP
      have HPP := Aside0.mk HP.1
      have HBB := Aside0.mk (HB.out.setCell (p := ⟨g9, i, none⟩) gb9 (.int .u8 (a0 / 2 ^ (8 * i) % 256)))
      clear HP HG9 HO HB
      have hs : 8 * i ≤ 56 := by omega
      have hl2 : (leB a0 (i + 1) ++ List.replicate (n - (i + 1)) 0).length = n := by rw [List.length_append, leB_length, List.length_replicate]; omega
      go_wp2_with fail
      refine ⟨⟨i + 1, by omega, by go_num, ⟨?_⟩, HBB⟩, by simp [intOf]; omega⟩
      exact HPP.out
    · obtain rfl : i = n := by omega
      have hO := HO.out
      rw [Nat.sub_self, List.replicate_zero, List.append_nil] at hO
      have HO1 := Aside0.mk hO
      clear hO HO
      go_wp2_with fail
      go_ret
      exact ⟨_, rfl, HO1.out, HB.out⟩

/-- the number that bytes are, the lowest first -/
def leN : List Int → Int
  | [] => 0
  | x :: r => x + 256 * leN r
theorem leN_range (l : List Int) (h : ∀ x ∈ l, 0 ≤ x ∧ x < 256) : 0 ≤ leN l ∧ leN l < 256 ^ l.length := by
  induction l with
  | nil => simp [leN]
  | cons x r ih =>
    obtain ⟨a, b⟩ := ih (fun y hy => h y (List.mem_cons_of_mem _ hy))
    obtain ⟨c, d⟩ := h x List.mem_cons_self
    simp only [leN, List.length_cons, Int.pow_succ]
    omega
theorem leN_snoc (l : List Int) (x : Int) : leN (l ++ [x]) = leN l + 256 ^ l.length * x := by
  induction l with
  | nil => simp [leN]
  | cons y r ih =>
    simp only [List.cons_append, leN, ih, List.length_cons, Int.pow_succ, Int.mul_add]
    rw [Int.mul_comm (256 ^ r.length) 256, Int.mul_assoc]
    omega

theorem pow256 (i : Nat) : (256 : Int) ^ i = 2 ^ (8 * i) := by
  rw [Int.pow_mul]
  rfl
theorem or_step (v c : Int) (i : Nat) (hi : i < 8) (v0 : 0 ≤ v) (v1 : v < 256 ^ i) (c0 : 0 ≤ c) (c1 : c < 256) : Go.bits .or .u64 v (IntKind.u64.wrap (c * 2 ^ (8 * i))) = v + 256 ^ i * c := by
  obtain ⟨V, rfl⟩ := Int.eq_ofNat_of_zero_le v0
  obtain ⟨C, rfl⟩ := Int.eq_ofNat_of_zero_le c0
  rw [pow256] at v1 ⊢
  have hv : V < 2 ^ (8 * i) := by exact_mod_cast v1
  have hc : C < 256 := by omega
  have hm : C * 2 ^ (8 * i) < 18446744073709551616 := by
    have h1 : C * 2 ^ (8 * i) ≤ 255 * 2 ^ (8 * i) := Nat.mul_le_mul_right _ (by omega)
    have h2 : 2 ^ (8 * i) ≤ 2 ^ 56 := Nat.pow_le_pow_right (by omega) (by omega)
    omega
  have hw : IntKind.u64.wrap ((C : Int) * 2 ^ (8 * i)) = ((C * 2 ^ (8 * i) : Nat) : Int) := by
    have e : (C : Int) * 2 ^ (8 * i) = ((C * 2 ^ (8 * i) : Nat) : Int) := by simp
    rw [e]
    simp [IntKind.wrap, IntKind.bits, IntKind.signed]
    omega
  have hV : V < 18446744073709551616 := by
    have h2 : 2 ^ (8 * i) ≤ 2 ^ 56 := Nat.pow_le_pow_right (by omega) (by omega)
    omega
  rw [hw, u64_or_nat V _ hV hm, Nat.or_comm, Nat.mul_comm, ← Nat.two_pow_add_eq_or_of_lt hv]
  simp
  omega

def impl_numberOf.f (l0 : List Int) : Option Int := if l0.length ≤ 8 ∧ (∀ x ∈ l0, 0 ≤ x ∧ x < 256) then some (leN l0) else none
set_option maxHeartbeats 400000 in
set_option maxRecDepth 100000 in
theorem impl_numberOf.calls (A0 : Option Addr) (c0 : Nat) (l0 : List Int) (r : Int) (w : World) (hr0 : Kd.C (Kd.int .u8) w A0 l0.length l0) (hc0 : l0.length ≤ c0) (h : impl_numberOf.f l0 = some r) :
    Calls Try.prog 69 #[.slice A0 l0.length c0] w fun e w' => e = .returned (.int .u64 r) ∧ Drawn0 w w' := by
  unfold impl_numberOf.f at h
  split at h
  case isFalse => cases h
  rename_i hn
  obtain ⟨h8, hb⟩ := hn
  obtain rfl := Option.some.inj h
  clear h
  have HB := Aside0.mk hb
  have HR := Aside0.mk hr0
  clear hb hr0
  go_enter Try.func69, Try.ntmps69
  go_wp2_with fail
  go_loop [3, 8] (fun v3 v8 => ∃ i : Nat, i ≤ l0.length ∧ v8 = .int .i64 i ∧ v3 = .int .u64 (leN (l0.take i))) (fun _ v8 => l0.length - (intOf v8).toNat)
  case atStart => exact ⟨0, Nat.zero_le _, rfl, rfl⟩
  case round =>
    obtain ⟨i, hi, rfl, rfl⟩ := hrel
    by_cases hlt : i < l0.length
    · obtain ⟨ad, rfl, hcell⟩ := Kd.at_int HR.out i (by omega) (by omega)
      rw [Int.toNat_natCast] at hcell
      have hs : 8 * i ≤ 56 := by omega
      have hx := HB.out (l0.getD i 0) (by rw [List.getD_eq_getElem?_getD, List.getElem?_eq_getElem hlt]; exact List.getElem_mem _)
      obtain ⟨x0, x1⟩ := hx
      have hrd : rd l0 (i : Int) = l0.getD i 0 := by unfold rd; rw [Int.toNat_natCast]
      rw [hrd] at hcell
      clear hrd
      have hG : l0.getD i 0 = l0[i] := by rw [List.getD_eq_getElem?_getD, List.getElem?_eq_getElem hlt]; rfl
      rw [hG] at hcell x0 x1
      clear hG
      have hr := leN_range (l0.take i) (fun y hy => HB.out y (List.mem_of_mem_take hy))
      rw [List.length_take, Nat.min_eq_left hi] at hr
      have hstep : Go.bits .or .u64 (leN (l0.take i)) (IntKind.u64.wrap (l0[i] * 2 ^ (8 * i))) = leN (l0.take (i + 1)) := by
        rw [or_step _ _ i (by omega) hr.1 hr.2 x0 x1, List.take_succ_eq_append_getElem hlt, leN_snoc, List.length_take, Nat.min_eq_left hi]
      have HS := Aside0.mk hstep
      clear hstep hr
      go_wp2_with fail
      exact ⟨⟨i + 1, by omega, by go_num, by rw [← HS.out]⟩, by simp [intOf]; omega⟩
    · obtain rfl : i = l0.length := by omega
      rw [List.take_length]
      go_wp2_with fail
      go_ret
      exact ⟨rfl, Drawn0.refl _⟩

end Go.Proofs.Ytbapokpkgonjkaa.Print

/- slices.Concat at []byte: the answer is new memory that holds the bytes of all parts, one part behind the other. Condition: fewer than 2^47 bytes in all. -/
namespace Go.Proofs.Ytbapokpkgonjkaa.Print
open Go.RowKit Go.Proofs.YtbapokpkgonjkaaW.PrintWords Go.Proofs.YtbapokpkgonjkaaW.PrintLast Go.Proofs.YtbapokpkgonjkaaW.PrintMore
set_option linter.unusedVariables false
set_option linter.unusedSimpArgs false

set_option maxHeartbeats 400000 in
set_option maxRecDepth 100000 in
/-- slices.Grow of nil: an empty row with room. -/
theorem grow_nil (n : Int) (w : World) (h0 : 0 ≤ n) (hn : n ≤ 140737488355327) :
    Calls Try.prog 106 #[.slice none 0 0, .int .i64 n] w fun e w' => ∃ v0_ : Value, e = .returned (v0_) ∧ Kd.R (Kd.int .u8) 5 w' w.heap.size (fun _ => True) v0_ [] ∧ Below w.heap.size w w' := by
  obtain ⟨i0, hi0, _⟩ := Option.map_eq_some_iff.1 info5
  by_cases hp : 0 < n
  · go_enter Try.func106, Try.ntmps106
    go_wp2_with ((with_reducible refine gate_builtin (b := .append) (xs := #[.tmp 20, .tmp 21]) rfl ?_); refine Kd.R_append_zeros (Kd.int .u8) (w0 := w) w.heap.size rfl (.tmp 20) (.tmp 21) 22 3 5 (.int .u8 0) 1 rfl Try.underlying22 Try.underlying3 info5 rfl (by decide) (by omega) (.slice none 0 0) ([] : List Int) 0 n (fun _ => True) rfl rfl rfl (fun _ _ => trivial) (Kd.R_nil _ _ _ _ _) (by omega) (Below.refl _ _) (Nat.le_refl _) (by simp only [List.length_nil]; omega) ?_; intro v1 w1 ho hb hg hat; obtain ⟨A1, c1, rfl, hc1, _⟩ := Kd.R_reads ho; have hk := cut_to (P := Try.prog) 22 5 .i64 Try.underlying22 hi0 A1 (List.replicate n.toNat (0 : Int)).length c1 0 (by omega) (by omega) hc1)
    go_ret
    exact ⟨_, rfl, Kd.R_take (m := 0) ho (Nat.zero_le _), hb⟩
  · obtain rfl : n = 0 := by omega
    go_enter Try.func106, Try.ntmps106
    go_wp2_with fail
    go_ret
    exact ⟨_, rfl, Kd.R_nil _ _ _ _ _, Below.refl _ _⟩

def sumLen (ls : List (List Int)) : Nat := (ls.map List.length).sum
theorem sumLen_take (ls : List (List Int)) (k : Nat) (hk : k < ls.length) : sumLen (ls.take (k + 1)) = sumLen (ls.take k) + (rd_L1 ls (k : Int)).length := by
  have e : rd_L1 ls (k : Int) = ls[k] := by unfold rd_L1; rw [Int.toNat_natCast, List.getD_eq_getElem?_getD, List.getElem?_eq_getElem hk]; rfl
  rw [e, List.take_succ_eq_append_getElem hk]
  simp only [sumLen, List.map_append, List.map_cons, List.map_nil, List.sum_append, List.sum_cons, List.sum_nil, Nat.add_zero]
theorem sumLen_le (ls : List (List Int)) (k : Nat) : sumLen (ls.take k) ≤ sumLen ls := by
  conv => rhs; rw [← List.take_append_drop k ls]
  simp only [sumLen, List.map_append, List.sum_append]
  omega
theorem flat_take (ls : List (List Int)) (k : Nat) (hk : k < ls.length) : (ls.take (k + 1)).flatten = (ls.take k).flatten ++ rd_L1 ls (k : Int) := by
  have e : rd_L1 ls (k : Int) = ls[k] := by unfold rd_L1; rw [Int.toNat_natCast, List.getD_eq_getElem?_getD, List.getElem?_eq_getElem hk]; rfl
  rw [e, List.take_succ_eq_append_getElem hk]
  simp only [List.flatten_append, List.flatten_cons, List.flatten_nil, List.append_nil]
theorem flat_len (ls : List (List Int)) : ls.flatten.length = sumLen ls := by simp [sumLen, List.length_flatten]

def slices_Concat_byte_byte.f (l0 : List (List Int)) : Option (List Int) := if sumLen l0 < 140737488355328 then some l0.flatten else none
set_option maxHeartbeats 400000 in
set_option maxRecDepth 100000 in
theorem slices_Concat_byte_byte.calls (A0 : Option Addr) (c0 : Nat) (l0 : List (List Int)) (r : List Int) (w : World) (hr0 : Kd.C (Kd.slice 5 (Kd.int .u8)) w A0 l0.length l0) (hc0 : l0.length ≤ c0) (h : slices_Concat_byte_byte.f l0 = some r) :
    Calls Try.prog 100 #[.slice A0 l0.length c0] w fun e w' => ∃ v0_ : Value, e = .returned (v0_) ∧ Kd.R (Kd.int .u8) 5 w' w.heap.size (fun _ => True) v0_ r ∧ Below w.heap.size w w' := by
  unfold slices_Concat_byte_byte.f at h
  split at h
  case isFalse => cases h
  rename_i hl0
  have hl : sumLen l0 ≤ 140737488355327 := by omega
  obtain rfl := Option.some.inj h
  clear h hl0
  have hn : l0.length ≤ 9223372036854775807 := hr0.2.1
  have HR := Aside0.mk hr0
  clear hr0
  go_enter Try.func100, Try.ntmps100
  go_wp2_with fail
  go_loop [3, 11] (fun v3 v11 => ∃ k : Nat, k ≤ l0.length ∧ v11 = .int .i64 k ∧ v3 = .int .i64 (sumLen (l0.take k))) (fun _ v11 => l0.length - (intOf v11).toNat)
  case atStart => exact ⟨0, Nat.zero_le _, rfl, rfl⟩
  case round =>
    obtain ⟨k, hk, rfl, rfl⟩ := hrel
    by_cases hlt : k < l0.length
    · obtain ⟨ad, A1, c1, rfl, hcell, hc1, _⟩ := at_L1 HR.out k (by omega) (by omega)
      have hs := sumLen_le l0 (k + 1)
      have HS := Aside0.mk (sumLen_take l0 k hlt)
      have hs2 : sumLen (l0.take k) + (rd_L1 l0 (k : Int)).length ≤ 140737488355327 := by rw [← HS.out]; omega
      rw [Int.toNat_natCast] at hcell
      have hge : ¬ ((sumLen (l0.take k) : Int) + ((rd_L1 l0 (k : Int)).length : Int) < 0) := by omega
      go_wp2_with fail
      go_round
      case rel => exact ⟨k + 1, by omega, by go_num, by rw [HS.out]; go_num⟩
      case measure => simp [intOf]; omega
    · obtain rfl : k = l0.length := by omega
      rw [List.take_length]
      go_wp2_with (go_at_call 106; refine (grow_nil _ _ (by omega) (by omega)).mono ?_; rintro e w1 ⟨v0, rfl, ho, hb⟩)
      have HO := Aside0.mk ho
      have HB := Aside0.mk hb
      clear ho hb
      go_loopw [6, 27] (fun v6 v27 wr => ∃ k : Nat, k ≤ l0.length ∧ v27 = .int .i64 k ∧ Aside0 (Kd.R (Kd.int .u8) 5 wr w.heap.size (fun _ => True) v6 (l0.take k).flatten) ∧ Aside0 (Below w.heap.size w wr)) (fun _ v27 _ => l0.length - (intOf v27).toNat)
      case atStart => exact ⟨0, Nat.zero_le _, rfl, HO, HB⟩
      case round =>
        obtain ⟨k, hk2, rfl, HO, HB⟩ := hrel
        by_cases hlt : k < l0.length
        · obtain ⟨ad, A1, c1, rfl, hcell, hc1, hC⟩ := at_L1 (Kd.C_below HR.out HB.out) k (by omega) (by omega)
          have HC := Aside0.mk hC
          clear hC
          have hs := sumLen_le l0 (k + 1)
          have HS := Aside0.mk (sumLen_take l0 k hlt)
          have HF := Aside0.mk (flat_take l0 k hlt)
          have hs2 : (l0.take k).flatten.length + (rd_L1 l0 (k : Int)).length ≤ 140737488355327 := by rw [flat_len, ← HS.out]; omega
          rw [Int.toNat_natCast] at hcell
          obtain ⟨A2, c2, rfl⟩ := Kd.R_slice HO.out
          go_wp2_with ((with_reducible refine gate_builtin (b := .append) (xs := #[.tmp 31, .tmp 32]) rfl ?_); at_builtin; refine Kd.R_append_rows (Kd.int .u8) (w0 := w) w.heap.size rfl (.tmp 31) (.tmp 32) 22 5 (.int .u8 0) 1 rfl Try.underlying22 info5 rfl (by decide) (by omega) (.slice A2 (l0.take k).flatten.length c2) (l0.take k).flatten (rd_L1 l0 (k : Int)) _ _ _ (fun _ => True) (fun _ => False) rfl rfl HO.out HC.out (fun _ _ h => h) (fun _ h => h.elim) (fun _ _ => trivial) HB.out (below_size HB.out) (by omega) ?_; intro v1 w2 ho hb hg hat; rw [← HF.out] at ho; have HO1 := Aside0.mk ho; have HB1 := Aside0.mk hb; clear ho hb hg hat HO HB HC hcell)
          go_roundw
          case rel => exact ⟨k + 1, by omega, by go_num, HO1, HB1⟩
          case measure => simp [intOf]; omega
        · obtain rfl : k = l0.length := by omega
          rw [List.take_length] at HO
          go_wp2_with fail
          go_ret
          exact ⟨_, rfl, HO.out, HB.out⟩

end Go.Proofs.Ytbapokpkgonjkaa.Print

/- The machine's side of the statements: what a Go function comes to, as a Lean function, and that it does so (written by this session's own program over the kit's printer; Lean checks it). -/
namespace Go.Proofs.Ytbapokpkgonjkaa.Print
open Go.RowKit Go.Proofs.YtbapokpkgonjkaaW.PrintWords Go.Proofs.YtbapokpkgonjkaaW.PrintLast Go.Proofs.YtbapokpkgonjkaaW.PrintMore
attribute [local go_sem] max2_int min2_int max_two min_two max_three min_three max_four min_four   -- for this text's walks alone
set_option linter.unusedVariables false
set_option linter.unusedSimpArgs false

/-! ### spec_l2little: function 62 -/
def spec_l2little.f : Nat → Int → Int → Option (List Int)
  | 0, _, _ => none
  | k + 1, a0, a1 => if a1 = 0 then (some ([] : List Int)) else ((some (([(Int.tmod a0 256) % 256] : List Int) : List Int)).bind fun y190 => ((spec_l2little.f k (IntKind.u64.wrap (Int.tdiv a0 256)) (wrap64 (a1 - 1))).bind fun t193 => (if y190.length + t193.length < 140737488355328 then (some (y190 ++ t193)) else (none))))
theorem spec_l2little.mono_l : ∀ k, (∀ y0 y1, LeO (spec_l2little.f k y0 y1) (spec_l2little.f (k + 1) y0 y1))
  | 0 => fun _ _ r h => by simp [spec_l2little.f] at h
  | k + 1 => by
    have ih0 := spec_l2little.mono_l k
    · intro y0 y1
      unfold spec_l2little.f
      repeat' first
      | (with_reducible exact ih0 _ _)
      | (with_reducible exact LeO.refl _)
      | (with_reducible exact LeO.none _)
      | (with_reducible refine LeO.ite ?_ ?_)
      | (with_reducible refine LeO.bind ?_ (fun _ => ?_))
      | exact ih0 _ _
      | exact LeO.none _
      | refine LeO.ite ?_ ?_
      | refine LeO.bind ?_ (fun _ => ?_)
theorem spec_l2little.mono : ∀ a0 a1 k, LeO (spec_l2little.f k a0 a1) (spec_l2little.f (k + 1) a0 a1) := by
  intro a0 a1 k
  have ih0 := spec_l2little.mono_l k
  exact ih0 a0 a1
set_option maxHeartbeats 8000000 in
set_option maxRecDepth 100000 in
theorem spec_l2little.calls (k : Nat) : ∀ (a0 : Int) (a1 : Int) (r : List Int) (w : World) (h : spec_l2little.f k a0 a1 = some r),
    Calls Try.prog 62 #[.int .u64 a0, .int .i64 a1] w fun e w' => ∃ v0_ : Value, e = .returned (v0_) ∧ Kd.R (Kd.int .u8) 5 w' w.heap.size (fun _ => True) v0_ r ∧ Below w.heap.size w w' := by
  induction k using Nat.strongRecOn with
  | _ k ih =>
  intro a0 a1 r w h
  cases k with
  | zero => exact absurd h (by simp [spec_l2little.f])
  | succ k =>
  simp only [spec_l2little.f] at h
  have HB := Aside0.mk (Below.refl w.heap.size w)
  have H : (if a1 = 0 then (some ([] : List Int)) else ((some (([(Int.tmod a0 256) % 256] : List Int) : List Int)).bind fun y190 => ((spec_l2little.f k (IntKind.u64.wrap (Int.tdiv a0 256)) (wrap64 (a1 - 1))).bind fun t193 => (if y190.length + t193.length < 140737488355328 then (some (y190 ++ t193)) else (none))))) = some r := h
  clear h
  by_cases c3 : a1 = 0
  · rw [if_pos c3] at H
    have c3b0 : (a1 == 0) = true := beq_iff_eq.mpr c3
    have c3b1 : (a1 != 0) = false := bne_eq_false_iff_eq.mpr c3
    clear c3
    obtain rfl := Option.some.inj H
    go_enter Try.func62, Try.ntmps62
    go_wp2
    go_ret
    exact ⟨_, by first | rfl | (simp [errW_none, errW_some] <;> rfl) | (simp [*, errW_none, errW_some] <;> rfl), by first | exact Kd.R_nil _ _ _ _ _ | exact Kd.N_nil _ _ _ _ _ | exact Kd.V_nil _ _ _ _ _ | exact Kd.Q_nil _ _ _ _ _ | exact Kd.S_nil _ _ _ _ _, by repeat (first | (with_reducible first | exact HB.out | apply below_alloc | apply pw_below_drewN | apply below_drew1) | exact HB.out)⟩
  · rw [if_neg c3] at H
    have c3b0 : (a1 == 0) = false := beq_eq_false_iff_ne.mpr c3
    have c3b1 : (a1 != 0) = true := bne_iff_ne.mpr c3
    obtain ⟨y190, hy190⟩ : ∃ y_ : List Int, y_ = (([(Int.tmod a0 256) % 256] : List Int)) := ⟨_, rfl⟩
    replace H : ((spec_l2little.f k (IntKind.u64.wrap (Int.tdiv a0 256)) (wrap64 (a1 - 1))).bind fun t193 => (if y190.length + t193.length < 140737488355328 then (some (y190 ++ t193)) else (none))) = some r := by first | (rw [hy190]; with_reducible exact H) | (have H2_ := (Option.bind_some _ _).symm.trans H; rw [hy190]; with_reducible exact H2_) | (have H2_ := (Option.bind_some _ _).symm.trans H; with_reducible exact H2_) | with_reducible exact H | (rw [hy190]; exact H) | exact H
    have Ny190 := Aside0.mk hy190
    clear hy190
    replace H := Option.bind_eq_some_iff.mp H
    obtain ⟨t193, A40, H⟩ := H
    replace H : (if y190.length + t193.length < 140737488355328 then (some (y190 ++ t193)) else (none)) = some r := H
    have A4 := Aside0.mk A40
    clear A40
    by_cases c5 : y190.length + t193.length < 140737488355328
    · rw [if_pos c5] at H
      have LMc5 := Aside0.mk c5
      clear c5
      obtain ⟨y196, hy196⟩ : ∃ y_ : List Int, y_ = (y190 ++ t193) := ⟨_, rfl⟩
      replace H : (some y196) = some r := by first | (rw [hy196]; with_reducible exact H) | (have H2_ := (Option.bind_some _ _).symm.trans H; rw [hy196]; with_reducible exact H2_) | (have H2_ := (Option.bind_some _ _).symm.trans H; with_reducible exact H2_) | with_reducible exact H | (rw [hy196]; exact H) | exact H
      have Ny196 := Aside0.mk hy196
      clear hy196
      obtain rfl := Option.some.inj H
      go_enter Try.func62, Try.ntmps62
      go_wp2_with (first | ((with_reducible refine gate_dst (N := 11) rfl ?_); refine Kd.R_lit (Kd.int .u8) _ 5 ?hg (N := 11) ?hd (xs := ([(Int.tmod a0 256) % 256] : List Int)) (inner := [.int .u8 ((Int.tmod a0 256) % 256)]) (ok := fun _ => True) (okp := fun _ => True) ?hr ?hp (fun _ hk => hk) trivial (Below.refl _ _) (Nat.le_refl _) (by simp) ?_; (case hd => rfl); (case hg => rfl); (case hr => first | (go_simp; done) | (go_simp; rfl)); (case hp => exact (Reps.one (show Kd.M (Kd.int .u8) _ _ _ ((Int.tmod a0 256) % 256) [.int .u8 ((Int.tmod a0 256) % 256)] from rfl) (Reps.none _ _))); intro v191 w6 ho7 hb hg_ hnew_; clear hg_ hnew_; (first | rw [← Ny190.out] at ho7 | (simp only [Int.reduceToNat] at ho7; rw [← Ny190.out] at ho7)); have n0_ := Aside0.mk (Kd.R_lower ho7 (below_size (by repeat (first | (with_reducible first | exact HB.out | apply below_alloc | apply pw_below_drewN | apply below_drew1) | exact HB.out)))); have n1_ := Aside0.mk (below_step (by repeat (first | (with_reducible first | exact HB.out | apply below_alloc | apply pw_below_drewN | apply below_drew1) | exact HB.out)) hb); clear HB; have HO192 := n0_; have HB := n1_; clear n0_ n1_; clear hb ho7) | ((with_reducible refine gate_callee (f := 62) rfl ?_); refine goesL_ (some 17) rfl rfl Try.func62 (by kernel_rfl) rfl #[.int .u64 (IntKind.u64.wrap (Int.tdiv a0 256)), .int .i64 (wrap64 (a1 - 1))] rfl (by (try simp only [List.map_toArray, List.map_cons, List.map_nil]); first | done | rfl | (simp only [List.length_drop, List.length_take]; rfl)) ?_; (with_reducible refine (ih k (by omega) (IntKind.u64.wrap (Int.tdiv a0 256)) (wrap64 (a1 - 1)) t193 _ A4.out).mono ?_); rintro e w8 ⟨v194, rfl, ho0, hb⟩; refine ⟨_, rfl, ?_⟩; have n0_ := Aside0.mk (Kd.R_elder' (by (with_reducible repeat (first | apply Kd.R_alloc | apply Kd.R_drewN | apply Kd.R_drew)); exact HO192.out) (Kd.R_base ho0) hb); have n1_ := Aside0.mk (Kd.R_lower (Kd.R_new' ho0 (Kd.R_lt (by (with_reducible repeat (first | apply Kd.R_alloc | apply Kd.R_drewN | apply Kd.R_drew)); exact HO192.out))) (below_size (by repeat (first | (with_reducible first | exact HB.out | apply below_alloc | apply pw_below_drewN | apply below_drew1) | exact HB.out)))); have n2_ := Aside0.mk (below_step (by repeat (first | (with_reducible first | exact HB.out | apply below_alloc | apply pw_below_drewN | apply below_drew1) | exact HB.out)) hb); clear HO192; clear HB; have HO192 := n0_; have HO195 := n1_; have HB := n2_; clear n0_ n1_ n2_; (try clear hb); (try clear hb2); (try clear hk); (try clear hi); (try clear ho0); obtain ⟨Ao10, co10, eo10⟩ := Kd.R_slice HO195.out; subst eo10) | ((with_reducible refine gate_builtin (b := .append) (xs := #[.tmp 12, .tmp 17]) rfl ?_); at_builtin; refine Kd.R_append_rows (Kd.int .u8) (w0 := w) w.heap.size rfl (.tmp 12) (.tmp 17) 22 5 (.int .u8 0) 1 rfl Try.underlying22 info5 rfl (by decide) (by omega) v191 y190 t193 _ _ _ (fun k_ => some k_ ≠ (.slice Ao10 t193.length co10 : Value).ownBlock) (fun _ => False) rfl rfl ?aO ?aR (fun _ _ h => h) (fun _ h => h.elim) ?aF ?aB ?aS ?aL ?_; (case aR => repeat (first | exact (Kd.R_reads' HO195.out).2.2 | (with_reducible refine Kd.C_alloc ?_ _) | (with_reducible refine Kd.C_drewN ?_ _) | (with_reducible refine Kd.C_drew ?_))); (case aB => exact (by repeat (first | (with_reducible first | exact HB.out | apply below_alloc | apply pw_below_drewN | apply below_drew1) | exact HB.out))); (case aF => exact (fun k_ hk => Kd.fresh' (Kd.R_lt (by (with_reducible repeat (first | apply Kd.R_alloc | apply Kd.R_drewN | apply Kd.R_drew)); exact HO195.out)) k_ hk)); (case aO => exact (by (with_reducible repeat (first | apply Kd.R_alloc | apply Kd.R_drewN | apply Kd.R_drew)); exact Kd.R_mono HO192.out (fun _ hk => hk.2))); (case aS => exact (below_size (by repeat (first | (with_reducible first | exact HB.out | apply below_alloc | apply pw_below_drewN | apply below_drew1) | exact HB.out)))); (case aL => have := LMc5.out; omega); intro v197 w9 ho hb hg hat; rw [← Ny196.out] at ho; have n0_ := Aside0.mk (Kd.R_after (ok := (fun _ => True)) (by (with_reducible repeat (first | apply Kd.R_alloc | apply Kd.R_drewN | apply Kd.R_drew)); exact HO195.out) hg hat); have n1_ := Aside0.mk (hb); have n2_ := Aside0.mk (ho); clear HO195; clear HB; clear HO192; have HO195 := n0_; have HB := n1_; have HO198 := n2_; clear n0_ n1_ n2_; clear ho hb hg hat))
      go_ret
      exact ⟨_, by first | rfl | (simp [errW_none, errW_some] <;> rfl) | (simp [*, errW_none, errW_some] <;> rfl), by (with_reducible repeat (first | apply Kd.R_alloc | apply Kd.R_drewN | apply Kd.R_drew)); exact Kd.R_mono HO198.out (fun _ hk => trivial), by repeat (first | (with_reducible first | exact HB.out | apply below_alloc | apply pw_below_drewN | apply below_drew1) | exact HB.out)⟩
    · rw [if_neg c5] at H
      exact absurd H (by simp)

end Go.Proofs.Ytbapokpkgonjkaa.Print

/- The machine's side of the statements: what a Go function comes to, as a Lean function, and that it does so (written by this session's own program over the kit's printer; Lean checks it). -/
namespace Go.Proofs.Ytbapokpkgonjkaa.Print
open Go.RowKit Go.Proofs.YtbapokpkgonjkaaW.PrintWords Go.Proofs.YtbapokpkgonjkaaW.PrintLast Go.Proofs.YtbapokpkgonjkaaW.PrintMore
attribute [local go_sem] max2_int min2_int max_two min_two max_three min_three max_four min_four   -- for this text's walks alone
set_option linter.unusedVariables false
set_option linter.unusedSimpArgs false

/-! ### spec_l1copy: function 68 -/
def spec_l1copy.f (l0 : List Int) : Option (List Int) := if ([] : List Int).length + l0.length < 140737488355328 then (some (([] : List Int) ++ l0)) else (none)
set_option maxHeartbeats 8000000 in
set_option maxRecDepth 100000 in
theorem spec_l1copy.calls (A0 : Option Addr) (c0 : Nat) (l0 : List Int) (r : List Int) (w : World) (hr0 : Kd.C (Kd.int .u8) w A0 l0.length l0) (hc0 : l0.length ≤ c0) (h : spec_l1copy.f l0 = some r) :
    Calls Try.prog 68 #[.slice A0 l0.length c0] w fun e w' => ∃ v0_ : Value, e = .returned (v0_) ∧ Kd.R (Kd.int .u8) 5 w' w.heap.size (fun _ => True) v0_ r ∧ Below w.heap.size w w' := by
  have HR0 := Aside0.mk hr0
  have HC0 := Aside0.mk hc0
  clear hr0 hc0
  have HB := Aside0.mk (Below.refl w.heap.size w)
  have H : (if ([] : List Int).length + l0.length < 140737488355328 then (some (([] : List Int) ++ l0)) else (none)) = some r := h
  clear h
  by_cases c2 : ([] : List Int).length + l0.length < 140737488355328
  · rw [if_pos c2] at H
    have LMc2 := Aside0.mk c2
    clear c2
    obtain ⟨y199, hy199⟩ : ∃ y_ : List Int, y_ = (([] : List Int) ++ l0) := ⟨_, rfl⟩
    replace H : (some y199) = some r := by first | (rw [hy199]; with_reducible exact H) | (have H2_ := (Option.bind_some _ _).symm.trans H; rw [hy199]; with_reducible exact H2_) | (have H2_ := (Option.bind_some _ _).symm.trans H; with_reducible exact H2_) | with_reducible exact H | (rw [hy199]; exact H) | exact H
    have Ny199 := Aside0.mk hy199
    clear hy199
    obtain rfl := Option.some.inj H
    go_enter Try.func68, Try.ntmps68
    go_wp2_with (first | ((with_reducible refine gate_builtin (b := .append) (xs := #[.tmp 4, .tmp 5]) rfl ?_); at_builtin; refine Kd.R_append_rows (Kd.int .u8) (w0 := w) w.heap.size rfl (.tmp 4) (.tmp 5) 22 5 (.int .u8 0) 1 rfl Try.underlying22 info5 rfl (by decide) (by omega) (.slice none 0 0) ([] : List Int) l0 _ _ _ (fun _ => True) (fun _ => False) rfl rfl ?aO ?aR (fun _ _ h => h) (fun _ h => h.elim) ?aF ?aB ?aS ?aL ?_; (case aR => repeat (first | exact HR0.out | (with_reducible refine Kd.C_alloc ?_ _) | (with_reducible refine Kd.C_drewN ?_ _) | (with_reducible refine Kd.C_drew ?_))); (case aB => exact (by repeat (first | (with_reducible first | exact HB.out | apply below_alloc | apply pw_below_drewN | apply below_drew1) | exact HB.out))); (case aF => exact (fun _ _ => trivial)); (case aO => exact ((Kd.R_nil _ _ _ _ (fun _ => True)))); (case aS => exact (below_size (by repeat (first | (with_reducible first | exact HB.out | apply below_alloc | apply pw_below_drewN | apply below_drew1) | exact HB.out)))); (case aL => have := LMc2.out; omega); intro v200 w3 ho hb hg hat; rw [← Ny199.out] at ho; have n0_ := Aside0.mk (hb); have n1_ := Aside0.mk (ho); clear HB; have HB := n0_; have HO201 := n1_; clear n0_ n1_; clear ho hb hg hat))
    go_ret
    exact ⟨_, by first | rfl | (simp [errW_none, errW_some] <;> rfl) | (simp [*, errW_none, errW_some] <;> rfl), by (with_reducible repeat (first | apply Kd.R_alloc | apply Kd.R_drewN | apply Kd.R_drew)); exact HO201.out, by repeat (first | (with_reducible first | exact HB.out | apply below_alloc | apply pw_below_drewN | apply below_drew1) | exact HB.out)⟩
  · rw [if_neg c2] at H
    exact absurd H (by simp)

end Go.Proofs.Ytbapokpkgonjkaa.Print

/- The machine's side of the statements: what a Go function comes to, as a Lean function, and that it does so (written by this session's own program over the kit's printer; Lean checks it). -/
namespace Go.Proofs.Ytbapokpkgonjkaa.Print
open Go.RowKit Go.Proofs.YtbapokpkgonjkaaW.PrintWords Go.Proofs.YtbapokpkgonjkaaW.PrintLast Go.Proofs.YtbapokpkgonjkaaW.PrintMore
attribute [local go_sem] max2_int min2_int max_two min_two max_three min_three max_four min_four   -- for this text's walks alone
set_option linter.unusedVariables false
set_option linter.unusedSimpArgs false

/-! ### spec_Checksum: function 99 -/
def spec_Checksum.l0 : Nat → List Int → Int → Int → Option (Int)
  | 0, _, _, _ => none
  | k + 1, x0, x3, x4 => if x4 < (x0.length : Int) then (if 0 ≤ x4 then (spec_Checksum.l0 k x0 (Int.tmod (IntKind.u64.wrap ((Go.bits .xor .u64 x3 (IntKind.u64.wrap (rd x0 x4))) * 16777619)) 4294967296) (wrap64 (x4 + 1))) else (none)) else (some ((x3) % 4294967296))
def spec_Checksum.f (k : Nat) (l0 : List Int) : Option (Int) := spec_Checksum.l0 k l0 2166136261 0
theorem spec_Checksum.mono_l : ∀ k, (∀ y0 y1 y2, LeO (spec_Checksum.l0 k y0 y1 y2) (spec_Checksum.l0 (k + 1) y0 y1 y2))
  | 0 => fun _ _ _ r h => by simp [spec_Checksum.l0] at h
  | k + 1 => by
    have ih0 := spec_Checksum.mono_l k
    · intro y0 y1 y2
      unfold spec_Checksum.l0
      repeat' first
      | (with_reducible exact ih0 _ _ _)
      | (with_reducible exact LeO.refl _)
      | (with_reducible exact LeO.none _)
      | (with_reducible refine LeO.ite ?_ ?_)
      | (with_reducible refine LeO.bind ?_ (fun _ => ?_))
      | exact ih0 _ _ _
      | exact LeO.none _
      | refine LeO.ite ?_ ?_
      | refine LeO.bind ?_ (fun _ => ?_)
theorem spec_Checksum.mono : ∀ a0 k, LeO (spec_Checksum.f k a0) (spec_Checksum.f (k + 1) a0) := by
  intro a0 k
  have ih0 := spec_Checksum.mono_l k
  unfold spec_Checksum.f
  repeat' first
      | (with_reducible exact ih0 _ _ _)
      | (with_reducible exact LeO.refl _)
      | (with_reducible exact LeO.none _)
      | (with_reducible refine LeO.ite ?_ ?_)
      | (with_reducible refine LeO.bind ?_ (fun _ => ?_))
      | exact ih0 _ _ _
      | exact LeO.none _
      | refine LeO.ite ?_ ?_
      | refine LeO.bind ?_ (fun _ => ?_)
set_option maxHeartbeats 8000000 in
set_option maxRecDepth 100000 in
theorem spec_Checksum.calls (k : Nat) (A0 : Option Addr) (c0 : Nat) (l0 : List Int) (r : Int) (w : World) (hr0 : Kd.C (Kd.int .u8) w A0 l0.length l0) (hc0 : l0.length ≤ c0) (h : spec_Checksum.f k l0 = some r) :
    Calls Try.prog 99 #[.slice A0 l0.length c0] w fun e w' => e = .returned (.int .u32 r) ∧ Drawn0 w w' := by
  have HR0 := Aside0.mk hr0
  have HC0 := Aside0.mk hc0
  clear hr0 hc0
  have H : (spec_Checksum.l0 k l0 2166136261 0) = some r := h
  clear h
  have H' := Aside0.mk H
  clear H
  go_enter Try.func99, Try.ntmps99
  go_wp2
  go_loopg [3, 4] k (fun kq v3 v4 w' => ∃ (x3_1 : Int) (x4_1 : Int), v3 = .int .u64 x3_1 ∧ v4 = .int .i64 x4_1 ∧ Aside0 (spec_Checksum.l0 kq l0 x3_1 x4_1 = some r) ∧ Aside0 (kq ≤ k) ∧ Drawn0 w w')
  case atStart => exact ⟨(2166136261), (0), (by first | rfl | (simp; done) | (simp [*]; done)), (by first | rfl | (simp; done) | (simp [*]; done)), H', ⟨Nat.le_refl _⟩, by repeat (first | exact Drawn0.refl _ | apply Drawn0.step)⟩
  case round =>
    clear H'
    obtain ⟨x3_1, x4_1, rfl, rfl, HA, HK1, ⟨m1, rfl⟩⟩ := hrel
    cases gk with
    | zero => exact absurd HA.out (by simp [spec_Checksum.l0])
    | succ k1 =>
      have H := HA.out
      clear HA
      simp only [spec_Checksum.l0] at H
      by_cases c2 : x4_1 < (l0.length : Int)
      · rw [if_pos c2] at H
        have c2b0 : decide (x4_1 < (l0.length : Int)) = true := decide_eq_true c2
        clear c2
        by_cases c3 : 0 ≤ x4_1
        · rw [if_pos c3] at H
          have c3b0 : decide (0 ≤ x4_1) = true := decide_eq_true c3
          clear c3
          have H' := Aside0.mk H
          clear H
          have p202 : 0 ≤ (x4_1 : Int) := of_decide_eq_true (by first | (with_reducible assumption) | assumption)
          have q202 : x4_1 < (l0.length : Int) := of_decide_eq_true (by first | (with_reducible assumption) | assumption)
          obtain ⟨ad202, e202, hx202_0⟩ := Kd.at_int HR0.out x4_1 p202 q202
          cases e202
          replace p202 := eq_true p202
          replace q202 := eq_true q202
          go_wp2
          go_roundg k1
          case measure => have := HK1.out; omega
          case rel => exact ⟨(Int.tmod (IntKind.u64.wrap ((Go.bits .xor .u64 x3_1 (IntKind.u64.wrap (rd l0 x4_1))) * 16777619)) 4294967296), (wrap64 (x4_1 + 1)), (by first | rfl | (simp; done) | (simp [*]; done)), (by first | rfl | (simp; done) | (simp [*]; done)), H', ⟨by have := HK1.out; omega⟩, by repeat (first | exact Drawn0.refl _ | apply Drawn0.step)⟩
        · rw [if_neg c3] at H
          exact absurd H (by simp)
      · rw [if_neg c2] at H
        have c2b0 : decide (x4_1 < (l0.length : Int)) = false := decide_eq_false c2
        clear c2
        obtain rfl := Option.some.inj H
        go_wp2
        go_ret
        exact ⟨by first | rfl | (simp; done) | (simp [*]; done), by repeat (first | exact Drawn0.refl _ | apply Drawn0.step)⟩

end Go.Proofs.Ytbapokpkgonjkaa.Print

/- The machine's side of the statements: what a Go function comes to, as a Lean function, and that it does so (written by this session's own program over the kit's printer; Lean checks it). -/
namespace Go.Proofs.Ytbapokpkgonjkaa.Print
open Go.RowKit Go.Proofs.YtbapokpkgonjkaaW.PrintWords Go.Proofs.YtbapokpkgonjkaaW.PrintLast Go.Proofs.YtbapokpkgonjkaaW.PrintMore
attribute [local go_sem] max2_int min2_int max_two min_two max_three min_three max_four min_four   -- for this text's walks alone
set_option linter.unusedVariables false
set_option linter.unusedSimpArgs false

/-! ### spec_l2summed: function 63 -/
def spec_l2summed.f (k : Nat) (l0 : List Int) : Option (List Int) := (spec_l1copy.f l0).bind fun t203 => ((spec_Checksum.f k l0).bind fun t206 => ((spec_l2little.f k (IntKind.u64.wrap (t206)) 4).bind fun t207 => (if t203.length + t207.length < 140737488355328 then (some (t203 ++ t207)) else (none))))
theorem spec_l2summed.mono : ∀ a0 k, LeO (spec_l2summed.f k a0) (spec_l2summed.f (k + 1) a0) := by
  intro a0 k
  unfold spec_l2summed.f
  repeat' first
      | (with_reducible exact spec_Checksum.mono _ _)
      | (with_reducible exact spec_l2little.mono _ _ _)
      | (with_reducible exact LeO.refl _)
      | (with_reducible exact LeO.none _)
      | (with_reducible refine LeO.ite ?_ ?_)
      | (with_reducible refine LeO.bind ?_ (fun _ => ?_))
      | exact spec_Checksum.mono _ _
      | exact spec_l2little.mono _ _ _
      | exact LeO.none _
      | refine LeO.ite ?_ ?_
      | refine LeO.bind ?_ (fun _ => ?_)
set_option maxHeartbeats 8000000 in
set_option maxRecDepth 100000 in
theorem spec_l2summed.calls (k : Nat) (A0 : Option Addr) (c0 : Nat) (l0 : List Int) (r : List Int) (w : World) (hr0 : Kd.C (Kd.int .u8) w A0 l0.length l0) (hc0 : l0.length ≤ c0) (h : spec_l2summed.f k l0 = some r) :
    Calls Try.prog 63 #[.slice A0 l0.length c0] w fun e w' => ∃ v0_ : Value, e = .returned (v0_) ∧ Kd.R (Kd.int .u8) 5 w' w.heap.size (fun _ => True) v0_ r ∧ Below w.heap.size w w' := by
  have HR0 := Aside0.mk hr0
  have HC0 := Aside0.mk hc0
  clear hr0 hc0
  have HB := Aside0.mk (Below.refl w.heap.size w)
  have H : ((spec_l1copy.f l0).bind fun t203 => ((spec_Checksum.f k l0).bind fun t206 => ((spec_l2little.f k (IntKind.u64.wrap (t206)) 4).bind fun t207 => (if t203.length + t207.length < 140737488355328 then (some (t203 ++ t207)) else (none))))) = some r := h
  clear h
  replace H := Option.bind_eq_some_iff.mp H
  obtain ⟨t203, A20, H⟩ := H
  replace H : ((spec_Checksum.f k l0).bind fun t206 => ((spec_l2little.f k (IntKind.u64.wrap (t206)) 4).bind fun t207 => (if t203.length + t207.length < 140737488355328 then (some (t203 ++ t207)) else (none)))) = some r := H
  have A2 := Aside0.mk A20
  clear A20
  replace H := Option.bind_eq_some_iff.mp H
  obtain ⟨t206, A30, H⟩ := H
  replace H : ((spec_l2little.f k (IntKind.u64.wrap (t206)) 4).bind fun t207 => (if t203.length + t207.length < 140737488355328 then (some (t203 ++ t207)) else (none))) = some r := H
  have A3 := Aside0.mk A30
  clear A30
  replace H := Option.bind_eq_some_iff.mp H
  obtain ⟨t207, A40, H⟩ := H
  replace H : (if t203.length + t207.length < 140737488355328 then (some (t203 ++ t207)) else (none)) = some r := H
  have A4 := Aside0.mk A40
  clear A40
  by_cases c5 : t203.length + t207.length < 140737488355328
  · rw [if_pos c5] at H
    have LMc5 := Aside0.mk c5
    clear c5
    obtain ⟨y210, hy210⟩ : ∃ y_ : List Int, y_ = (t203 ++ t207) := ⟨_, rfl⟩
    replace H : (some y210) = some r := by first | (rw [hy210]; with_reducible exact H) | (have H2_ := (Option.bind_some _ _).symm.trans H; rw [hy210]; with_reducible exact H2_) | (have H2_ := (Option.bind_some _ _).symm.trans H; with_reducible exact H2_) | with_reducible exact H | (rw [hy210]; exact H) | exact H
    have Ny210 := Aside0.mk hy210
    clear hy210
    obtain rfl := Option.some.inj H
    go_enter Try.func63, Try.ntmps63
    go_wp2_with (first | ((with_reducible refine gate_callee (f := 68) rfl ?_); refine goesL_ (some 4) rfl rfl Try.func68 (by kernel_rfl) rfl #[.slice A0 l0.length c0] rfl (by (try simp only [List.map_toArray, List.map_cons, List.map_nil]); first | done | rfl | (simp only [List.length_drop, List.length_take]; rfl)) ?_; (with_reducible refine (spec_l1copy.calls _ _ l0 t203 _ ?side1 ?side2 A2.out).mono ?_); (case side1 => repeat (first | exact HR0.out | (with_reducible refine Kd.C_alloc ?_ _) | (with_reducible refine Kd.C_drewN ?_ _) | (with_reducible refine Kd.C_drew ?_))); (case side2 => exact HC0.out); rintro e w6 ⟨v204, rfl, ho0, hb⟩; refine ⟨_, rfl, ?_⟩; have n0_ := Aside0.mk (Kd.R_lower ho0 (below_size (by repeat (first | (with_reducible first | exact HB.out | apply below_alloc | apply pw_below_drewN | apply below_drew1) | exact HB.out)))); have n1_ := Aside0.mk (below_step (by repeat (first | (with_reducible first | exact HB.out | apply below_alloc | apply pw_below_drewN | apply below_drew1) | exact HB.out)) hb); clear HB; have HO205 := n0_; have HB := n1_; clear n0_ n1_; (try clear hb); (try clear hb2); (try clear hk); (try clear hi); (try clear ho0)) | ((with_reducible refine gate_callee (f := 99) rfl ?_); refine goesL_ (some 6) rfl rfl Try.func99 (by kernel_rfl) rfl #[.slice A0 l0.length c0] rfl (by (try simp only [List.map_toArray, List.map_cons, List.map_nil]); first | done | rfl | (simp only [List.length_drop, List.length_take]; rfl)) ?_; (with_reducible refine (spec_Checksum.calls k _ _ l0 t206 _ ?side1 ?side2 A3.out).mono ?_); (case side1 => repeat (first | exact (Kd.C_below HR0.out HB.out) | (with_reducible refine Kd.C_alloc ?_ _) | (with_reducible refine Kd.C_drewN ?_ _) | (with_reducible refine Kd.C_drew ?_))); (case side2 => exact HC0.out); rintro e w' ⟨rfl, ⟨nd, rfl⟩⟩; refine ⟨_, rfl, ?_⟩) | ((with_reducible refine gate_callee (f := 62) rfl ?_); refine goesL_ (some 8) rfl rfl Try.func62 (by kernel_rfl) rfl #[.int .u64 (IntKind.u64.wrap (t206)), .int .i64 4] rfl (by (try simp only [List.map_toArray, List.map_cons, List.map_nil]); first | done | rfl | (simp only [List.length_drop, List.length_take]; rfl)) ?_; (with_reducible refine (spec_l2little.calls k (IntKind.u64.wrap (t206)) 4 t207 _ A4.out).mono ?_); rintro e w7 ⟨v208, rfl, ho0, hb⟩; refine ⟨_, rfl, ?_⟩; have n0_ := Aside0.mk (Kd.R_elder' (by (with_reducible repeat (first | apply Kd.R_alloc | apply Kd.R_drewN | apply Kd.R_drew)); exact HO205.out) (Kd.R_base ho0) hb); have n1_ := Aside0.mk (Kd.R_lower (Kd.R_new' ho0 (Kd.R_lt (by (with_reducible repeat (first | apply Kd.R_alloc | apply Kd.R_drewN | apply Kd.R_drew)); exact HO205.out))) (below_size (by repeat (first | (with_reducible first | exact HB.out | apply below_alloc | apply pw_below_drewN | apply below_drew1) | exact HB.out)))); have n2_ := Aside0.mk (below_step (by repeat (first | (with_reducible first | exact HB.out | apply below_alloc | apply pw_below_drewN | apply below_drew1) | exact HB.out)) hb); clear HO205; clear HB; have HO205 := n0_; have HO209 := n1_; have HB := n2_; clear n0_ n1_ n2_; (try clear hb); (try clear hb2); (try clear hk); (try clear hi); (try clear ho0); obtain ⟨Ao9, co9, eo9⟩ := Kd.R_slice HO209.out; subst eo9) | ((with_reducible refine gate_builtin (b := .append) (xs := #[.tmp 4, .tmp 8]) rfl ?_); at_builtin; refine Kd.R_append_rows (Kd.int .u8) (w0 := w) w.heap.size rfl (.tmp 4) (.tmp 8) 22 5 (.int .u8 0) 1 rfl Try.underlying22 info5 rfl (by decide) (by omega) v204 t203 t207 _ _ _ (fun k_ => some k_ ≠ (.slice Ao9 t207.length co9 : Value).ownBlock) (fun _ => False) rfl rfl ?aO ?aR (fun _ _ h => h) (fun _ h => h.elim) ?aF ?aB ?aS ?aL ?_; (case aR => repeat (first | exact (Kd.R_reads' HO209.out).2.2 | (with_reducible refine Kd.C_alloc ?_ _) | (with_reducible refine Kd.C_drewN ?_ _) | (with_reducible refine Kd.C_drew ?_))); (case aB => exact (by repeat (first | (with_reducible first | exact HB.out | apply below_alloc | apply pw_below_drewN | apply below_drew1) | exact HB.out))); (case aF => exact (fun k_ hk => Kd.fresh' (Kd.R_lt (by (with_reducible repeat (first | apply Kd.R_alloc | apply Kd.R_drewN | apply Kd.R_drew)); exact HO209.out)) k_ hk)); (case aO => exact (by (with_reducible repeat (first | apply Kd.R_alloc | apply Kd.R_drewN | apply Kd.R_drew)); exact Kd.R_mono HO205.out (fun _ hk => hk.2))); (case aS => exact (below_size (by repeat (first | (with_reducible first | exact HB.out | apply below_alloc | apply pw_below_drewN | apply below_drew1) | exact HB.out)))); (case aL => have := LMc5.out; omega); intro v211 w8 ho hb hg hat; rw [← Ny210.out] at ho; have n0_ := Aside0.mk (Kd.R_after (ok := (fun _ => True)) (by (with_reducible repeat (first | apply Kd.R_alloc | apply Kd.R_drewN | apply Kd.R_drew)); exact HO209.out) hg hat); have n1_ := Aside0.mk (hb); have n2_ := Aside0.mk (ho); clear HO209; clear HB; clear HO205; have HO209 := n0_; have HB := n1_; have HO212 := n2_; clear n0_ n1_ n2_; clear ho hb hg hat))
    go_ret
    exact ⟨_, by first | rfl | (simp [errW_none, errW_some] <;> rfl) | (simp [*, errW_none, errW_some] <;> rfl), by (with_reducible repeat (first | apply Kd.R_alloc | apply Kd.R_drewN | apply Kd.R_drew)); exact Kd.R_mono HO212.out (fun _ hk => trivial), by repeat (first | (with_reducible first | exact HB.out | apply below_alloc | apply pw_below_drewN | apply below_drew1) | exact HB.out)⟩
  · rw [if_neg c5] at H
    exact absurd H (by simp)

end Go.Proofs.Ytbapokpkgonjkaa.Print

/- The machine's side of the statements: what a Go function comes to, as a Lean function, and that it does so (written by this session's own program over the kit's printer; Lean checks it). -/
namespace Go.Proofs.Ytbapokpkgonjkaa.Print
open Go.RowKit Go.Proofs.YtbapokpkgonjkaaW.PrintWords Go.Proofs.YtbapokpkgonjkaaW.PrintLast Go.Proofs.YtbapokpkgonjkaaW.PrintMore
attribute [local go_sem] max2_int min2_int max_two min_two max_three min_three max_four min_four   -- for this text's walks alone
set_option linter.unusedVariables false
set_option linter.unusedSimpArgs false

/-! ### impl_Checksum: function 101 -/
def impl_Checksum.l0 : Nat → Int → List Int → Int → Int → Option (Int)
  | 0, _, _, _, _ => none
  | k + 1, x3, x6, x7, x8 => if x8 < x7 then (if 0 ≤ x8 then (if x8 < (x6.length : Int) then (impl_Checksum.l0 k (((Go.bits .xor .u32 x3 ((rd x6 x8) % 4294967296)) * 16777619) % 4294967296) x6 x7 (wrap64 (x8 + 1))) else (none)) else (none)) else (some x3)
def impl_Checksum.f (k : Nat) (l0 : List Int) : Option (Int) := impl_Checksum.l0 k 2166136261 l0 (l0.length : Int) 0
theorem impl_Checksum.mono_l : ∀ k, (∀ y0 y1 y2 y3, LeO (impl_Checksum.l0 k y0 y1 y2 y3) (impl_Checksum.l0 (k + 1) y0 y1 y2 y3))
  | 0 => fun _ _ _ _ r h => by simp [impl_Checksum.l0] at h
  | k + 1 => by
    have ih0 := impl_Checksum.mono_l k
    · intro y0 y1 y2 y3
      unfold impl_Checksum.l0
      repeat' first
      | (with_reducible exact ih0 _ _ _ _)
      | (with_reducible exact LeO.refl _)
      | (with_reducible exact LeO.none _)
      | (with_reducible refine LeO.ite ?_ ?_)
      | (with_reducible refine LeO.bind ?_ (fun _ => ?_))
      | exact ih0 _ _ _ _
      | exact LeO.none _
      | refine LeO.ite ?_ ?_
      | refine LeO.bind ?_ (fun _ => ?_)
theorem impl_Checksum.mono : ∀ a0 k, LeO (impl_Checksum.f k a0) (impl_Checksum.f (k + 1) a0) := by
  intro a0 k
  have ih0 := impl_Checksum.mono_l k
  unfold impl_Checksum.f
  repeat' first
      | (with_reducible exact ih0 _ _ _ _)
      | (with_reducible exact LeO.refl _)
      | (with_reducible exact LeO.none _)
      | (with_reducible refine LeO.ite ?_ ?_)
      | (with_reducible refine LeO.bind ?_ (fun _ => ?_))
      | exact ih0 _ _ _ _
      | exact LeO.none _
      | refine LeO.ite ?_ ?_
      | refine LeO.bind ?_ (fun _ => ?_)
set_option maxHeartbeats 8000000 in
set_option maxRecDepth 100000 in
theorem impl_Checksum.calls (k : Nat) (A0 : Option Addr) (c0 : Nat) (l0 : List Int) (r : Int) (w : World) (hr0 : Kd.C (Kd.int .u8) w A0 l0.length l0) (hc0 : l0.length ≤ c0) (h : impl_Checksum.f k l0 = some r) :
    Calls Try.prog 101 #[.slice A0 l0.length c0] w fun e w' => e = .returned (.int .u32 r) ∧ Drawn0 w w' := by
  have HR0 := Aside0.mk hr0
  have HC0 := Aside0.mk hc0
  clear hr0 hc0
  have H : (impl_Checksum.l0 k 2166136261 l0 (l0.length : Int) 0) = some r := h
  clear h
  have H' := Aside0.mk H
  clear H
  go_enter Try.func101, Try.ntmps101
  go_wp2
  go_loopg [3, 8] k (fun kq v3 v8 w' => ∃ (x3_1 : Int) (x8_1 : Int), v3 = .int .u32 x3_1 ∧ v8 = .int .i64 x8_1 ∧ Aside0 (impl_Checksum.l0 kq x3_1 l0 (l0.length : Int) x8_1 = some r) ∧ Aside0 (kq ≤ k) ∧ Drawn0 w w')
  case atStart => exact ⟨(2166136261), (0), (by first | rfl | (simp; done) | (simp [*]; done)), (by first | rfl | (simp; done) | (simp [*]; done)), H', ⟨Nat.le_refl _⟩, by repeat (first | exact Drawn0.refl _ | apply Drawn0.step)⟩
  case round =>
    clear H'
    try clear c1
    obtain ⟨x3_1, x8_1, rfl, rfl, HA, HK1, ⟨m1, rfl⟩⟩ := hrel
    cases gk with
    | zero => exact absurd HA.out (by simp [impl_Checksum.l0])
    | succ k1 =>
      have H := HA.out
      clear HA
      simp only [impl_Checksum.l0] at H
      by_cases c2 : x8_1 < (l0.length : Int)
      · rw [if_pos c2] at H
        have c2b0 : decide (x8_1 < (l0.length : Int)) = true := decide_eq_true c2
        clear c2
        by_cases c3 : 0 ≤ x8_1
        · rw [if_pos c3] at H
          have c3b0 : decide (0 ≤ x8_1) = true := decide_eq_true c3
          clear c3
          by_cases c4 : x8_1 < (l0.length : Int)
          · rw [if_pos c4] at H
            have c4b0 : decide (x8_1 < (l0.length : Int)) = true := decide_eq_true c4
            clear c4
            have H' := Aside0.mk H
            clear H
            have p234 : 0 ≤ (x8_1 : Int) := of_decide_eq_true (by first | (with_reducible assumption) | assumption)
            have q234 : x8_1 < (l0.length : Int) := of_decide_eq_true (by first | (with_reducible assumption) | assumption)
            obtain ⟨ad234, e234, hx234_0⟩ := Kd.at_int HR0.out x8_1 p234 q234
            cases e234
            replace p234 := eq_true p234
            replace q234 := eq_true q234
            go_wp2
            go_roundg k1
            case measure => have := HK1.out; omega
            case rel => exact ⟨(((Go.bits .xor .u32 x3_1 ((rd l0 x8_1) % 4294967296)) * 16777619) % 4294967296), (wrap64 (x8_1 + 1)), (by first | rfl | (simp; done) | (simp [*]; done)), (by first | rfl | (simp; done) | (simp [*]; done)), H', ⟨by have := HK1.out; omega⟩, by repeat (first | exact Drawn0.refl _ | apply Drawn0.step)⟩
          · rw [if_neg c4] at H
            exact absurd H (by simp)
        · rw [if_neg c3] at H
          exact absurd H (by simp)
      · rw [if_neg c2] at H
        have c2b0 : decide (x8_1 < (l0.length : Int)) = false := decide_eq_false c2
        clear c2
        obtain rfl := Option.some.inj H
        go_wp2
        go_ret
        exact ⟨by first | rfl | (simp; done) | (simp [*]; done), by repeat (first | exact Drawn0.refl _ | apply Drawn0.step)⟩

end Go.Proofs.Ytbapokpkgonjkaa.Print

/- The machine's side of the statements: what a Go function comes to, as a Lean function, and that it does so (written by this session's own program over the kit's printer; Lean checks it). -/
namespace Go.Proofs.Ytbapokpkgonjkaa.Print
open Go.RowKit Go.Proofs.YtbapokpkgonjkaaW.PrintWords Go.Proofs.YtbapokpkgonjkaaW.PrintLast Go.Proofs.YtbapokpkgonjkaaW.PrintMore
attribute [local go_sem] max2_int min2_int max_two min_two max_three min_three max_four min_four   -- for this text's walks alone
set_option linter.unusedVariables false
set_option linter.unusedSimpArgs false

/-! ### impl_summed: function 64 -/
def impl_summed.f (k : Nat) (l0 : List (List Int)) : Option (List Int) := (slices_Concat_byte_byte.f l0).bind fun t235 => ((impl_Checksum.f k t235).bind fun t238 => ((impl_lowFirst.f (IntKind.u64.wrap (t238)) 4).bind fun t239 => (if t235.length + t239.length < 140737488355328 then (some (t235 ++ t239)) else (none))))
theorem impl_summed.mono : ∀ a0 k, LeO (impl_summed.f k a0) (impl_summed.f (k + 1) a0) := by
  intro a0 k
  unfold impl_summed.f
  repeat' first
      | (with_reducible exact impl_Checksum.mono _ _)
      | (with_reducible exact LeO.refl _)
      | (with_reducible exact LeO.none _)
      | (with_reducible refine LeO.ite ?_ ?_)
      | (with_reducible refine LeO.bind ?_ (fun _ => ?_))
      | exact impl_Checksum.mono _ _
      | exact LeO.none _
      | refine LeO.ite ?_ ?_
      | refine LeO.bind ?_ (fun _ => ?_)
set_option maxHeartbeats 8000000 in
set_option maxRecDepth 100000 in
theorem impl_summed.calls (k : Nat) (A0 : Option Addr) (c0 : Nat) (l0 : List (List Int)) (r : List Int) (w : World) (hr0 : Kd.C (Kd.slice 5 (Kd.int .u8)) w A0 l0.length l0) (hc0 : l0.length ≤ c0) (h : impl_summed.f k l0 = some r) :
    Calls Try.prog 64 #[.slice A0 l0.length c0] w fun e w' => ∃ v0_ : Value, e = .returned (v0_) ∧ Kd.R (Kd.int .u8) 5 w' w.heap.size (fun _ => True) v0_ r ∧ Below w.heap.size w w' := by
  have HR0 := Aside0.mk hr0
  have HC0 := Aside0.mk hc0
  clear hr0 hc0
  have HB := Aside0.mk (Below.refl w.heap.size w)
  have H : ((slices_Concat_byte_byte.f l0).bind fun t235 => ((impl_Checksum.f k t235).bind fun t238 => ((impl_lowFirst.f (IntKind.u64.wrap (t238)) 4).bind fun t239 => (if t235.length + t239.length < 140737488355328 then (some (t235 ++ t239)) else (none))))) = some r := h
  clear h
  replace H := Option.bind_eq_some_iff.mp H
  obtain ⟨t235, A20, H⟩ := H
  replace H : ((impl_Checksum.f k t235).bind fun t238 => ((impl_lowFirst.f (IntKind.u64.wrap (t238)) 4).bind fun t239 => (if t235.length + t239.length < 140737488355328 then (some (t235 ++ t239)) else (none)))) = some r := H
  have A2 := Aside0.mk A20
  clear A20
  replace H := Option.bind_eq_some_iff.mp H
  obtain ⟨t238, A30, H⟩ := H
  replace H : ((impl_lowFirst.f (IntKind.u64.wrap (t238)) 4).bind fun t239 => (if t235.length + t239.length < 140737488355328 then (some (t235 ++ t239)) else (none))) = some r := H
  have A3 := Aside0.mk A30
  clear A30
  replace H := Option.bind_eq_some_iff.mp H
  obtain ⟨t239, A40, H⟩ := H
  replace H : (if t235.length + t239.length < 140737488355328 then (some (t235 ++ t239)) else (none)) = some r := H
  have A4 := Aside0.mk A40
  clear A40
  by_cases c5 : t235.length + t239.length < 140737488355328
  · rw [if_pos c5] at H
    have LMc5 := Aside0.mk c5
    clear c5
    obtain ⟨y242, hy242⟩ : ∃ y_ : List Int, y_ = (t235 ++ t239) := ⟨_, rfl⟩
    replace H : (some y242) = some r := by first | (rw [hy242]; with_reducible exact H) | (have H2_ := (Option.bind_some _ _).symm.trans H; rw [hy242]; with_reducible exact H2_) | (have H2_ := (Option.bind_some _ _).symm.trans H; with_reducible exact H2_) | with_reducible exact H | (rw [hy242]; exact H) | exact H
    have Ny242 := Aside0.mk hy242
    clear hy242
    obtain rfl := Option.some.inj H
    go_enter Try.func64, Try.ntmps64
    go_wp2_with (first | ((with_reducible refine gate_callee (f := 100) rfl ?_); refine goesL_ (some 5) rfl rfl Try.func100 (by kernel_rfl) rfl #[.slice A0 l0.length c0] rfl (by (try simp only [List.map_toArray, List.map_cons, List.map_nil]); first | done | rfl | (simp only [List.length_drop, List.length_take]; rfl)) ?_; (with_reducible refine (slices_Concat_byte_byte.calls _ _ l0 t235 _ ?side1 ?side2 A2.out).mono ?_); (case side1 => repeat (first | exact HR0.out | (with_reducible refine Kd.C_alloc ?_ _) | (with_reducible refine Kd.C_drewN ?_ _) | (with_reducible refine Kd.C_drew ?_))); (case side2 => exact HC0.out); rintro e w6 ⟨v236, rfl, ho0, hb⟩; refine ⟨_, rfl, ?_⟩; have n0_ := Aside0.mk (Kd.R_lower ho0 (below_size (by repeat (first | (with_reducible first | exact HB.out | apply below_alloc | apply pw_below_drewN | apply below_drew1) | exact HB.out)))); have n1_ := Aside0.mk (below_step (by repeat (first | (with_reducible first | exact HB.out | apply below_alloc | apply pw_below_drewN | apply below_drew1) | exact HB.out)) hb); clear HB; have HO237 := n0_; have HB := n1_; clear n0_ n1_; (try clear hb); (try clear hb2); (try clear hk); (try clear hi); (try clear ho0); obtain ⟨Ao7, co7, eo7⟩ := Kd.R_slice HO237.out; subst eo7) | ((with_reducible refine gate_callee (f := 101) rfl ?_); refine goesL_ (some 8) rfl rfl Try.func101 (by kernel_rfl) rfl #[.slice Ao7 t235.length co7] rfl (by (try simp only [List.map_toArray, List.map_cons, List.map_nil]); first | done | rfl | (simp only [List.length_drop, List.length_take]; rfl)) ?_; (with_reducible refine (impl_Checksum.calls k _ _ t235 t238 _ ?side1 ?side2 A3.out).mono ?_); (case side1 => repeat (first | exact (Kd.R_reads' HO237.out).2.2 | (with_reducible refine Kd.C_alloc ?_ _) | (with_reducible refine Kd.C_drewN ?_ _) | (with_reducible refine Kd.C_drew ?_))); (case side2 => exact (Kd.R_reads' HO237.out).2.1); rintro e w' ⟨rfl, ⟨nd, rfl⟩⟩; refine ⟨_, rfl, ?_⟩) | ((with_reducible refine gate_callee (f := 65) rfl ?_); refine goesL_ (some 10) rfl rfl Try.func65 (by kernel_rfl) rfl #[.int .u64 (IntKind.u64.wrap (t238)), .int .i64 4] rfl (by (try simp only [List.map_toArray, List.map_cons, List.map_nil]); first | done | rfl | (simp only [List.length_drop, List.length_take]; rfl)) ?_; (with_reducible refine (impl_lowFirst.calls (IntKind.u64.wrap (t238)) 4 t239 _ A4.out).mono ?_); rintro e w8 ⟨v240, rfl, ho0, hb⟩; refine ⟨_, rfl, ?_⟩; have n0_ := Aside0.mk (Kd.R_elder' (by (with_reducible repeat (first | apply Kd.R_alloc | apply Kd.R_drewN | apply Kd.R_drew)); exact HO237.out) (Kd.R_base ho0) hb); have n1_ := Aside0.mk (Kd.R_lower (Kd.R_new' ho0 (Kd.R_lt (by (with_reducible repeat (first | apply Kd.R_alloc | apply Kd.R_drewN | apply Kd.R_drew)); exact HO237.out))) (below_size (by repeat (first | (with_reducible first | exact HB.out | apply below_alloc | apply pw_below_drewN | apply below_drew1) | exact HB.out)))); have n2_ := Aside0.mk (below_step (by repeat (first | (with_reducible first | exact HB.out | apply below_alloc | apply pw_below_drewN | apply below_drew1) | exact HB.out)) hb); clear HO237; clear HB; have HO237 := n0_; have HO241 := n1_; have HB := n2_; clear n0_ n1_ n2_; (try clear hb); (try clear hb2); (try clear hk); (try clear hi); (try clear ho0); obtain ⟨Ao10, co10, eo10⟩ := Kd.R_slice HO241.out; subst eo10) | ((with_reducible refine gate_builtin (b := .append) (xs := #[.tmp 6, .tmp 10]) rfl ?_); at_builtin; refine Kd.R_append_rows (Kd.int .u8) (w0 := w) w.heap.size rfl (.tmp 6) (.tmp 10) 22 5 (.int .u8 0) 1 rfl Try.underlying22 info5 rfl (by decide) (by omega) (.slice Ao7 t235.length co7) t235 t239 _ _ _ (fun k_ => some k_ ≠ (.slice Ao10 t239.length co10 : Value).ownBlock) (fun _ => False) rfl rfl ?aO ?aR (fun _ _ h => h) (fun _ h => h.elim) ?aF ?aB ?aS ?aL ?_; (case aR => repeat (first | exact (Kd.R_reads' HO241.out).2.2 | (with_reducible refine Kd.C_alloc ?_ _) | (with_reducible refine Kd.C_drewN ?_ _) | (with_reducible refine Kd.C_drew ?_))); (case aB => exact (by repeat (first | (with_reducible first | exact HB.out | apply below_alloc | apply pw_below_drewN | apply below_drew1) | exact HB.out))); (case aF => exact (fun k_ hk => Kd.fresh' (Kd.R_lt (by (with_reducible repeat (first | apply Kd.R_alloc | apply Kd.R_drewN | apply Kd.R_drew)); exact HO241.out)) k_ hk)); (case aO => exact (by (with_reducible repeat (first | apply Kd.R_alloc | apply Kd.R_drewN | apply Kd.R_drew)); exact Kd.R_mono HO237.out (fun _ hk => hk.2))); (case aS => exact (below_size (by repeat (first | (with_reducible first | exact HB.out | apply below_alloc | apply pw_below_drewN | apply below_drew1) | exact HB.out)))); (case aL => have := LMc5.out; omega); intro v243 w9 ho hb hg hat; rw [← Ny242.out] at ho; have n0_ := Aside0.mk (Kd.R_after (ok := (fun _ => True)) (by (with_reducible repeat (first | apply Kd.R_alloc | apply Kd.R_drewN | apply Kd.R_drew)); exact HO241.out) hg hat); have n1_ := Aside0.mk (hb); have n2_ := Aside0.mk (ho); clear HO241; clear HB; clear HO237; have HO241 := n0_; have HB := n1_; have HO244 := n2_; clear n0_ n1_ n2_; clear ho hb hg hat))
    go_ret
    exact ⟨_, by first | rfl | (simp [errW_none, errW_some] <;> rfl) | (simp [*, errW_none, errW_some] <;> rfl), by (with_reducible repeat (first | apply Kd.R_alloc | apply Kd.R_drewN | apply Kd.R_drew)); exact Kd.R_mono HO244.out (fun _ hk => trivial), by repeat (first | (with_reducible first | exact HB.out | apply below_alloc | apply pw_below_drewN | apply below_drew1) | exact HB.out)⟩
  · rw [if_neg c5] at H
    exact absurd H (by simp)

end Go.Proofs.Ytbapokpkgonjkaa.Print

/- Sums and little-endian rows: the program's and the reference's are the same. -/
namespace Go.Proofs.Ytbapokpkgonjkaa.Print
open Go.RowKit Go.Proofs.YtbapokpkgonjkaaW.PrintWords Go.Proofs.YtbapokpkgonjkaaW.PrintLast Go.Proofs.YtbapokpkgonjkaaW.PrintMore
set_option linter.unusedVariables false
set_option linter.unusedSimpArgs false

/-- One step of the sum, as both sides make it. -/
theorem step_same (h b : Int) (h0 : 0 ≤ h) (h1 : h < 4294967296) (b0 : 0 ≤ b) (b1 : b < 256) :
    Int.tmod (IntKind.u64.wrap ((Go.bits .xor .u64 h (IntKind.u64.wrap b)) * 16777619)) 4294967296 = ((Go.bits .xor .u32 h (b % 4294967296)) * 16777619) % 4294967296 := by
  have e1 : IntKind.u64.wrap b = b := by simp [IntKind.wrap, IntKind.bits, IntKind.signed]; omega
  have e2 : b % 4294967296 = b := by omega
  rw [e1, e2, u64_xor h b h0 (by omega) b0 (by omega), u32_xor h b h0 (by omega) b0 (by omega)]
  have hx : h.toNat ^^^ b.toNat < 2 ^ 32 := Nat.xor_lt_two_pow (by omega) (by omega)
  generalize h.toNat ^^^ b.toNat = x at *
  have e3 : IntKind.u64.wrap ((x : Int) * 16777619) = (x : Int) * 16777619 := by simp [IntKind.wrap, IntKind.bits, IntKind.signed]; omega
  rw [e3, Int.tmod_eq_emod_of_nonneg (by omega)]

theorem step_range (h b : Int) : 0 ≤ ((Go.bits .xor .u32 h (b % 4294967296)) * 16777619) % 4294967296 ∧ ((Go.bits .xor .u32 h (b % 4294967296)) * 16777619) % 4294967296 < 4294967296 :=
  ⟨Int.emod_nonneg _ (by decide), Int.emod_lt_of_pos _ (by decide)⟩

theorem sum_loop (l : List Int) (hl : l.length ≤ 140737488351232) (hb : ∀ x ∈ l, 0 ≤ x ∧ x < 256) (d : Nat) : ∀ (k i : Nat) (h : Int), i + d = l.length → d < k → 0 ≤ h → h < 4294967296 →
    ∃ r, spec_Checksum.l0 k l h (i : Int) = some r ∧ impl_Checksum.l0 k h l (l.length : Int) (i : Int) = some r ∧ 0 ≤ r ∧ r < 4294967296 := by
  induction d with
  | zero =>
    intro k i h hi hk h0 h1
    obtain ⟨k, rfl⟩ : ∃ m, k = m + 1 := ⟨k - 1, by omega⟩
    refine ⟨h, ?_, ?_, h0, h1⟩
    · simp only [spec_Checksum.l0]
      rw [if_neg (by omega)]
      congr 1
      omega
    · simp only [impl_Checksum.l0]
      rw [if_neg (by omega)]
  | succ d ih =>
    intro k i h hi hk h0 h1
    obtain ⟨k, rfl⟩ : ∃ m, k = m + 1 := ⟨k - 1, by omega⟩
    have hm : l.getD i 0 ∈ l := by
      rw [List.getD_eq_getElem?_getD, List.getElem?_eq_getElem (by omega)]
      exact List.getElem_mem _
    obtain ⟨b0, b1⟩ := hb _ hm
    obtain ⟨r0, r1⟩ := step_range h (l.getD i 0)
    obtain ⟨r, e1, e2, e3⟩ := ih k (i + 1) _ (by omega) (by omega) r0 r1
    refine ⟨r, ?_, ?_, e3⟩
    · simp only [spec_Checksum.l0]
      rw [if_pos (by omega), if_pos (by omega), wrap_up i (by omega), rd_nat, step_same h _ h0 h1 b0 b1]
      exact e1
    · simp only [impl_Checksum.l0]
      rw [if_pos (by omega), if_pos (by omega), if_pos (by omega), wrap_up i (by omega), rd_nat]
      exact e2


/-- The sum of a row of bytes. -/
def sumB (l : List Int) : Int := (impl_Checksum.f (l.length + 1) l).getD 0
theorem sum_f (l : List Int) (hl : l.length ≤ 140737488351232) (hb : ∀ x ∈ l, 0 ≤ x ∧ x < 256) (k : Nat) (hk : l.length < k) : spec_Checksum.f k l = some (sumB l) ∧ impl_Checksum.f k l = some (sumB l) ∧ 0 ≤ sumB l ∧ sumB l < 4294967296 := by
  obtain ⟨r, e1, e2, e3⟩ := sum_loop l hl hb l.length k 0 2166136261 (by omega) hk (by omega) (by omega)
  obtain ⟨r', _, e2', _⟩ := sum_loop l hl hb l.length (l.length + 1) 0 2166136261 (by omega) (by omega) (by omega) (by omega)
  have hr : r = r' := by
    obtain ⟨d, rfl⟩ : ∃ d, k = l.length + 1 + d := ⟨k - (l.length + 1), by omega⟩
    have : ∀ d, impl_Checksum.l0 (l.length + 1 + d) 2166136261 l (l.length : Int) 0 = some r' := by
      intro d
      induction d with
      | zero => exact e2'
      | succ d ih => exact impl_Checksum.mono_l (l.length + 1 + d) _ _ _ _ _ ih
    have h := this d
    have e2b : impl_Checksum.l0 (l.length + 1 + d) 2166136261 l (l.length : Int) 0 = some r := e2
    rw [h] at e2b
    exact (Option.some.inj e2b).symm
  subst hr
  have hs : sumB l = r := by
    unfold sumB impl_Checksum.f
    have : impl_Checksum.l0 (l.length + 1) 2166136261 l (l.length : Int) 0 = some r := e2'
    rw [this]
    rfl
  rw [hs]
  exact ⟨e1, e2, e3⟩

theorem leB_cons (v : Int) (n : Nat) (hv : 0 ≤ v) : leB v (n + 1) = v % 256 :: leB (v / 256) n := by
  unfold leB
  rw [List.range_succ_eq_map, List.map_cons, List.map_map]
  congr 1
  · simp
  · apply List.map_congr_left
    intro i _
    simp only [Function.comp]
    rw [show 8 * (i + 1) = 8 + 8 * i by omega, Int.pow_add, ← Int.ediv_ediv_of_nonneg (by decide)]
    rfl
theorem little_f (n : Nat) : ∀ (k : Nat) (v : Int), n ≤ 8 → 0 ≤ v → v < 18446744073709551616 → n < k → spec_l2little.f k v (n : Int) = some (leB v n) := by
  induction n with
  | zero =>
    intro k v _ _ _ hk
    obtain ⟨k, rfl⟩ : ∃ m, k = m + 1 := ⟨k - 1, by omega⟩
    simp only [spec_l2little.f]
    rw [if_pos (by omega)]
    simp [leB]
  | succ n ih =>
    intro k v hn h0 h1 hk
    obtain ⟨k, rfl⟩ : ∃ m, k = m + 1 := ⟨k - 1, by omega⟩
    simp only [spec_l2little.f]
    rw [if_neg (by omega)]
    have e1 : IntKind.u64.wrap (Int.tdiv v 256) = v / 256 := by
      rw [Int.tdiv_eq_ediv_of_nonneg h0]
      simp [IntKind.wrap, IntKind.bits, IntKind.signed]
      omega
    have e2 : wrap64 (((n + 1 : Nat) : Int) - 1) = (n : Int) := by unfold wrap64; omega
    rw [e1, e2, ih k (v / 256) (by omega) (by omega) (by omega) (by omega)]
    simp only [Option.bind_some]
    rw [if_pos (by simp [leB_length]; omega), leB_cons v n h0]
    congr 2
    rw [Int.tmod_eq_emod_of_nonneg h0]
    simp
theorem leB_range (v : Int) (n : Nat) : ∀ x ∈ leB v n, 0 ≤ x ∧ x < 256 := by
  intro x hx
  simp only [leB, List.mem_map] at hx
  obtain ⟨i, _, rfl⟩ := hx
  exact ⟨Int.emod_nonneg _ (by decide), Int.emod_lt_of_pos _ (by decide)⟩
theorem u64_of (v : Int) (h0 : 0 ≤ v) (h1 : v < 18446744073709551616) : IntKind.u64.wrap v = v := by
  simp [IntKind.wrap, IntKind.bits, IntKind.signed]
  omega
theorem spec_summed_f (l : List Int) (hl : l.length ≤ 140737488351000) (hb : ∀ x ∈ l, 0 ≤ x ∧ x < 256) (k : Nat) (hk : l.length + 10 < k) : spec_l2summed.f k l = some (l ++ leB (sumB l) 4) := by
  unfold spec_l2summed.f spec_l1copy.f
  obtain ⟨e1, _, e2, e3⟩ := sum_f l (by omega) hb k (by omega)
  rw [if_pos (by simp; omega), Option.bind_some, e1, Option.bind_some, u64_of _ e2 (by omega), show spec_l2little.f k (sumB l) 4 = some (leB (sumB l) 4) from little_f 4 k _ (by omega) e2 (by omega) (by omega), Option.bind_some, if_pos (by simp [leB_length]; omega)]
  simp
theorem impl_summed_f (ls : List (List Int)) (hl : ls.flatten.length ≤ 140737488351000) (hb : ∀ x ∈ ls.flatten, 0 ≤ x ∧ x < 256) (k : Nat) (hk : ls.flatten.length + 10 < k) : impl_summed.f k ls = some (ls.flatten ++ leB (sumB ls.flatten) 4) := by
  unfold impl_summed.f slices_Concat_byte_byte.f
  have hs : sumLen ls = ls.flatten.length := by simp [sumLen, List.length_flatten]
  obtain ⟨_, e1, e2, e3⟩ := sum_f ls.flatten (by omega) hb k (by omega)
  rw [if_pos (by omega), Option.bind_some, e1, Option.bind_some, u64_of _ e2 (by omega), impl_lowFirst.f, if_pos (by omega), Option.bind_some]
  rw [if_pos (by simp only [leB_length]; omega)]
  rfl
end Go.Proofs.Ytbapokpkgonjkaa.Print

/- The machine's side of the statements: what a Go function comes to, as a Lean function, and that it does so (written by this session's own program over the kit's printer; Lean checks it). -/
namespace Go.Proofs.Ytbapokpkgonjkaa.Print
open Go.RowKit Go.Proofs.YtbapokpkgonjkaaW.PrintWords Go.Proofs.YtbapokpkgonjkaaW.PrintLast Go.Proofs.YtbapokpkgonjkaaW.PrintMore
attribute [local go_sem] max2_int min2_int max_two min_two max_three min_three max_four min_four   -- for this text's walks alone
set_option linter.unusedVariables false
set_option linter.unusedSimpArgs false

/-! ### laws_toRecord: function 28 -/
def laws_toRecord.f (k : Nat) (a0_0 : Int) (l0_1 : List Int) : Option (Int × List Int) := (laws_toByteS.f k l0_1).bind fun t314 => (some (a0_0, t314))
theorem laws_toRecord.mono : ∀ a0 a1 k, LeO (laws_toRecord.f k a0 a1) (laws_toRecord.f (k + 1) a0 a1) := by
  intro a0 a1 k
  unfold laws_toRecord.f
  repeat' first
      | (with_reducible exact laws_toByteS.mono _ _)
      | (with_reducible exact LeO.refl _)
      | (with_reducible exact LeO.none _)
      | (with_reducible refine LeO.ite ?_ ?_)
      | (with_reducible refine LeO.bind ?_ (fun _ => ?_))
      | exact laws_toByteS.mono _ _
      | exact LeO.none _
      | refine LeO.ite ?_ ?_
      | refine LeO.bind ?_ (fun _ => ?_)
set_option maxHeartbeats 8000000 in
set_option maxRecDepth 100000 in
theorem laws_toRecord.calls (k : Nat) (a0_0 : Int) (A0_1 : Option Addr) (c0_1 : Nat) (l0_1 : List Int) (r1 : Int) (r2 : List Int) (w : World) (hr0_1 : Kd.C (Kd.int .u8) w A0_1 l0_1.length l0_1) (hc0_1 : l0_1.length ≤ c0_1) (h : laws_toRecord.f k a0_0 l0_1 = some (r1, r2)) :
    Calls Try.prog 28 #[.agg #[.int .u64 a0_0, .slice A0_1 l0_1.length c0_1]] w fun e w' => ∃ v1_ : Value, e = .returned (.agg #[.int .u64 r1, v1_]) ∧ Kd.R (Kd.int .u8) 5 w' w.heap.size (fun _ => True) v1_ r2 ∧ Below w.heap.size w w' := by
  have hu42 := Try.underlying42
  have hu45 := Try.underlying45
  have HR0_1 := Aside0.mk hr0_1
  have HC0_1 := Aside0.mk hc0_1
  clear hr0_1 hc0_1
  have HB := Aside0.mk (Below.refl w.heap.size w)
  have H : ((laws_toByteS.f k l0_1).bind fun t314 => (some (a0_0, t314))) = some (r1, r2) := h
  clear h
  replace H := Option.bind_eq_some_iff.mp H
  obtain ⟨t314, A20, H⟩ := H
  replace H : (some (a0_0, t314)) = some (r1, r2) := H
  have A2 := Aside0.mk A20
  clear A20
  simp only [Option.some.injEq, Prod.mk.injEq] at H
  obtain ⟨rfl, rfl⟩ := H
  go_enter Try.func28, Try.ntmps28
  go_wp2_with (first | ((with_reducible refine gate_dst (N := 1) rfl ?_); refine box_event ?hg (N := 1) ?hd (cs := #[.int .u64 a0_0, .slice A0_1 l0_1.length c0_1]) (t := 42) ?hr ?_; (case hd => rfl); (case hg => rfl); (case hr => first | (go_simp; done) | (go_simp; rfl)); intro gb311 hg w3 hbox hb; have n0_ := Aside0.mk (below_step (by repeat (first | (with_reducible first | exact HB.out | apply below_alloc | apply pw_below_drewN | apply below_drew1) | exact HB.out)) hb); have n1_ := Aside0.mk (hbox); have n2_ := Aside0.mk ((by rw [hg]; exact (below_size (by repeat (first | (with_reducible first | exact HB.out | apply below_alloc | apply pw_below_drewN | apply below_drew1) | exact HB.out))) : w.heap.size ≤ gb311)); have n3_ := Aside0.mk ((by rw [hg]; exact (below_size (by repeat (first | (with_reducible first | exact HB.out | apply below_alloc | apply pw_below_drewN | apply below_drew1) | exact HB.out))) : w.heap.size ≤ gb311)); clear HB; have HB := n0_; have BK311 := n1_; have GW311 := n2_; have GE311 := n3_; clear n0_ n1_ n2_ n3_; clear hb hbox hg) | ((with_reducible refine gate_dst (N := 2) rfl ?_); refine box_event ?hg (N := 2) ?hd (cs := #[.int .u64 0, .slice none 0 0]) (t := 45) ?hr ?_; (case hd => rfl); (case hg => rfl); (case hr => first | (go_simp; done) | (go_simp; rfl)); intro gb312 hg w4 hbox hb; have n0_ := Aside0.mk (blk_below (g := gb311) (o := .cells #[.int .u64 a0_0, .slice A0_1 l0_1.length c0_1] 42 (0, 0)) (by (with_reducible repeat (first | refine blk_drewN ?_ _ | refine blk_drew ?_ | refine blk_alloc ?_ _)); exact BK311.out) hb); have n1_ := Aside0.mk (below_step (by repeat (first | (with_reducible first | exact HB.out | apply below_alloc | apply pw_below_drewN | apply below_drew1 | refine below_set ?_ GE311.out) | exact HB.out)) hb); have n2_ := Aside0.mk (hbox); have n3_ := Aside0.mk ((by rw [hg]; exact (below_size (by repeat (first | (with_reducible first | exact HB.out | apply below_alloc | apply pw_below_drewN | apply below_drew1 | refine below_set ?_ GE311.out) | exact HB.out))) : w.heap.size ≤ gb312)); have n4_ := Aside0.mk ((by rw [hg]; exact (below_size (by repeat (first | (with_reducible first | exact HB.out | apply below_alloc | apply pw_below_drewN | apply below_drew1 | refine below_set ?_ GE311.out) | exact HB.out))) : w.heap.size ≤ gb312)); have n5_ := Aside0.mk ((by rw [hg]; exact Nat.ne_of_lt (blk_lt (g := gb311) (o := .cells #[.int .u64 a0_0, .slice A0_1 l0_1.length c0_1] 42 (0, 0)) (by (with_reducible repeat (first | refine blk_drewN ?_ _ | refine blk_drew ?_ | refine blk_alloc ?_ _)); exact BK311.out)) : gb311 ≠ gb312)); have n6_ := Aside0.mk ((by rw [hg]; exact Nat.ne_of_gt (blk_lt (g := gb311) (o := .cells #[.int .u64 a0_0, .slice A0_1 l0_1.length c0_1] 42 (0, 0)) (by (with_reducible repeat (first | refine blk_drewN ?_ _ | refine blk_drew ?_ | refine blk_alloc ?_ _)); exact BK311.out)) : gb312 ≠ gb311)); clear BK311; clear HB; have BK311 := n0_; have HB := n1_; have BK312 := n2_; have GW312 := n3_; have GE312 := n4_; have NB311_312 := n5_; have NB312_311 := n6_; clear n0_ n1_ n2_ n3_ n4_ n5_ n6_; clear hb hbox hg) | ((with_reducible refine gate_dst (N := 3) rfl ?_); refine box_event ?hg (N := 3) ?hd (cs := #[.int .u64 0, .slice none 0 0]) (t := 45) ?hr ?_; (case hd => rfl); (case hg => rfl); (case hr => first | (go_simp; done) | (go_simp; rfl)); intro gb313 hg w5 hbox hb; have n0_ := Aside0.mk (blk_below (g := gb311) (o := .cells #[.int .u64 a0_0, .slice A0_1 l0_1.length c0_1] 42 (0, 0)) (by (with_reducible repeat (first | refine blk_drewN ?_ _ | refine blk_drew ?_ | refine blk_alloc ?_ _)); exact BK311.out) hb); have n1_ := Aside0.mk (blk_below (g := gb312) (o := .cells #[.int .u64 0, .slice none 0 0] 45 (0, 0)) (by (with_reducible repeat (first | refine blk_drewN ?_ _ | refine blk_drew ?_ | refine blk_alloc ?_ _)); exact BK312.out) hb); have n2_ := Aside0.mk (below_step (by repeat (first | (with_reducible first | exact HB.out | apply below_alloc | apply pw_below_drewN | apply below_drew1 | refine below_set ?_ GE311.out | refine below_set ?_ GE312.out) | exact HB.out)) hb); have n3_ := Aside0.mk (hbox); have n4_ := Aside0.mk ((by rw [hg]; exact (below_size (by repeat (first | (with_reducible first | exact HB.out | apply below_alloc | apply pw_below_drewN | apply below_drew1 | refine below_set ?_ GE311.out | refine below_set ?_ GE312.out) | exact HB.out))) : w.heap.size ≤ gb313)); have n5_ := Aside0.mk ((by rw [hg]; exact (below_size (by repeat (first | (with_reducible first | exact HB.out | apply below_alloc | apply pw_below_drewN | apply below_drew1 | refine below_set ?_ GE311.out | refine below_set ?_ GE312.out) | exact HB.out))) : w.heap.size ≤ gb313)); have n6_ := Aside0.mk ((by rw [hg]; exact Nat.ne_of_lt (blk_lt (g := gb311) (o := .cells #[.int .u64 a0_0, .slice A0_1 l0_1.length c0_1] 42 (0, 0)) (by (with_reducible repeat (first | refine blk_drewN ?_ _ | refine blk_drew ?_ | refine blk_alloc ?_ _)); exact BK311.out)) : gb311 ≠ gb313)); have n7_ := Aside0.mk ((by rw [hg]; exact Nat.ne_of_gt (blk_lt (g := gb311) (o := .cells #[.int .u64 a0_0, .slice A0_1 l0_1.length c0_1] 42 (0, 0)) (by (with_reducible repeat (first | refine blk_drewN ?_ _ | refine blk_drew ?_ | refine blk_alloc ?_ _)); exact BK311.out)) : gb313 ≠ gb311)); have n8_ := Aside0.mk ((by rw [hg]; exact Nat.ne_of_lt (blk_lt (g := gb312) (o := .cells #[.int .u64 0, .slice none 0 0] 45 (0, 0)) (by (with_reducible repeat (first | refine blk_drewN ?_ _ | refine blk_drew ?_ | refine blk_alloc ?_ _)); exact BK312.out)) : gb312 ≠ gb313)); have n9_ := Aside0.mk ((by rw [hg]; exact Nat.ne_of_gt (blk_lt (g := gb312) (o := .cells #[.int .u64 0, .slice none 0 0] 45 (0, 0)) (by (with_reducible repeat (first | refine blk_drewN ?_ _ | refine blk_drew ?_ | refine blk_alloc ?_ _)); exact BK312.out)) : gb313 ≠ gb312)); clear BK311; clear BK312; clear HB; have BK311 := n0_; have BK312 := n1_; have HB := n2_; have BK313 := n3_; have GW313 := n4_; have GE313 := n5_; have NB311_313 := n6_; have NB313_311 := n7_; have NB312_313 := n8_; have NB313_312 := n9_; clear n0_ n1_ n2_ n3_ n4_ n5_ n6_ n7_ n8_ n9_; clear hb hbox hg; have hnb6 := NB311_312.out; have hnc6 := NB312_311.out; have hnb7 := NB311_313.out; have hnc7 := NB313_311.out; have hcz8_0 : w5.cell? ⟨gb311, 0, none⟩ = some (.int .u64 a0_0) := (blk_cell BK311.out 0).trans rfl; have hcz8_1 : w5.cell? ⟨gb311, 1, none⟩ = some (.slice A0_1 l0_1.length c0_1) := (blk_cell BK311.out 1).trans rfl; have hfz8_0 := blk_frozen BK311.out 0; have hfz8_1 := blk_frozen BK311.out 1; have hnb9 := NB313_312.out; have hnc9 := NB312_313.out; have hcz10_0 : w5.cell? ⟨gb313, 0, none⟩ = some (.int .u64 0) := (blk_cell BK313.out 0).trans rfl; have hcz10_1 : w5.cell? ⟨gb313, 1, none⟩ = some (.slice none 0 0) := (blk_cell BK313.out 1).trans rfl; have hfz10_0 := blk_frozen BK313.out 0; have hfz10_1 := blk_frozen BK313.out 1) | ((with_reducible refine gate_callee (f := 21) rfl ?_); refine goesL_ (some 9) rfl rfl Try.func21 (by kernel_rfl) rfl #[.slice A0_1 l0_1.length c0_1] rfl (by (try simp only [List.map_toArray, List.map_cons, List.map_nil]); first | done | rfl | (simp only [List.length_drop, List.length_take]; rfl)) ?_; (with_reducible refine (laws_toByteS.calls k _ _ l0_1 t314 _ ?side1 ?side2 A2.out).mono ?_); (case side1 => exact Kd.C_below HR0_1.out (by repeat (first | (with_reducible first | exact HB.out | apply below_alloc | apply pw_below_drewN | apply below_drew1 | refine below_set ?_ GE311.out | refine below_set ?_ GE312.out | refine below_set ?_ GE313.out) | exact HB.out))); (case side2 => exact HC0_1.out); rintro e w11 ⟨v315, rfl, ho0, hb⟩; refine ⟨_, rfl, ?_⟩; have n0_ := Aside0.mk (Kd.R_lower ho0 (below_size (by repeat (first | (with_reducible first | exact HB.out | apply below_alloc | apply pw_below_drewN | apply below_drew1 | refine below_set ?_ GE311.out | refine below_set ?_ GE312.out | refine below_set ?_ GE313.out) | exact HB.out)))); have n1_ := Aside0.mk (blk_below (g := gb311) (o := .cells #[.int .u64 a0_0, .slice A0_1 l0_1.length c0_1] 42 (0, 0)) (by (with_reducible repeat (first | refine blk_drewN ?_ _ | refine blk_drew ?_ | refine blk_alloc ?_ _)); refine blk_far ?_ NB311_313.out _; (with_reducible repeat (first | refine blk_drewN ?_ _ | refine blk_drew ?_ | refine blk_alloc ?_ _)); exact BK311.out) hb); have n2_ := Aside0.mk (blk_below (g := gb312) (o := .cells #[.int .u64 0, .slice none 0 0] 45 (0, 0)) (by (with_reducible repeat (first | refine blk_drewN ?_ _ | refine blk_drew ?_ | refine blk_alloc ?_ _)); refine blk_far ?_ NB312_313.out _; (with_reducible repeat (first | refine blk_drewN ?_ _ | refine blk_drew ?_ | refine blk_alloc ?_ _)); exact BK312.out) hb); have n3_ := Aside0.mk (blk_below (g := gb313) (o := .cells #[.int .u64 a0_0, .slice none 0 0] 45 (0, 0)) (by (with_reducible repeat (first | refine blk_drewN ?_ _ | refine blk_drew ?_ | refine blk_alloc ?_ _)); refine blk_put (cs := #[.int .u64 0, .slice none 0 0]) ?_ 0 _ rfl; (with_reducible repeat (first | refine blk_drewN ?_ _ | refine blk_drew ?_ | refine blk_alloc ?_ _)); exact BK313.out) hb); have n4_ := Aside0.mk (below_step (by repeat (first | (with_reducible first | exact HB.out | apply below_alloc | apply pw_below_drewN | apply below_drew1 | refine below_set ?_ GE311.out | refine below_set ?_ GE312.out | refine below_set ?_ GE313.out) | exact HB.out)) hb); clear BK311; clear BK312; clear BK313; clear HB; have HO316 := n0_; have BK311 := n1_; have BK312 := n2_; have BK313 := n3_; have HB := n4_; clear n0_ n1_ n2_ n3_ n4_; (try clear hb); (try clear hb2); (try clear hk); (try clear hi); (try clear ho0); obtain ⟨Ao12, co12, eo12⟩ := Kd.R_slice HO316.out; subst eo12; have hcz13_0 : w11.cell? ⟨gb313, 0, none⟩ = some (.int .u64 a0_0) := (blk_cell BK313.out 0).trans rfl; have hcz13_1 : w11.cell? ⟨gb313, 1, none⟩ = some (.slice none 0 0) := (blk_cell BK313.out 1).trans rfl; have hfz13_0 := blk_frozen BK313.out 0; have hfz13_1 := blk_frozen BK313.out 1; have hcz14_0 : w11.cell? ⟨gb312, 0, none⟩ = some (.int .u64 0) := (blk_cell BK312.out 0).trans rfl; have hcz14_1 : w11.cell? ⟨gb312, 1, none⟩ = some (.slice none 0 0) := (blk_cell BK312.out 1).trans rfl; have hfz14_0 := blk_frozen BK312.out 0; have hfz14_1 := blk_frozen BK312.out 1))
  refine bodyPost_ret (results_cell_row rfl _ _ gb312 45 #[.int .u64 a0_0, .slice Ao12 t314.length co12] (0, 0) _ rfl (by (with_reducible repeat (first | refine blk_drewN ?_ _ | refine blk_drew ?_ | refine blk_alloc ?_ _)); refine blk_put (cs := #[.int .u64 a0_0, .slice none 0 0]) ?_ 1 _ rfl; (with_reducible repeat (first | refine blk_drewN ?_ _ | refine blk_drew ?_ | refine blk_alloc ?_ _)); refine blk_put (cs := #[.int .u64 0, .slice none 0 0]) ?_ 0 _ rfl; (with_reducible repeat (first | refine blk_drewN ?_ _ | refine blk_drew ?_ | refine blk_alloc ?_ _)); refine blk_far ?_ NB312_313.out _; (with_reducible repeat (first | refine blk_drewN ?_ _ | refine blk_drew ?_ | refine blk_alloc ?_ _)); exact BK312.out) Try.underlying45 rfl (by kernel_rfl)) rfl ?_
  exact ⟨_, by first | rfl | (simp [errW_none, errW_some] <;> rfl) | (simp [*, errW_none, errW_some] <;> rfl), by (with_reducible repeat (first | apply Kd.R_alloc | apply Kd.R_drewN | apply Kd.R_drew)); exact Kd.R_mono (Kd.R_far (p := ⟨gb312, 1, none⟩) (Kd.R_far (p := ⟨gb312, 0, none⟩) (Kd.R_far (p := ⟨gb313, 1, none⟩) (Kd.R_types (Kd.R_types HO316.out BK313.out (by decide)) BK312.out (by decide)) (fun _ hk => hk.1.2) (.slice Ao12 t314.length co12)) (fun _ hk => hk.2) (.int .u64 a0_0)) (fun _ hk => hk.2) (.slice Ao12 t314.length co12)) (fun _ hk => trivial), by repeat (first | (with_reducible first | exact HB.out | apply below_alloc | apply pw_below_drewN | apply below_drew1 | refine below_set ?_ GE311.out | refine below_set ?_ GE312.out | refine below_set ?_ GE313.out) | exact HB.out)⟩

end Go.Proofs.Ytbapokpkgonjkaa.Print
