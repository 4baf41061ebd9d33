/- Texts of this session, joined by its own program. -/
import Derived.Test.YtbapokpkgonjkaaCDAppend0
import Derived.Test.YtbapokpkgonjkaaCDAppend1
import Derived.Test.YtbapokpkgonjkaaCDAppend2
/- Plain laws of the statements' own helpers on bytes: toX copies, eqX of a thing with itself, heldX behind markX. -/
namespace Go.Proofs.Ytbapokpkgonjkaa.Print
open Go.RowKit Go.Proofs.YtbapokpkgonjkaaW.PrintWords Go.Proofs.YtbapokpkgonjkaaW.PrintLast Go.Proofs.YtbapokpkgonjkaaW.PrintMore

theorem wrap_up (i : Nat) (h : i ≤ 140737488355328) : wrap64 ((i : Int) + 1) = ((i + 1 : Nat) : Int) := by
  unfold wrap64; omega
theorem rd_nat (l : List Int) (i : Nat) : rd l (i : Int) = l.getD i 0 := by
  unfold rd; rw [Int.toNat_natCast]
theorem getD_at (l : List Int) (i : Nat) (h : i < l.length) : l.getD i 0 = l[i] := by
  rw [List.getD_eq_getElem?_getD, List.getElem?_eq_getElem h]; rfl

theorem toByteS_loop (l : List Int) (hl : l.length ≤ 140737488351232) (d : Nat) : ∀ (k i : Nat) (x : List Int), x.length = l.length → i + d = l.length → d < k →
    (∀ j, j < i → x[j]? = l[j]?) → laws_toByteS.l0 k l x (i : Int) = some l := by
  induction d with
  | zero =>
    intro k i x hx hi hk hj
    obtain ⟨k, rfl⟩ : ∃ m, k = m + 1 := ⟨k - 1, by omega⟩
    simp only [laws_toByteS.l0]
    rw [if_neg (by omega)]
    congr 1
    apply List.ext_getElem?
    intro j
    rcases Nat.lt_or_ge j i with h | h
    · exact hj j h
    · rw [List.getElem?_eq_none (by omega), List.getElem?_eq_none (by omega)]
  | succ d ih =>
    intro k i x hx hi hk hj
    obtain ⟨k, rfl⟩ : ∃ m, k = m + 1 := ⟨k - 1, by omega⟩
    simp only [laws_toByteS.l0]
    rw [if_pos (by omega), if_pos (by omega), if_pos (by omega), wrap_up i (by omega)]
    refine ih k (i + 1) _ (by rw [List.length_set]; exact hx) (by omega) (by omega) ?_
    intro j h
    rw [Int.toNat_natCast, List.getElem?_set]
    by_cases e : i = j
    · subst e
      rw [if_pos rfl, if_pos (by omega), rd_nat, List.getD_eq_getElem?_getD, List.getElem?_eq_getElem (by omega)]
      rfl
    · rw [if_neg e]
      exact hj j (by omega)
theorem toByteS_f (l : List Int) (hl : l.length ≤ 140737488351232) (k : Nat) (hk : l.length < k) : laws_toByteS.f k l = some l := by
  unfold laws_toByteS.f
  rw [if_pos (by omega), if_pos (by omega)]
  exact toByteS_loop l hl l.length k 0 _ (by rw [List.length_replicate]; omega) (by omega) hk (fun j h => absurd h (by omega))

theorem eqByteS_loop (l : List Int) (hl : l.length ≤ 140737488351232) (d : Nat) : ∀ (k i : Nat), i + d = l.length → d < k → laws_eqByteS.l0 k l l (i : Int) = some true := by
  induction d with
  | zero =>
    intro k i hi hk
    obtain ⟨k, rfl⟩ : ∃ m, k = m + 1 := ⟨k - 1, by omega⟩
    simp only [laws_eqByteS.l0]
    rw [if_neg (by omega)]
  | succ d ih =>
    intro k i hi hk
    obtain ⟨k, rfl⟩ : ∃ m, k = m + 1 := ⟨k - 1, by omega⟩
    simp only [laws_eqByteS.l0]
    rw [if_pos (by omega), if_pos (by omega), if_pos (by omega), if_pos trivial, wrap_up i (by omega)]
    exact ih k (i + 1) (by omega) (by omega)
theorem eqByteS_self (l : List Int) (hl : l.length ≤ 140737488351232) (k : Nat) (hk : l.length < k) : laws_eqByteS.f k l l = some true := by
  unfold laws_eqByteS.f
  rw [if_pos rfl]
  exact eqByteS_loop l hl l.length k 0 (by omega) hk

/-- the bytes that markX writes from number m on -/
def marksB (n : Nat) (m : Nat) : List Int := (List.range n).map fun i => ((m + i : Nat) : Int) % 256
theorem marksB_length (n m : Nat) : (marksB n m).length = n := by simp [marksB]
theorem marksB_at (n m i : Nat) (h : i < n) : (marksB n m)[i]? = some (((m + i : Nat) : Int) % 256) := by simp [marksB, h]

theorem markByteS_loop (n m : Nat) (hm : m + n ≤ 140737488351232) (d : Nat) : ∀ (k i : Nat) (x : List Int), x.length = n → i + d = n → d < k → (∀ j, j < i → x[j]? = (marksB n m)[j]?) →
    laws_markByteS.l0 k x ((m + i : Nat) : Int) (i : Int) = some (((m + n : Nat) : Int), marksB n m) := by
  induction d with
  | zero =>
    intro k i x hx hi hk hj
    obtain ⟨k, rfl⟩ : ∃ m, k = m + 1 := ⟨k - 1, by omega⟩
    simp only [laws_markByteS.l0]
    rw [if_neg (by omega)]
    have e : x = marksB n m := by
      apply List.ext_getElem?
      intro j
      rcases Nat.lt_or_ge j i with h | h
      · exact hj j h
      · rw [List.getElem?_eq_none (by omega), List.getElem?_eq_none (by rw [marksB_length]; omega)]
    rw [e, show i = n by omega]
  | succ d ih =>
    intro k i x hx hi hk hj
    obtain ⟨k, rfl⟩ : ∃ m, k = m + 1 := ⟨k - 1, by omega⟩
    simp only [laws_markByteS.l0]
    rw [if_pos (by omega), if_pos (by omega), wrap_up i (by omega), wrap_up (m + i) (by omega)]
    refine ih k (i + 1) _ (by rw [List.length_set]; exact hx) (by omega) (by omega) ?_
    intro j h
    rw [Int.toNat_natCast, List.getElem?_set]
    by_cases e : i = j
    · subst e
      rw [if_pos rfl, if_pos (by omega), marksB_at n m i (by omega)]
    · rw [if_neg e]
      exact hj j (by omega)
theorem markByteS_f (l : List Int) (m : Nat) (hm : m + l.length ≤ 140737488351232) (k : Nat) (hk : l.length < k) : laws_markByteS.f k l (m : Int) = some (((m + l.length : Nat) : Int), marksB l.length m) := by
  unfold laws_markByteS.f
  exact markByteS_loop l.length m hm l.length k 0 l rfl (by omega) hk (fun j h => absurd h (by omega))
theorem heldByteS_loop (n m : Nat) (hm : m + n ≤ 140737488351232) (d : Nat) : ∀ (k i : Nat), i + d = n → d < k → laws_heldByteS.l0 k (marksB n m) ((m + i : Nat) : Int) (i : Int) = some (((m + n : Nat) : Int)) := by
  induction d with
  | zero =>
    intro k i hi hk
    obtain ⟨k, rfl⟩ : ∃ m, k = m + 1 := ⟨k - 1, by omega⟩
    simp only [laws_heldByteS.l0]
    rw [if_neg (by rw [marksB_length]; omega), show i = n by omega]
  | succ d ih =>
    intro k i hi hk
    obtain ⟨k, rfl⟩ : ∃ m, k = m + 1 := ⟨k - 1, by omega⟩
    simp only [laws_heldByteS.l0]
    have hr : rd (marksB n m) (i : Int) = ((m + i : Nat) : Int) % 256 := by
      rw [rd_nat, List.getD_eq_getElem?_getD, marksB_at n m i (by omega)]; rfl
    rw [if_pos (by rw [marksB_length]; omega), if_pos (by omega), if_pos hr, wrap_up i (by omega), wrap_up (m + i) (by omega)]
    exact ih k (i + 1) (by omega) (by omega)
theorem heldByteS_f (n m : Nat) (hm : m + n ≤ 140737488351232) (k : Nat) (hk : n < k) : laws_heldByteS.f k (marksB n m) (m : Int) = some (((m + n : Nat) : Int)) := by
  unfold laws_heldByteS.f
  exact heldByteS_loop n m hm n k 0 (by omega) hk
theorem szByteS_f (l : List Int) (left : Int) (h0 : left ≤ 1048576) (h1 : -1048576 ≤ left) (hl : l.length ≤ 140737488351232) : laws_szByteS.f l left = some (if left - l.length < 0 then -1 else left - l.length) := by
  unfold laws_szByteS.f
  have e : wrap64 (left - (l.length : Int)) = left - l.length := by unfold wrap64; omega
  rw [e]
  split <;> rfl

end Go.Proofs.Ytbapokpkgonjkaa.Print

/- Plain laws of the statements' own helpers on disks: toX copies, eqX of a thing with itself, heldX behind markX, szX. -/
namespace Go.Proofs.Ytbapokpkgonjkaa.Print
open Go.RowKit Go.Proofs.YtbapokpkgonjkaaW.PrintWords Go.Proofs.YtbapokpkgonjkaaW.PrintLast Go.Proofs.YtbapokpkgonjkaaW.PrintMore

/-- what szDisk leaves -/
def leftB (n : Nat) (left : Int) : Int := if left - n < 0 then -1 else left - n
theorem szFile_f (l : List Int) (a left : Int) (h0 : left ≤ 1048576) (h1 : -1048576 ≤ left) (hl : l.length ≤ 140737488351232) : laws_szFile.f l a left = some (leftB l.length left) := by
  unfold laws_szFile.f
  rw [szByteS_f l left h0 h1 hl]
  simp only [Option.bind_some]
  unfold leftB
  by_cases c : left - (l.length : Int) < 0
  · rw [if_pos c, if_pos (by decide)]
  · rw [if_neg c, if_neg c]
/-- whether a disk is small enough, and what is left -/
def leftD (n0 n2 n4 : Nat) (left : Int) : Int := if leftB n0 left < 0 then -1 else if leftB n2 (leftB n0 left) < 0 then -1 else if leftB n4 (leftB n2 (leftB n0 left)) < 0 then -1 else leftB n4 (leftB n2 (leftB n0 left))
theorem leftB_range (n : Nat) (left : Int) (h0 : left ≤ 1048576) (h1 : 0 ≤ left) : leftB n left ≤ 1048576 ∧ -1 ≤ leftB n left := by unfold leftB; split <;> omega
theorem szDisk_f (l0 l2 l4 : List Int) (a1 a3 a5 : Int) (left : Int) (h0 : left ≤ 1048576) (h1 : 0 ≤ left) (g0 : l0.length ≤ 140737488351232) (g2 : l2.length ≤ 140737488351232) (g4 : l4.length ≤ 140737488351232) : laws_szDisk.f l0 a1 l2 a3 l4 a5 left = some (leftD l0.length l2.length l4.length left) := by
  unfold laws_szDisk.f leftD
  have r0 := leftB_range l0.length left h0 h1
  rw [szFile_f l0 a1 left h0 (by omega) g0]
  simp only [Option.bind_some]
  by_cases c : leftB l0.length left < 0
  · rw [if_pos c, if_pos c]
  · rw [if_neg c, if_neg c, szFile_f l2 a3 _ (by omega) (by omega) g2]
    simp only [Option.bind_some]
    have r2 := leftB_range l2.length _ r0.1 (by omega)
    by_cases c2 : leftB l2.length (leftB l0.length left) < 0
    · rw [if_pos c2, if_pos c2]
    · rw [if_neg c2, if_neg c2, szFile_f l4 a5 _ (by omega) (by omega) g4]
      simp only [Option.bind_some]
      split <;> rfl
theorem leftD_ok {n0 n2 n4 : Nat} (h : ¬ leftD n0 n2 n4 1048576 < 0) : n0 + n2 + n4 ≤ 1048576 := by
  unfold leftD leftB at h
  repeat' split at h
  all_goals omega
theorem toDisk_f (l0 l2 l4 : List Int) (a1 a3 a5 : Int) (k : Nat) (h : l0.length + l2.length + l4.length ≤ 1048576) (hk : 1048576 < k) : laws_toDisk.f k l0 a1 l2 a3 l4 a5 = some (l0, a1, l2, a3, l4, a5) := by
  unfold laws_toDisk.f laws_toFile.f
  rw [toByteS_f l0 (by omega) k (by omega), toByteS_f l2 (by omega) k (by omega), toByteS_f l4 (by omega) k (by omega)]
  rfl
theorem eqDisk_self (l0 l2 l4 : List Int) (a1 a3 a5 : Int) (k : Nat) (h0 : l0.length ≤ 2097152) (h2 : l2.length ≤ 2097152) (h4 : l4.length ≤ 2097152) (hk : 2097152 < k) : laws_eqDisk.f k l0 a1 l2 a3 l4 a5 l0 a1 l2 a3 l4 a5 = some true := by
  unfold laws_eqDisk.f laws_eqFile.f
  rw [eqByteS_self l0 (by omega) k (by omega), eqByteS_self l2 (by omega) k (by omega), eqByteS_self l4 (by omega) k (by omega)]
  simp
theorem markDisk_f (l0 l2 l4 : List Int) (a1 a3 a5 : Int) (m k : Nat) (h0 : l0.length ≤ 2097152) (h2 : l2.length ≤ 2097152) (h4 : l4.length ≤ 2097152) (hm : m ≤ 100000000) (hk : 2097152 < k) :
    laws_markDisk.f k l0 a1 l2 a3 l4 a5 (m : Int) = some (((m + l0.length + l2.length + l4.length : Nat) : Int), marksB l0.length m, marksB l2.length (m + l0.length), marksB l4.length (m + l0.length + l2.length)) := by
  unfold laws_markDisk.f laws_markFile.f
  rw [markByteS_f l0 m (by omega) k (by omega)]
  simp only [Option.bind_some]
  rw [markByteS_f l2 (m + l0.length) (by omega) k (by omega)]
  simp only [Option.bind_some]
  rw [markByteS_f l4 (m + l0.length + l2.length) (by omega) k (by omega)]
  rfl
theorem heldDisk_f (n0 n2 n4 : Nat) (a1 a3 a5 : Int) (m k : Nat) (h0 : n0 ≤ 2097152) (h2 : n2 ≤ 2097152) (h4 : n4 ≤ 2097152) (hm : m ≤ 100000000) (hk : 2097152 < k) :
    laws_heldDisk.f k (marksB n0 m) a1 (marksB n2 (m + n0)) a3 (marksB n4 (m + n0 + n2)) a5 (m : Int) = some (((m + n0 + n2 + n4 : Nat) : Int)) := by
  unfold laws_heldDisk.f laws_heldFile.f
  rw [heldByteS_f n0 m (by omega) k (by omega)]
  simp only [Option.bind_some]
  rw [if_neg (by omega)]
  simp only [Option.bind_some]
  rw [if_neg (by omega), heldByteS_f n2 (m + n0) (by omega) k (by omega)]
  simp only [Option.bind_some]
  rw [if_neg (by omega)]
  simp only [Option.bind_some]
  rw [if_neg (by omega), heldByteS_f n4 (m + n0 + n2) (by omega) k (by omega)]
  simp only [Option.bind_some]
  rw [if_neg (by omega)]
  simp only [Option.bind_some]
  rw [if_neg (by omega)]

end Go.Proofs.Ytbapokpkgonjkaa.Print

/- A disk that a call owns, as one fact; the statements' helpers on disks, told by it. -/
namespace Go.Proofs.Ytbapokpkgonjkaa.Print
open Go.RowKit Go.Proofs.YtbapokpkgonjkaaW.PrintWords Go.Proofs.YtbapokpkgonjkaaW.PrintLast Go.Proofs.YtbapokpkgonjkaaW.PrintMore
set_option linter.unusedVariables false
set_option linter.unusedSimpArgs false

def OB (A : Option Addr) (n c : Nat) (k : Nat) : Prop := some k = (Value.slice A n c).ownBlock
/-- A row of bytes in a block from lo to hi. -/
structure BK (w0 W : World) (lo hi : Nat) (A : Option Addr) (c : Nat) (l : List Int) : Prop where
  r : Kd.R (Kd.int .u8) 5 W w0.heap.size (fun k => OB A l.length c k) (.slice A l.length c) l
  b : ∀ k, OB A l.length c k → lo ≤ k ∧ k < hi
theorem BK.reads {w0 W : World} {lo hi : Nat} {A : Option Addr} {c : Nat} {l : List Int} (h : BK w0 W lo hi A c l) : Kd.C (Kd.int .u8) W A l.length l ∧ l.length ≤ c := ⟨(Kd.R_reads' h.r).2.2, (Kd.R_reads' h.r).2.1⟩
theorem BK.of {w0 w W : World} {ok : Nat → Prop} {A : Option Addr} {c : Nat} {l : List Int} (h : Kd.R (Kd.int .u8) 5 W w.heap.size ok (.slice A l.length c) l) (hB : Below w0.heap.size w0 w) : BK w0 W w.heap.size W.heap.size A c l :=
  ⟨Kd.R_tight rfl (Kd.R_lower h hB.size), fun k hk => ⟨Kd.R_base h k hk.symm, Kd.R_lt h k hk.symm⟩⟩
theorem BK.kept {w0 W W' : World} {lo hi : Nat} {A : Option Addr} {c : Nat} {l : List Int} {S : Nat → Prop} (h : BK w0 W lo hi A c l) (hk : Kept W W' S) (hS : ∀ k, lo ≤ k → k < hi → ¬ S k) : BK w0 W' lo hi A c l :=
  ⟨Kd.R_kept h.r hk (fun k ho => hS k (h.b k ho).1 (h.b k ho).2), h.b⟩
theorem BK.below {w0 W W' : World} {lo hi : Nat} {A : Option Addr} {c : Nat} {l : List Int} (h : BK w0 W lo hi A c l) (hb : Below W.heap.size W W') : BK w0 W' lo hi A c l := ⟨Kd.R_below h.r hb, h.b⟩
theorem kept_below {w W : World} {S : Nat → Prop} (h : Below w.heap.size w W) : Kept w W S := ⟨h.size, fun i hi _ => h.block i hi⟩

structure DK (w0 W : World) (lo hi : Nat) (A0 : Option Addr) (c0 : Nat) (l0 : List Int) (A2 : Option Addr) (c2 : Nat) (l2 : List Int) (A4 : Option Addr) (c4 : Nat) (l4 : List Int) : Prop where
  k0 : BK w0 W lo hi A0 c0 l0
  k2 : BK w0 W lo hi A2 c2 l2
  k4 : BK w0 W lo hi A4 c4 l4
  n02 : ∀ k, OB A0 l0.length c0 k → ¬ OB A2 l2.length c2 k
  n04 : ∀ k, OB A0 l0.length c0 k → ¬ OB A4 l4.length c4 k
  n24 : ∀ k, OB A2 l2.length c2 k → ¬ OB A4 l4.length c4 k
section
variable {w0 w W W' : World} {lo hi : Nat} {A0 A2 A4 : Option Addr} {c0 c2 c4 : Nat} {l0 l2 l4 : List Int}
theorem DK.of {v0 v2 v4 : Value} (h0 : Kd.R (Kd.int .u8) 5 W w.heap.size (fun k_ => some k_ ≠ (v2 : Value).ownBlock ∧ some k_ ≠ (v4 : Value).ownBlock) v0 l0) (h2 : Kd.R (Kd.int .u8) 5 W w.heap.size (fun k_ => some k_ ≠ (v0 : Value).ownBlock ∧ some k_ ≠ (v4 : Value).ownBlock) v2 l2) (h4 : Kd.R (Kd.int .u8) 5 W w.heap.size (fun k_ => some k_ ≠ (v0 : Value).ownBlock ∧ some k_ ≠ (v2 : Value).ownBlock) v4 l4) (hB : Below w0.heap.size w0 w) :
    ∃ A0 c0 A2 c2 A4 c4, v0 = .slice A0 l0.length c0 ∧ v2 = .slice A2 l2.length c2 ∧ v4 = .slice A4 l4.length c4 ∧ DK w0 W w.heap.size W.heap.size A0 c0 l0 A2 c2 l2 A4 c4 l4 := by
  obtain ⟨A0, c0, rfl⟩ := Kd.R_slice h0
  obtain ⟨A2, c2, rfl⟩ := Kd.R_slice h2
  obtain ⟨A4, c4, rfl⟩ := Kd.R_slice h4
  exact ⟨A0, c0, A2, c2, A4, c4, rfl, rfl, rfl, BK.of h0 hB, BK.of h2 hB, BK.of h4 hB, fun k hk => (h0.1 k hk.symm).1, fun k hk => (h0.1 k hk.symm).2, fun k hk => (h2.1 k hk.symm).2⟩
theorem DK.kept {S : Nat → Prop} (h : DK w0 W lo hi A0 c0 l0 A2 c2 l2 A4 c4 l4) (hk : Kept W W' S) (hS : ∀ k, lo ≤ k → k < hi → ¬ S k) : DK w0 W' lo hi A0 c0 l0 A2 c2 l2 A4 c4 l4 :=
  ⟨h.k0.kept hk hS, h.k2.kept hk hS, h.k4.kept hk hS, h.n02, h.n04, h.n24⟩
theorem DK.below (h : DK w0 W lo hi A0 c0 l0 A2 c2 l2 A4 c4 l4) (hb : Below W.heap.size W W') : DK w0 W' lo hi A0 c0 l0 A2 c2 l2 A4 c4 l4 :=
  ⟨h.k0.below hb, h.k2.below hb, h.k4.below hb, h.n02, h.n04, h.n24⟩
end

/-- toDisk, its answer as one fact. -/
theorem toDisk_dk (k : Nat) (w0 : World) (A0 : Option Addr) (c0 : Nat) (l0 : List Int) (a1 : Int) (A2 : Option Addr) (c2 : Nat) (l2 : List Int) (a3 : Int) (A4 : Option Addr) (c4 : Nat) (l4 : List Int) (a5 : Int) (w : World) (hB : Below w0.heap.size w0 w)
    (h0 : Kd.C (Kd.int .u8) w A0 l0.length l0) (hc0 : l0.length ≤ c0) (h2 : Kd.C (Kd.int .u8) w A2 l2.length l2) (hc2 : l2.length ≤ c2) (h4 : Kd.C (Kd.int .u8) w A4 l4.length l4) (hc4 : l4.length ≤ c4) (hl : l0.length + l2.length + l4.length ≤ 1048576) (hk : 1048576 < k) :
    Calls Try.prog 17 #[.agg #[.slice A0 l0.length c0, .int .i64 a1, .slice A2 l2.length c2, .int .i64 a3, .slice A4 l4.length c4, .int .i64 a5]] w fun e w' => ∃ B0 d0 B2 d2 B4 d4, e = .returned (.agg #[.slice B0 l0.length d0, .int .i64 a1, .slice B2 l2.length d2, .int .i64 a3, .slice B4 l4.length d4, .int .i64 a5]) ∧ DK w0 w' w.heap.size w'.heap.size B0 d0 l0 B2 d2 l2 B4 d4 l4 ∧ Below w.heap.size w w' := by
  refine (laws_toDisk.calls k A0 c0 l0 a1 A2 c2 l2 a3 A4 c4 l4 a5 l0 a1 l2 a3 l4 a5 w h0 hc0 h2 hc2 h4 hc4 (toDisk_f l0 l2 l4 a1 a3 a5 k hl hk)).mono ?_
  rintro e w' ⟨v0, v2, v4, rfl, r0, r2, r4, hb⟩
  obtain ⟨B0, d0, B2, d2, B4, d4, rfl, rfl, rfl, hd⟩ := DK.of r0 r2 r4 hB
  exact ⟨B0, d0, B2, d2, B4, d4, rfl, hd, hb⟩
/-- markDisk on a disk that is owned: it is written, all else stays. -/
theorem markDisk_dk (k m : Nat) (w0 : World) (lo hi : Nat) (A0 : Option Addr) (c0 : Nat) (l0 : List Int) (a1 : Int) (A2 : Option Addr) (c2 : Nat) (l2 : List Int) (a3 : Int) (A4 : Option Addr) (c4 : Nat) (l4 : List Int) (a5 : Int) (w : World) (hB : Below w0.heap.size w0 w) (hd : DK w0 w lo hi A0 c0 l0 A2 c2 l2 A4 c4 l4)
    (g0 : l0.length ≤ 2097152) (g2 : l2.length ≤ 2097152) (g4 : l4.length ≤ 2097152) (hm : m ≤ 100000000) (hk : 2097152 < k) (hhi : hi ≤ w.heap.size) :
    Calls Try.prog 41 #[.agg #[.slice A0 l0.length c0, .int .i64 a1, .slice A2 l2.length c2, .int .i64 a3, .slice A4 l4.length c4, .int .i64 a5], .int .i64 m] w fun e w' => e = .returned (.int .i64 ((m + l0.length + l2.length + l4.length : Nat) : Int)) ∧ DK w0 w' lo hi A0 c0 (marksB l0.length m) A2 c2 (marksB l2.length (m + l0.length)) A4 c4 (marksB l4.length (m + l0.length + l2.length)) ∧ Below w0.heap.size w0 w' ∧ Kept w w' (fun k => lo ≤ k ∧ k < hi) := by
  refine (laws_markDisk.calls k (OB A0 l0.length c0) _ l0 a1 (OB A2 l2.length c2) _ l2 a3 (OB A4 l4.length c4) _ l4 a5 m _ _ _ _ w0 w hB hd.k0.r (fun k h h' => hd.n02 k h h') (fun k h h' => hd.n04 k h h') hd.k2.r (fun k h h' => hd.n02 k h' h) (fun k h h' => hd.n24 k h h') hd.k4.r (fun k h h' => hd.n04 k h' h) (fun k h h' => hd.n24 k h' h) (markDisk_f l0 l2 l4 a1 a3 a5 m k g0 g2 g4 hm hk)).mono ?_
  rintro e w' ⟨rfl, r0, r2, r4, hb, hkp⟩
  have hS : ∀ k, (OB A0 l0.length c0 k ∨ OB A2 l2.length c2 k ∨ OB A4 l4.length c4 k) → lo ≤ k ∧ k < hi := fun k h => by
    rcases h with h | h | h
    · exact hd.k0.b k h
    · exact hd.k2.b k h
    · exact hd.k4.b k h
  refine ⟨rfl, ⟨⟨?_, ?_⟩, ⟨?_, ?_⟩, ⟨?_, ?_⟩, ?_, ?_, ?_⟩, hb, hkp.1, fun i hi hn => hkp.2 i hi (fun h => hn (hS i h))⟩
  all_goals simp only [marksB_length]
  · exact Kd.R_tight rfl r0
  · exact hd.k0.b
  · exact Kd.R_tight rfl r2
  · exact hd.k2.b
  · exact Kd.R_tight rfl r4
  · exact hd.k4.b
  · exact hd.n02
  · exact hd.n04
  · exact hd.n24
/-- eqDisk of two that are owned and equal. -/
theorem eqDisk_dk (k : Nat) (w0 : World) (lo hi lo' hi' : Nat) (A0 : Option Addr) (c0 : Nat) (l0 : List Int) (a1 : Int) (A2 : Option Addr) (c2 : Nat) (l2 : List Int) (a3 : Int) (A4 : Option Addr) (c4 : Nat) (l4 : List Int) (a5 : Int) (B0 : Option Addr) (d0 : Nat) (B2 : Option Addr) (d2 : Nat) (B4 : Option Addr) (d4 : Nat) (w : World)
    (hd : DK w0 w lo hi A0 c0 l0 A2 c2 l2 A4 c4 l4) (hd' : DK w0 w lo' hi' B0 d0 l0 B2 d2 l2 B4 d4 l4) (g0 : l0.length ≤ 2097152) (g2 : l2.length ≤ 2097152) (g4 : l4.length ≤ 2097152) (hk : 2097152 < k) :
    Calls Try.prog 19 #[.agg #[.slice A0 l0.length c0, .int .i64 a1, .slice A2 l2.length c2, .int .i64 a3, .slice A4 l4.length c4, .int .i64 a5], .agg #[.slice B0 l0.length d0, .int .i64 a1, .slice B2 l2.length d2, .int .i64 a3, .slice B4 l4.length d4, .int .i64 a5]] w fun e w' => e = .returned (.bool true) ∧ Below w.heap.size w w' :=
  laws_eqDisk.calls k A0 c0 l0 a1 A2 c2 l2 a3 A4 c4 l4 a5 B0 d0 l0 a1 B2 d2 l2 a3 B4 d4 l4 a5 true w hd.k0.reads.1 hd.k0.reads.2 hd.k2.reads.1 hd.k2.reads.2 hd.k4.reads.1 hd.k4.reads.2 hd'.k0.reads.1 hd'.k0.reads.2 hd'.k2.reads.1 hd'.k2.reads.2 hd'.k4.reads.1 hd'.k4.reads.2 (eqDisk_self l0 l2 l4 a1 a3 a5 k g0 g2 g4 hk)
/-- heldDisk of one that is marked. -/
theorem heldDisk_dk (k m : Nat) (w0 : World) (lo hi n0 n2 n4 : Nat) (A0 : Option Addr) (c0 : Nat) (a1 : Int) (A2 : Option Addr) (c2 : Nat) (a3 : Int) (A4 : Option Addr) (c4 : Nat) (a5 : Int) (w : World)
    (hd : DK w0 w lo hi A0 c0 (marksB n0 m) A2 c2 (marksB n2 (m + n0)) A4 c4 (marksB n4 (m + n0 + n2))) (g0 : n0 ≤ 2097152) (g2 : n2 ≤ 2097152) (g4 : n4 ≤ 2097152) (hm : m ≤ 100000000) (hk : 2097152 < k) :
    Calls Try.prog 42 #[.agg #[.slice A0 n0 c0, .int .i64 a1, .slice A2 n2 c2, .int .i64 a3, .slice A4 n4 c4, .int .i64 a5], .int .i64 m] w fun e w' => e = .returned (.int .i64 ((m + n0 + n2 + n4 : Nat) : Int)) ∧ Below w.heap.size w w' := by
  have h := laws_heldDisk.calls k A0 c0 (marksB n0 m) a1 A2 c2 (marksB n2 (m + n0)) a3 A4 c4 (marksB n4 (m + n0 + n2)) a5 m _ w hd.k0.reads.1 hd.k0.reads.2 hd.k2.reads.1 hd.k2.reads.2 hd.k4.reads.1 hd.k4.reads.2 (heldDisk_f n0 n2 n4 a1 a3 a5 m k g0 g2 g4 hm hk)
  simp only [marksB_length] at h
  exact h

end Go.Proofs.Ytbapokpkgonjkaa.Print

/- The machine's side of the statements: what a Go function comes to, as a Lean function, and that it does so (written by this session's own program over the kit's printer; Lean checks it). -/
namespace Go.Proofs.Ytbapokpkgonjkaa.Print
open Go.RowKit Go.Proofs.YtbapokpkgonjkaaW.PrintWords Go.Proofs.YtbapokpkgonjkaaW.PrintLast Go.Proofs.YtbapokpkgonjkaaW.PrintMore
attribute [local go_sem] max2_int min2_int max_two min_two max_three min_three max_four min_four   -- for this text's walks alone
set_option linter.unusedVariables false
set_option linter.unusedSimpArgs false

/-! ### spec_l1copy: function 68 -/
def spec_l1copy.f (l0 : List Int) : Option (List Int) := if ([] : List Int).length + l0.length < 140737488355328 then (some (([] : List Int) ++ l0)) else (none)
set_option maxHeartbeats 8000000 in
set_option maxRecDepth 100000 in
theorem spec_l1copy.calls (A0 : Option Addr) (c0 : Nat) (l0 : List Int) (r : List Int) (w : World) (hr0 : Kd.C (Kd.int .u8) w A0 l0.length l0) (hc0 : l0.length ≤ c0) (h : spec_l1copy.f l0 = some r) :
    Calls Try.prog 68 #[.slice A0 l0.length c0] w fun e w' => ∃ v0_ : Value, e = .returned (v0_) ∧ Kd.R (Kd.int .u8) 5 w' w.heap.size (fun _ => True) v0_ r ∧ Below w.heap.size w w' := by
  have HR0 := Aside0.mk hr0
  have HC0 := Aside0.mk hc0
  clear hr0 hc0
  have HB := Aside0.mk (Below.refl w.heap.size w)
  have H : (if ([] : List Int).length + l0.length < 140737488355328 then (some (([] : List Int) ++ l0)) else (none)) = some r := h
  clear h
  by_cases c2 : ([] : List Int).length + l0.length < 140737488355328
  · rw [if_pos c2] at H
    have LMc2 := Aside0.mk c2
    clear c2
    obtain ⟨y199, hy199⟩ : ∃ y_ : List Int, y_ = (([] : List Int) ++ l0) := ⟨_, rfl⟩
    replace H : (some y199) = some r := by first | (rw [hy199]; with_reducible exact H) | (have H2_ := (Option.bind_some _ _).symm.trans H; rw [hy199]; with_reducible exact H2_) | (have H2_ := (Option.bind_some _ _).symm.trans H; with_reducible exact H2_) | with_reducible exact H | (rw [hy199]; exact H) | exact H
    have Ny199 := Aside0.mk hy199
    clear hy199
    obtain rfl := Option.some.inj H
    go_enter Try.func68, Try.ntmps68
    go_wp2_with (first | ((with_reducible refine gate_builtin (b := .append) (xs := #[.tmp 4, .tmp 5]) rfl ?_); at_builtin; refine Kd.R_append_rows (Kd.int .u8) (w0 := w) w.heap.size rfl (.tmp 4) (.tmp 5) 22 5 (.int .u8 0) 1 rfl Try.underlying22 info5 rfl (by decide) (by omega) (.slice none 0 0) ([] : List Int) l0 _ _ _ (fun _ => True) (fun _ => False) rfl rfl ?aO ?aR (fun _ _ h => h) (fun _ h => h.elim) ?aF ?aB ?aS ?aL ?_; (case aR => repeat (first | exact HR0.out | (with_reducible refine Kd.C_alloc ?_ _) | (with_reducible refine Kd.C_drewN ?_ _) | (with_reducible refine Kd.C_drew ?_))); (case aB => exact (by repeat (first | (with_reducible first | exact HB.out | apply below_alloc | apply pw_below_drewN | apply below_drew1) | exact HB.out))); (case aF => exact (fun _ _ => trivial)); (case aO => exact ((Kd.R_nil _ _ _ _ (fun _ => True)))); (case aS => exact (below_size (by repeat (first | (with_reducible first | exact HB.out | apply below_alloc | apply pw_below_drewN | apply below_drew1) | exact HB.out)))); (case aL => have := LMc2.out; omega); intro v200 w3 ho hb hg hat; rw [← Ny199.out] at ho; have n0_ := Aside0.mk (hb); have n1_ := Aside0.mk (ho); clear HB; have HB := n0_; have HO201 := n1_; clear n0_ n1_; clear ho hb hg hat))
    go_ret
    exact ⟨_, by first | rfl | (simp [errW_none, errW_some] <;> rfl) | (simp [*, errW_none, errW_some] <;> rfl), by (with_reducible repeat (first | apply Kd.R_alloc | apply Kd.R_drewN | apply Kd.R_drew)); exact HO201.out, by repeat (first | (with_reducible first | exact HB.out | apply below_alloc | apply pw_below_drewN | apply below_drew1) | exact HB.out)⟩
  · rw [if_neg c2] at H
    exact absurd H (by simp)

end Go.Proofs.Ytbapokpkgonjkaa.Print

/- The machine's side of the statements: what a Go function comes to, as a Lean function, and that it does so (written by this session's own program over the kit's printer; Lean checks it). -/
namespace Go.Proofs.Ytbapokpkgonjkaa.Print
open Go.RowKit Go.Proofs.YtbapokpkgonjkaaW.PrintWords Go.Proofs.YtbapokpkgonjkaaW.PrintLast Go.Proofs.YtbapokpkgonjkaaW.PrintMore
attribute [local go_sem] max2_int min2_int max_two min_two max_three min_three max_four min_four   -- for this text's walks alone
set_option linter.unusedVariables false
set_option linter.unusedSimpArgs false

/-! ### spec_l1file: function 80 -/
def spec_l1file.f (l0_0 : List Int) (a0_1 : Int) : Option (List Int × Int) := (spec_l1copy.f l0_0).bind fun t623 => (some (t623, a0_1))
set_option maxHeartbeats 8000000 in
set_option maxRecDepth 100000 in
theorem spec_l1file.calls (A0_0 : Option Addr) (c0_0 : Nat) (l0_0 : List Int) (a0_1 : Int) (r1 : List Int) (r2 : Int) (w : World) (hr0_0 : Kd.C (Kd.int .u8) w A0_0 l0_0.length l0_0) (hc0_0 : l0_0.length ≤ c0_0) (h : spec_l1file.f l0_0 a0_1 = some (r1, r2)) :
    Calls Try.prog 80 #[.agg #[.slice A0_0 l0_0.length c0_0, .int .i64 a0_1]] w fun e w' => ∃ v0_ : Value, e = .returned (.agg #[v0_, .int .i64 r2]) ∧ Kd.R (Kd.int .u8) 5 w' w.heap.size (fun _ => True) v0_ r1 ∧ Below w.heap.size w w' := by
  have hu29 := Try.underlying29
  have HR0_0 := Aside0.mk hr0_0
  have HC0_0 := Aside0.mk hc0_0
  clear hr0_0 hc0_0
  have HB := Aside0.mk (Below.refl w.heap.size w)
  have H : ((spec_l1copy.f l0_0).bind fun t623 => (some (t623, a0_1))) = some (r1, r2) := h
  clear h
  replace H := Option.bind_eq_some_iff.mp H
  obtain ⟨t623, A20, H⟩ := H
  replace H : (some (t623, a0_1)) = some (r1, r2) := H
  have A2 := Aside0.mk A20
  clear A20
  simp only [Option.some.injEq, Prod.mk.injEq] at H
  obtain ⟨rfl, rfl⟩ := H
  go_enter Try.func80, Try.ntmps80
  try go_wp2_with (first | ((with_reducible refine gate_dst (N := 1) rfl ?_); refine box_event ?hg (N := 1) ?hd (cs := #[.slice A0_0 l0_0.length c0_0, .int .i64 a0_1]) (t := 29) ?hr ?_; (case hd => rfl); (case hg => rfl); (case hr => first | (go_simp; done) | (go_simp; rfl)); intro gb621 hg w3 hbox hb; have n0_ := Aside0.mk (below_step (by repeat (first | (with_reducible first | exact HB.out | apply below_alloc | apply pw_below_drewN | apply below_drew1) | exact HB.out)) hb); have n1_ := Aside0.mk (hbox); have n2_ := Aside0.mk ((by rw [hg]; exact (below_size (by repeat (first | (with_reducible first | exact HB.out | apply below_alloc | apply pw_below_drewN | apply below_drew1) | exact HB.out))) : w.heap.size ≤ gb621)); have n3_ := Aside0.mk ((by rw [hg]; exact (below_size (by repeat (first | (with_reducible first | exact HB.out | apply below_alloc | apply pw_below_drewN | apply below_drew1) | exact HB.out))) : w.heap.size ≤ gb621)); clear HB; have HB := n0_; have BK621 := n1_; have GW621 := n2_; have GE621 := n3_; clear n0_ n1_ n2_ n3_; clear hb hbox hg) | ((with_reducible refine gate_dst (N := 2) rfl ?_); refine box_event ?hg (N := 2) ?hd (cs := #[.slice none 0 0, .int .i64 0]) (t := 29) ?hr ?_; (case hd => rfl); (case hg => rfl); (case hr => first | (go_simp; done) | (go_simp; rfl)); intro gb622 hg w4 hbox hb; have n0_ := Aside0.mk (blk_below (g := gb621) (o := .cells #[.slice A0_0 l0_0.length c0_0, .int .i64 a0_1] 29 (0, 0)) (by (with_reducible repeat (first | refine blk_drewN ?_ _ | refine blk_drew ?_ | refine blk_alloc ?_ _)); exact BK621.out) hb); have n1_ := Aside0.mk (below_step (by repeat (first | (with_reducible first | exact HB.out | apply below_alloc | apply pw_below_drewN | apply below_drew1 | refine below_set ?_ GE621.out) | exact HB.out)) hb); have n2_ := Aside0.mk (hbox); have n3_ := Aside0.mk ((by rw [hg]; exact (below_size (by repeat (first | (with_reducible first | exact HB.out | apply below_alloc | apply pw_below_drewN | apply below_drew1 | refine below_set ?_ GE621.out) | exact HB.out))) : w.heap.size ≤ gb622)); have n4_ := Aside0.mk ((by rw [hg]; exact (below_size (by repeat (first | (with_reducible first | exact HB.out | apply below_alloc | apply pw_below_drewN | apply below_drew1 | refine below_set ?_ GE621.out) | exact HB.out))) : w.heap.size ≤ gb622)); have n5_ := Aside0.mk ((by rw [hg]; exact Nat.ne_of_lt (blk_lt (g := gb621) (o := .cells #[.slice A0_0 l0_0.length c0_0, .int .i64 a0_1] 29 (0, 0)) (by (with_reducible repeat (first | refine blk_drewN ?_ _ | refine blk_drew ?_ | refine blk_alloc ?_ _)); exact BK621.out)) : gb621 ≠ gb622)); have n6_ := Aside0.mk ((by rw [hg]; exact Nat.ne_of_gt (blk_lt (g := gb621) (o := .cells #[.slice A0_0 l0_0.length c0_0, .int .i64 a0_1] 29 (0, 0)) (by (with_reducible repeat (first | refine blk_drewN ?_ _ | refine blk_drew ?_ | refine blk_alloc ?_ _)); exact BK621.out)) : gb622 ≠ gb621)); clear BK621; clear HB; have BK621 := n0_; have HB := n1_; have BK622 := n2_; have GW622 := n3_; have GE622 := n4_; have NB621_622 := n5_; have NB622_621 := n6_; clear n0_ n1_ n2_ n3_ n4_ n5_ n6_; clear hb hbox hg))
  have n0_ := Aside0.mk (blk_drew BK621.out)
  have n1_ := Aside0.mk (blk_drew BK622.out)
  have n2_ := Aside0.mk (below_drew1 HB.out)
  clear BK621
  clear BK622
  clear HB
  have BK621 := n0_
  have BK622 := n1_
  have HB := n2_
  clear n0_ n1_ n2_
  refine start_ (n := 7) (S := fun w' => w'.cell? ⟨gb621, 0, none⟩ = some (.slice A0_0 l0_0.length c0_0) ∧ w'.cell? ⟨gb621, 1, none⟩ = some (.int .i64 a0_1)) (ds := []) #[false, false, false, false, false, false, false] (by kernel_rfl) rfl rfl ⟨(blk_cell BK621.out 0).trans rfl, (blk_cell BK621.out 1).trans rfl⟩ (fun hHeld => ?_)
  generalize w4.drew = w5 at BK621 BK622 HB hHeld ⊢
  refine pure_ (i := 0) (N := some 3) (v := ?_) (a' := ?_) #[true, false, false, false, false, false, false] rfl rfl (by kernel_rfl) (fun _ _ _ h => h) (Or.inl ⟨by rfl, ?_⟩) ?_ ?_
  rotate_left
  · intro w'
    go_simp
    with_reducible rfl
  rotate_left
  · simp only [Act.put, List.setIfInBounds_toArray, List.set_cons_zero, List.set_cons_succ, i64_w, i32_w]
    rfl
  refine pure_ (i := 3) (N := some 6) (v := ?_) (a' := ?_) #[true, false, false, true, false, false, false] rfl rfl (by kernel_rfl) (fun _ _ _ h => h) (Or.inl ⟨by rfl, ?_⟩) ?_ ?_
  rotate_left
  · intro w'
    go_simp
    with_reducible rfl
  rotate_left
  · simp only [Act.put, List.setIfInBounds_toArray, List.set_cons_zero, List.set_cons_succ, i64_w, i32_w]
    rfl
  refine take_ (i := 1) (N := some 4) (v := ?_) (a' := ?_) #[true, true, false, true, false, false, false] rfl rfl (by kernel_rfl) (fun _ _ _ h => h) (Or.inl ⟨by rfl, ?_⟩) hHeld ?_ ?_
  rotate_left
  · rintro w' ⟨s0, s1⟩
    go_simp
    with_reducible rfl
  rotate_left
  · simp only [Act.put, List.setIfInBounds_toArray, List.set_cons_zero, List.set_cons_succ, i64_w, i32_w]
    rfl
  refine take_ (i := 4) (N := some 7) (v := ?_) (a' := ?_) #[true, true, false, true, true, false, false] rfl rfl (by kernel_rfl) (fun _ _ _ h => h) (Or.inl ⟨by rfl, ?_⟩) hHeld ?_ ?_
  rotate_left
  · rintro w' ⟨s0, s1⟩
    go_simp
    with_reducible rfl
  rotate_left
  · simp only [Act.put, List.setIfInBounds_toArray, List.set_cons_zero, List.set_cons_succ, i64_w, i32_w]
    rfl
  refine one_ (i := 2) (N := some 5) #[true, true, true, true, true, false, false] rfl rfl (by kernel_rfl) (by decide) (fun K hK => ?_)
  refine goes_ Try.func68 (by kernel_rfl) rfl #[.slice A0_0 l0_0.length c0_0] (by rfl) rfl rfl (by (try simp only [List.map_toArray, List.map_cons, List.map_nil]); first | done | rfl | (simp only [List.length_drop, List.length_take]; rfl)) ?_
  with_reducible refine (spec_l1copy.calls _ _ l0_0 t623 _ ?side1 ?side2 A2.out).mono ?_
  (case side1 => repeat (first | exact (Kd.C_below HR0_0.out HB.out) | (with_reducible refine Kd.C_alloc ?_ _) | (with_reducible refine Kd.C_drewN ?_ _) | (with_reducible refine Kd.C_drew ?_)))
  (case side2 => exact HC0_0.out)
  rintro e w6 ⟨v624, rfl, ho0, hb⟩
  refine ⟨_, rfl, ?_⟩
  have n0_ := Aside0.mk (Kd.R_lower ho0 (below_size (by repeat (first | (with_reducible first | exact HB.out | apply below_alloc | apply pw_below_drewN | apply below_drew1 | refine below_set ?_ GE621.out | refine below_set ?_ GE622.out) | exact HB.out))))
  have n1_ := Aside0.mk (blk_below (g := gb621) (o := .cells #[.slice A0_0 l0_0.length c0_0, .int .i64 a0_1] 29 (0, 0)) (by (with_reducible repeat (first | refine blk_drewN ?_ _ | refine blk_drew ?_ | refine blk_alloc ?_ _)); exact BK621.out) hb)
  have n2_ := Aside0.mk (blk_below (g := gb622) (o := .cells #[.slice none 0 0, .int .i64 0] 29 (0, 0)) (by (with_reducible repeat (first | refine blk_drewN ?_ _ | refine blk_drew ?_ | refine blk_alloc ?_ _)); exact BK622.out) hb)
  have n3_ := Aside0.mk (below_step (by repeat (first | (with_reducible first | exact HB.out | apply below_alloc | apply pw_below_drewN | apply below_drew1 | refine below_set ?_ GE621.out | refine below_set ?_ GE622.out) | exact HB.out)) hb)
  clear BK621
  clear BK622
  clear HB
  have HO625 := n0_
  have BK621 := n1_
  have BK622 := n2_
  have HB := n3_
  clear n0_ n1_ n2_ n3_
  (try clear hb)
  (try clear hb2)
  (try clear hk)
  (try clear hi)
  (try clear ho0)
  obtain ⟨Ao7, co7, eo7⟩ := Kd.R_slice HO625.out
  (first | subst eo7 | (injection eo7 with f1_ f2_ f3_; have f4_ := f1_.symm; have f5_ := f3_.symm; clear f1_ f2_ f3_; subst f4_; subst f5_))
  refine hK.out _ _ ⟨(blk_cell BK621.out 0).trans rfl, (blk_cell BK621.out 1).trans rfl⟩ (fun hHeld => ?_)
  clear hK K
  refine norm_ (a' := ?_) ?_ ?_
  rotate_left
  · show Act.put _ (some 5) _ = _
    simp only [Act.put, List.setIfInBounds_toArray, List.set_cons_zero, List.set_cons_succ, i64_w, i32_w]
    rfl
  refine pure_ (i := 5) (N := some 8) (v := ?_) (a' := ?_) #[true, true, true, true, true, true, false] rfl rfl (by kernel_rfl) (fun _ _ _ h => h) (Or.inl ⟨by rfl, ?_⟩) ?_ ?_
  rotate_left
  · intro w'
    go_simp
    with_reducible rfl
  rotate_left
  · simp only [Act.put, List.setIfInBounds_toArray, List.set_cons_zero, List.set_cons_succ, i64_w, i32_w]
    rfl
  refine one_ (i := 6) (N := none) #[true, true, true, true, true, true, true] rfl rfl (by kernel_rfl) (by decide) (fun K hK => ?_)
  have hs8 : w6.cell? ⟨gb622, 0, none⟩ = some (.slice none 0 0) := (blk_cell BK622.out 0).trans rfl
  have hfs8 := blk_frozen BK622.out 0
  have hns8_0 := NB621_622.out
  have hms8_0 := NB622_621.out
  have hs9 : w6.cell? ⟨gb622, 1, none⟩ = some (.int .i64 0) := (blk_cell BK622.out 1).trans rfl
  have hfs9 := blk_frozen BK622.out 1
  have hns9_0 := NB621_622.out
  have hms9_0 := NB622_621.out
  refine skip_ (w1 := ?_) (by rfl) rfl ?_ ?_
  rotate_left
  · go_simp
    rfl
  refine hK.out _ _ ⟨((cell_far (p := ⟨gb622, _, none⟩) NB621_622.out _).trans (((cell_far (p := ⟨gb622, _, none⟩) NB621_622.out _).trans (hHeld.1)))), ((cell_far (p := ⟨gb622, _, none⟩) NB621_622.out _).trans (((cell_far (p := ⟨gb622, _, none⟩) NB621_622.out _).trans (hHeld.2))))⟩ (fun hHeld => ?_)
  clear hK K
  refine done_ (by kernel_rfl) ?_
  try go_wp2
  refine bodyPost_ret (results_cell_row rfl _ _ gb622 29 #[.slice Ao7 t623.length co7, .int .i64 a0_1] (0, 0) _ rfl (by (with_reducible repeat (first | refine blk_drewN ?_ _ | refine blk_drew ?_ | refine blk_alloc ?_ _)); refine blk_put (cs := #[.slice Ao7 t623.length co7, .int .i64 0]) ?_ 1 _ rfl; (with_reducible repeat (first | refine blk_drewN ?_ _ | refine blk_drew ?_ | refine blk_alloc ?_ _)); refine blk_put (cs := #[.slice none 0 0, .int .i64 0]) ?_ 0 _ rfl; (with_reducible repeat (first | refine blk_drewN ?_ _ | refine blk_drew ?_ | refine blk_alloc ?_ _)); exact BK622.out) Try.underlying29 rfl (by kernel_rfl)) rfl ?_
  exact ⟨_, by first | rfl | (simp [errW_none, errW_some] <;> rfl) | (simp [*, errW_none, errW_some] <;> rfl), by (with_reducible repeat (first | apply Kd.R_alloc | apply Kd.R_drewN | apply Kd.R_drew)); exact Kd.R_mono (Kd.R_far (p := ⟨gb622, 1, none⟩) (Kd.R_far (p := ⟨gb622, 0, none⟩) (Kd.R_types HO625.out BK622.out (by decide)) (fun _ hk => hk.2) (.slice Ao7 t623.length co7)) (fun _ hk => hk.2) (.int .i64 a0_1)) (fun _ hk => trivial), by repeat (first | (with_reducible first | exact HB.out | apply below_alloc | apply pw_below_drewN | apply below_drew1 | refine below_set ?_ GE621.out | refine below_set ?_ GE622.out) | exact HB.out)⟩

end Go.Proofs.Ytbapokpkgonjkaa.Print

/- The machine's side of the statements: what a Go function comes to, as a Lean function, and that it does so (written by this session's own program over the kit's printer; Lean checks it). -/
namespace Go.Proofs.Ytbapokpkgonjkaa.Print
open Go.RowKit Go.Proofs.YtbapokpkgonjkaaW.PrintWords Go.Proofs.YtbapokpkgonjkaaW.PrintLast Go.Proofs.YtbapokpkgonjkaaW.PrintMore
attribute [local go_sem] max2_int min2_int max_two min_two max_three min_three max_four min_four   -- for this text's walks alone
set_option linter.unusedVariables false
set_option linter.unusedSimpArgs false

/-! ### spec_l1disk: function 89 -/
def spec_l1disk.f (l0_0 : List Int) (a0_1 : Int) (l0_2 : List Int) (a0_3 : Int) (l0_4 : List Int) (a0_5 : Int) : Option (List Int × Int × List Int × Int × List Int × Int) := (spec_l1file.f l0_0 a0_1).bind fun bt628 => ((spec_l1file.f l0_2 a0_3).bind fun bt632 => ((spec_l1file.f l0_4 a0_5).bind fun bt636 => (some (bt628.1, bt628.2, bt632.1, bt632.2, bt636.1, bt636.2))))
def spec_l1disk.T1 : Bool × List (List Nat × List Nat) := (true, [([], []), ([0], [0]), ([1], [1]), ([], []), ([3], [3]), ([4, 2], [4]), ([], []), ([6], [6]), ([7, 5], [7]), ([2, 5, 8], [2, 5, 8]), ([9, 8, 0, 1, 2, 3, 4, 5, 6, 7, 8, 9], [9])])
def spec_l1disk.B1 : List Nat := [0, 1, 3, 0, 8, 31, 0, 64, 255, 511, 1023]
theorem spec_l1disk.tab1 : rtab .any (opsOf Try.f89 1) = spec_l1disk.T1 := by kernel_rfl
theorem spec_l1disk.bits1 : waitsOk spec_l1disk.T1.2 spec_l1disk.B1 = true := by kernel_rfl
set_option maxHeartbeats 8000000 in
set_option maxRecDepth 100000 in
theorem spec_l1disk.calls (A0_0 : Option Addr) (c0_0 : Nat) (l0_0 : List Int) (a0_1 : Int) (A0_2 : Option Addr) (c0_2 : Nat) (l0_2 : List Int) (a0_3 : Int) (A0_4 : Option Addr) (c0_4 : Nat) (l0_4 : List Int) (a0_5 : Int) (r1 : List Int) (r2 : Int) (r3 : List Int) (r4 : Int) (r5 : List Int) (r6 : Int) (w : World) (hr0_0 : Kd.C (Kd.int .u8) w A0_0 l0_0.length l0_0) (hc0_0 : l0_0.length ≤ c0_0) (hr0_2 : Kd.C (Kd.int .u8) w A0_2 l0_2.length l0_2) (hc0_2 : l0_2.length ≤ c0_2) (hr0_4 : Kd.C (Kd.int .u8) w A0_4 l0_4.length l0_4) (hc0_4 : l0_4.length ≤ c0_4) (h : spec_l1disk.f l0_0 a0_1 l0_2 a0_3 l0_4 a0_5 = some (r1, r2, r3, r4, r5, r6)) :
    Calls Try.prog 89 #[.agg #[.slice A0_0 l0_0.length c0_0, .int .i64 a0_1, .slice A0_2 l0_2.length c0_2, .int .i64 a0_3, .slice A0_4 l0_4.length c0_4, .int .i64 a0_5]] w fun e w' => ∃ v0_ v2_ v4_ : Value, e = .returned (.agg #[v0_, .int .i64 r2, v2_, .int .i64 r4, v4_, .int .i64 r6]) ∧ Kd.R (Kd.int .u8) 5 w' w.heap.size (fun k_ => some k_ ≠ (v2_ : Value).ownBlock ∧ some k_ ≠ (v4_ : Value).ownBlock) v0_ r1 ∧ Kd.R (Kd.int .u8) 5 w' w.heap.size (fun k_ => some k_ ≠ (v0_ : Value).ownBlock ∧ some k_ ≠ (v4_ : Value).ownBlock) v2_ r3 ∧ Kd.R (Kd.int .u8) 5 w' w.heap.size (fun k_ => some k_ ≠ (v0_ : Value).ownBlock ∧ some k_ ≠ (v2_ : Value).ownBlock) v4_ r5 ∧ Below w.heap.size w w' := by
  have hu31 := Try.underlying31
  have hu29 := Try.underlying29
  have HR0_0 := Aside0.mk hr0_0
  have HC0_0 := Aside0.mk hc0_0
  clear hr0_0 hc0_0
  have HR0_2 := Aside0.mk hr0_2
  have HC0_2 := Aside0.mk hc0_2
  clear hr0_2 hc0_2
  have HR0_4 := Aside0.mk hr0_4
  have HC0_4 := Aside0.mk hc0_4
  clear hr0_4 hc0_4
  have HB := Aside0.mk (Below.refl w.heap.size w)
  have H : ((spec_l1file.f l0_0 a0_1).bind fun bt628 => ((spec_l1file.f l0_2 a0_3).bind fun bt632 => ((spec_l1file.f l0_4 a0_5).bind fun bt636 => (some (bt628.1, bt628.2, bt632.1, bt632.2, bt636.1, bt636.2))))) = some (r1, r2, r3, r4, r5, r6) := h
  clear h
  replace H := Option.bind_eq_some_iff.mp H
  obtain ⟨⟨t628, t631⟩, A20, H⟩ := H
  replace H : ((spec_l1file.f l0_2 a0_3).bind fun bt632 => ((spec_l1file.f l0_4 a0_5).bind fun bt636 => (some (t628, t631, bt632.1, bt632.2, bt636.1, bt636.2)))) = some (r1, r2, r3, r4, r5, r6) := H
  have A2 := Aside0.mk A20
  clear A20
  replace H := Option.bind_eq_some_iff.mp H
  obtain ⟨⟨t632, t635⟩, A30, H⟩ := H
  replace H : ((spec_l1file.f l0_4 a0_5).bind fun bt636 => (some (t628, t631, t632, t635, bt636.1, bt636.2))) = some (r1, r2, r3, r4, r5, r6) := H
  have A3 := Aside0.mk A30
  clear A30
  replace H := Option.bind_eq_some_iff.mp H
  obtain ⟨⟨t636, t639⟩, A40, H⟩ := H
  replace H : (some (t628, t631, t632, t635, t636, t639)) = some (r1, r2, r3, r4, r5, r6) := H
  have A4 := Aside0.mk A40
  clear A40
  simp only [Option.some.injEq, Prod.mk.injEq] at H
  obtain ⟨rfl, rfl, rfl, rfl, rfl, rfl⟩ := H
  go_enter Try.func89, Try.ntmps89
  try go_wp2_with (first | ((with_reducible refine gate_dst (N := 1) rfl ?_); refine box_event ?hg (N := 1) ?hd (cs := #[.slice A0_0 l0_0.length c0_0, .int .i64 a0_1, .slice A0_2 l0_2.length c0_2, .int .i64 a0_3, .slice A0_4 l0_4.length c0_4, .int .i64 a0_5]) (t := 31) ?hr ?_; (case hd => rfl); (case hg => rfl); (case hr => first | (go_simp; done) | (go_simp; rfl)); intro gb626 hg w5 hbox hb; have n0_ := Aside0.mk (below_step (by repeat (first | (with_reducible first | exact HB.out | apply below_alloc | apply pw_below_drewN | apply below_drew1) | exact HB.out)) hb); have n1_ := Aside0.mk (hbox); have n2_ := Aside0.mk ((by rw [hg]; exact (below_size (by repeat (first | (with_reducible first | exact HB.out | apply below_alloc | apply pw_below_drewN | apply below_drew1) | exact HB.out))) : w.heap.size ≤ gb626)); have n3_ := Aside0.mk ((by rw [hg]; exact (below_size (by repeat (first | (with_reducible first | exact HB.out | apply below_alloc | apply pw_below_drewN | apply below_drew1) | exact HB.out))) : w.heap.size ≤ gb626)); clear HB; have HB := n0_; have BK626 := n1_; have GW626 := n2_; have GE626 := n3_; clear n0_ n1_ n2_ n3_; clear hb hbox hg) | ((with_reducible refine gate_dst (N := 2) rfl ?_); refine box_event ?hg (N := 2) ?hd (cs := #[.slice none 0 0, .int .i64 0, .slice none 0 0, .int .i64 0, .slice none 0 0, .int .i64 0]) (t := 31) ?hr ?_; (case hd => rfl); (case hg => rfl); (case hr => first | (go_simp; done) | (go_simp; rfl)); intro gb627 hg w6 hbox hb; have n0_ := Aside0.mk (blk_below (g := gb626) (o := .cells #[.slice A0_0 l0_0.length c0_0, .int .i64 a0_1, .slice A0_2 l0_2.length c0_2, .int .i64 a0_3, .slice A0_4 l0_4.length c0_4, .int .i64 a0_5] 31 (0, 0)) (by (with_reducible repeat (first | refine blk_drewN ?_ _ | refine blk_drew ?_ | refine blk_alloc ?_ _)); exact BK626.out) hb); have n1_ := Aside0.mk (below_step (by repeat (first | (with_reducible first | exact HB.out | apply below_alloc | apply pw_below_drewN | apply below_drew1 | refine below_set ?_ GE626.out) | exact HB.out)) hb); have n2_ := Aside0.mk (hbox); have n3_ := Aside0.mk ((by rw [hg]; exact (below_size (by repeat (first | (with_reducible first | exact HB.out | apply below_alloc | apply pw_below_drewN | apply below_drew1 | refine below_set ?_ GE626.out) | exact HB.out))) : w.heap.size ≤ gb627)); have n4_ := Aside0.mk ((by rw [hg]; exact (below_size (by repeat (first | (with_reducible first | exact HB.out | apply below_alloc | apply pw_below_drewN | apply below_drew1 | refine below_set ?_ GE626.out) | exact HB.out))) : w.heap.size ≤ gb627)); have n5_ := Aside0.mk ((by rw [hg]; exact Nat.ne_of_lt (blk_lt (g := gb626) (o := .cells #[.slice A0_0 l0_0.length c0_0, .int .i64 a0_1, .slice A0_2 l0_2.length c0_2, .int .i64 a0_3, .slice A0_4 l0_4.length c0_4, .int .i64 a0_5] 31 (0, 0)) (by (with_reducible repeat (first | refine blk_drewN ?_ _ | refine blk_drew ?_ | refine blk_alloc ?_ _)); exact BK626.out)) : gb626 ≠ gb627)); have n6_ := Aside0.mk ((by rw [hg]; exact Nat.ne_of_gt (blk_lt (g := gb626) (o := .cells #[.slice A0_0 l0_0.length c0_0, .int .i64 a0_1, .slice A0_2 l0_2.length c0_2, .int .i64 a0_3, .slice A0_4 l0_4.length c0_4, .int .i64 a0_5] 31 (0, 0)) (by (with_reducible repeat (first | refine blk_drewN ?_ _ | refine blk_drew ?_ | refine blk_alloc ?_ _)); exact BK626.out)) : gb627 ≠ gb626)); clear BK626; clear HB; have BK626 := n0_; have HB := n1_; have BK627 := n2_; have GW627 := n3_; have GE627 := n4_; have NB626_627 := n5_; have NB627_626 := n6_; clear n0_ n1_ n2_ n3_ n4_ n5_ n6_; clear hb hbox hg))
  have n0_ := Aside0.mk (blk_drew BK626.out)
  have n1_ := Aside0.mk (blk_drew BK627.out)
  have n2_ := Aside0.mk (below_drew1 HB.out)
  clear BK626
  clear BK627
  clear HB
  have BK626 := n0_
  have BK627 := n1_
  have HB := n2_
  clear n0_ n1_ n2_
  refine start_ (n := 11) (S := fun w' => w'.cell? ⟨gb626, 0, none⟩ = some (.slice A0_0 l0_0.length c0_0) ∧ w'.cell? ⟨gb626, 1, none⟩ = some (.int .i64 a0_1) ∧ w'.cell? ⟨gb626, 2, none⟩ = some (.slice A0_2 l0_2.length c0_2) ∧ w'.cell? ⟨gb626, 3, none⟩ = some (.int .i64 a0_3) ∧ w'.cell? ⟨gb626, 4, none⟩ = some (.slice A0_4 l0_4.length c0_4) ∧ w'.cell? ⟨gb626, 5, none⟩ = some (.int .i64 a0_5)) (ds := []) #[false, false, false, false, false, false, false, false, false, false, false] (by kernel_rfl) rfl rfl ⟨(blk_cell BK626.out 0).trans rfl, (blk_cell BK626.out 1).trans rfl, (blk_cell BK626.out 2).trans rfl, (blk_cell BK626.out 3).trans rfl, (blk_cell BK626.out 4).trans rfl, (blk_cell BK626.out 5).trans rfl⟩ (fun hHeld => ?_); refine with_tabW spec_l1disk.tab1 spec_l1disk.bits1 (fun HT_ HW_ => ?_)
  generalize w6.drew = w7 at BK626 BK627 HB hHeld ⊢
  refine pure_ (i := 0) (N := some 3) (v := ?_) (a' := ?_) #[true, false, false, false, false, false, false, false, false, false, false] rfl rfl (any_of HT_.out (by kernel_rfl)) (fun _ _ _ h => h) (Or.inl ⟨by rfl, ?_⟩) ?_ ?_
  rotate_left
  · intro w'
    go_simp
    with_reducible rfl
  rotate_left
  · simp only [Act.put, List.setIfInBounds_toArray, List.set_cons_zero, List.set_cons_succ, i64_w, i32_w]
    rfl
  refine pure_ (i := 3) (N := some 6) (v := ?_) (a' := ?_) #[true, false, false, true, false, false, false, false, false, false, false] rfl rfl (any_of HT_.out (by kernel_rfl)) (fun _ _ _ h => h) (Or.inl ⟨by rfl, ?_⟩) ?_ ?_
  rotate_left
  · intro w'
    go_simp
    with_reducible rfl
  rotate_left
  · simp only [Act.put, List.setIfInBounds_toArray, List.set_cons_zero, List.set_cons_succ, i64_w, i32_w]
    rfl
  refine pure_ (i := 6) (N := some 9) (v := ?_) (a' := ?_) #[true, false, false, true, false, false, true, false, false, false, false] rfl rfl (any_of HT_.out (by kernel_rfl)) (fun _ _ _ h => h) (Or.inl ⟨by rfl, ?_⟩) ?_ ?_
  rotate_left
  · intro w'
    go_simp
    with_reducible rfl
  rotate_left
  · simp only [Act.put, List.setIfInBounds_toArray, List.set_cons_zero, List.set_cons_succ, i64_w, i32_w]
    rfl
  refine take_ (i := 1) (N := some 4) (v := ?_) (a' := ?_) #[true, true, false, true, false, false, true, false, false, false, false] rfl rfl (take_ofW HT_.out HW_.out (by kernel_rfl)) (fun _ _ _ h => h) (Or.inl ⟨by rfl, ?_⟩) hHeld ?_ ?_
  rotate_left
  · rintro w' ⟨s0, s1, s2, s3, s4, s5⟩
    go_simp
    with_reducible rfl
  rotate_left
  · simp only [Act.put, List.setIfInBounds_toArray, List.set_cons_zero, List.set_cons_succ, i64_w, i32_w]
    rfl
  refine take_ (i := 4) (N := some 7) (v := ?_) (a' := ?_) #[true, true, false, true, true, false, true, false, false, false, false] rfl rfl (take_ofW HT_.out HW_.out (by kernel_rfl)) (fun _ _ _ h => h) (Or.inl ⟨by rfl, ?_⟩) hHeld ?_ ?_
  rotate_left
  · rintro w' ⟨s0, s1, s2, s3, s4, s5⟩
    go_simp
    with_reducible rfl
  rotate_left
  · simp only [Act.put, List.setIfInBounds_toArray, List.set_cons_zero, List.set_cons_succ, i64_w, i32_w]
    rfl
  refine take_ (i := 7) (N := some 10) (v := ?_) (a' := ?_) #[true, true, false, true, true, false, true, true, false, false, false] rfl rfl (take_ofW HT_.out HW_.out (by kernel_rfl)) (fun _ _ _ h => h) (Or.inl ⟨by rfl, ?_⟩) hHeld ?_ ?_
  rotate_left
  · rintro w' ⟨s0, s1, s2, s3, s4, s5⟩
    go_simp
    with_reducible rfl
  rotate_left
  · simp only [Act.put, List.setIfInBounds_toArray, List.set_cons_zero, List.set_cons_succ, i64_w, i32_w]
    rfl
  refine one_ (i := 2) (N := some 5) #[true, true, true, true, true, false, true, true, false, false, false] rfl rfl (one_of HT_.out (by kernel_rfl)) (by decide) (fun K hK => ?_)
  refine goes_ Try.func80 (by kernel_rfl) rfl #[.agg #[.slice A0_0 l0_0.length c0_0, .int .i64 a0_1]] (by rfl) rfl rfl (by (try simp only [List.map_toArray, List.map_cons, List.map_nil]); first | done | rfl | (simp only [List.length_drop, List.length_take]; rfl)) ?_
  with_reducible refine (spec_l1file.calls _ _ l0_0 a0_1 t628 t631 _ ?side1 ?side2 A2.out).mono ?_
  (case side1 => repeat (first | exact (Kd.C_below HR0_0.out HB.out) | (with_reducible refine Kd.C_alloc ?_ _) | (with_reducible refine Kd.C_drewN ?_ _) | (with_reducible refine Kd.C_drew ?_)))
  (case side2 => exact HC0_0.out)
  rintro e w8 ⟨v629, rfl, ho0, hb⟩
  refine ⟨_, rfl, ?_⟩
  have n0_ := Aside0.mk (Kd.R_lower ho0 (below_size (by repeat (first | (with_reducible first | exact HB.out | apply below_alloc | apply pw_below_drewN | apply below_drew1 | refine below_set ?_ GE626.out | refine below_set ?_ GE627.out) | exact HB.out))))
  have n1_ := Aside0.mk (blk_below (g := gb626) (o := .cells #[.slice A0_0 l0_0.length c0_0, .int .i64 a0_1, .slice A0_2 l0_2.length c0_2, .int .i64 a0_3, .slice A0_4 l0_4.length c0_4, .int .i64 a0_5] 31 (0, 0)) (by (with_reducible repeat (first | refine blk_drewN ?_ _ | refine blk_drew ?_ | refine blk_alloc ?_ _)); exact BK626.out) hb)
  have n2_ := Aside0.mk (blk_below (g := gb627) (o := .cells #[.slice none 0 0, .int .i64 0, .slice none 0 0, .int .i64 0, .slice none 0 0, .int .i64 0] 31 (0, 0)) (by (with_reducible repeat (first | refine blk_drewN ?_ _ | refine blk_drew ?_ | refine blk_alloc ?_ _)); exact BK627.out) hb)
  have n3_ := Aside0.mk (below_step (by repeat (first | (with_reducible first | exact HB.out | apply below_alloc | apply pw_below_drewN | apply below_drew1 | refine below_set ?_ GE626.out | refine below_set ?_ GE627.out) | exact HB.out)) hb)
  clear BK626
  clear BK627
  clear HB
  have HO630 := n0_
  have BK626 := n1_
  have BK627 := n2_
  have HB := n3_
  clear n0_ n1_ n2_ n3_
  (try clear hb)
  (try clear hb2)
  (try clear hk)
  (try clear hi)
  (try clear ho0)
  refine hK.out _ _ ⟨(blk_cell BK626.out 0).trans rfl, (blk_cell BK626.out 1).trans rfl, (blk_cell BK626.out 2).trans rfl, (blk_cell BK626.out 3).trans rfl, (blk_cell BK626.out 4).trans rfl, (blk_cell BK626.out 5).trans rfl⟩ (fun hHeld => ?_)
  clear hK K
  refine norm_ (a' := ?_) ?_ ?_
  rotate_left
  · show Act.put _ (some 5) _ = _
    simp only [Act.put, List.setIfInBounds_toArray, List.set_cons_zero, List.set_cons_succ, i64_w, i32_w]
    rfl
  refine one_ (i := 5) (N := some 8) #[true, true, true, true, true, true, true, true, false, false, false] rfl rfl (one_of HT_.out (by kernel_rfl)) (by decide) (fun K hK => ?_)
  refine goes_ Try.func80 (by kernel_rfl) rfl #[.agg #[.slice A0_2 l0_2.length c0_2, .int .i64 a0_3]] (by rfl) rfl rfl (by (try simp only [List.map_toArray, List.map_cons, List.map_nil]); first | done | rfl | (simp only [List.length_drop, List.length_take]; rfl)) ?_
  with_reducible refine (spec_l1file.calls _ _ l0_2 a0_3 t632 t635 _ ?side1 ?side2 A3.out).mono ?_
  (case side1 => repeat (first | exact (Kd.C_below HR0_2.out HB.out) | (with_reducible refine Kd.C_alloc ?_ _) | (with_reducible refine Kd.C_drewN ?_ _) | (with_reducible refine Kd.C_drew ?_)))
  (case side2 => exact HC0_2.out)
  rintro e w9 ⟨v633, rfl, ho0, hb⟩
  refine ⟨_, rfl, ?_⟩
  have n0_ := Aside0.mk (Kd.R_elder' (by (with_reducible repeat (first | apply Kd.R_alloc | apply Kd.R_drewN | apply Kd.R_drew)); exact HO630.out) (Kd.R_base ho0) hb)
  have n1_ := Aside0.mk (Kd.R_lower (Kd.R_new' ho0 (Kd.R_lt (by (with_reducible repeat (first | apply Kd.R_alloc | apply Kd.R_drewN | apply Kd.R_drew)); exact HO630.out))) (below_size (by repeat (first | (with_reducible first | exact HB.out | apply below_alloc | apply pw_below_drewN | apply below_drew1 | refine below_set ?_ GE626.out | refine below_set ?_ GE627.out) | exact HB.out))))
  have n2_ := Aside0.mk (blk_below (g := gb626) (o := .cells #[.slice A0_0 l0_0.length c0_0, .int .i64 a0_1, .slice A0_2 l0_2.length c0_2, .int .i64 a0_3, .slice A0_4 l0_4.length c0_4, .int .i64 a0_5] 31 (0, 0)) (by (with_reducible repeat (first | refine blk_drewN ?_ _ | refine blk_drew ?_ | refine blk_alloc ?_ _)); exact BK626.out) hb)
  have n3_ := Aside0.mk (blk_below (g := gb627) (o := .cells #[.slice none 0 0, .int .i64 0, .slice none 0 0, .int .i64 0, .slice none 0 0, .int .i64 0] 31 (0, 0)) (by (with_reducible repeat (first | refine blk_drewN ?_ _ | refine blk_drew ?_ | refine blk_alloc ?_ _)); exact BK627.out) hb)
  have n4_ := Aside0.mk (below_step (by repeat (first | (with_reducible first | exact HB.out | apply below_alloc | apply pw_below_drewN | apply below_drew1 | refine below_set ?_ GE626.out | refine below_set ?_ GE627.out) | exact HB.out)) hb)
  clear HO630
  clear BK626
  clear BK627
  clear HB
  have HO630 := n0_
  have HO634 := n1_
  have BK626 := n2_
  have BK627 := n3_
  have HB := n4_
  clear n0_ n1_ n2_ n3_ n4_
  (try clear hb)
  (try clear hb2)
  (try clear hk)
  (try clear hi)
  (try clear ho0)
  refine hK.out _ _ ⟨(blk_cell BK626.out 0).trans rfl, (blk_cell BK626.out 1).trans rfl, (blk_cell BK626.out 2).trans rfl, (blk_cell BK626.out 3).trans rfl, (blk_cell BK626.out 4).trans rfl, (blk_cell BK626.out 5).trans rfl⟩ (fun hHeld => ?_)
  clear hK K
  refine norm_ (a' := ?_) ?_ ?_
  rotate_left
  · show Act.put _ (some 8) _ = _
    simp only [Act.put, List.setIfInBounds_toArray, List.set_cons_zero, List.set_cons_succ, i64_w, i32_w]
    rfl
  refine one_ (i := 8) (N := some 11) #[true, true, true, true, true, true, true, true, true, false, false] rfl rfl (one_of HT_.out (by kernel_rfl)) (by decide) (fun K hK => ?_)
  refine goes_ Try.func80 (by kernel_rfl) rfl #[.agg #[.slice A0_4 l0_4.length c0_4, .int .i64 a0_5]] (by rfl) rfl rfl (by (try simp only [List.map_toArray, List.map_cons, List.map_nil]); first | done | rfl | (simp only [List.length_drop, List.length_take]; rfl)) ?_
  with_reducible refine (spec_l1file.calls _ _ l0_4 a0_5 t636 t639 _ ?side1 ?side2 A4.out).mono ?_
  (case side1 => repeat (first | exact (Kd.C_below HR0_4.out HB.out) | (with_reducible refine Kd.C_alloc ?_ _) | (with_reducible refine Kd.C_drewN ?_ _) | (with_reducible refine Kd.C_drew ?_)))
  (case side2 => exact HC0_4.out)
  rintro e w10 ⟨v637, rfl, ho0, hb⟩
  refine ⟨_, rfl, ?_⟩
  have n0_ := Aside0.mk (Kd.R_elder' (by (with_reducible repeat (first | apply Kd.R_alloc | apply Kd.R_drewN | apply Kd.R_drew)); exact HO630.out) (Kd.R_base ho0) hb)
  have n1_ := Aside0.mk (Kd.R_elder' (by (with_reducible repeat (first | apply Kd.R_alloc | apply Kd.R_drewN | apply Kd.R_drew)); exact HO634.out) (Kd.R_base ho0) hb)
  have n2_ := Aside0.mk (Kd.R_lower (Kd.R_new' (Kd.R_new' ho0 (Kd.R_lt (by (with_reducible repeat (first | apply Kd.R_alloc | apply Kd.R_drewN | apply Kd.R_drew)); exact HO630.out))) (Kd.R_lt (by (with_reducible repeat (first | apply Kd.R_alloc | apply Kd.R_drewN | apply Kd.R_drew)); exact HO634.out))) (below_size (by repeat (first | (with_reducible first | exact HB.out | apply below_alloc | apply pw_below_drewN | apply below_drew1 | refine below_set ?_ GE626.out | refine below_set ?_ GE627.out) | exact HB.out))))
  have n3_ := Aside0.mk (blk_below (g := gb626) (o := .cells #[.slice A0_0 l0_0.length c0_0, .int .i64 a0_1, .slice A0_2 l0_2.length c0_2, .int .i64 a0_3, .slice A0_4 l0_4.length c0_4, .int .i64 a0_5] 31 (0, 0)) (by (with_reducible repeat (first | refine blk_drewN ?_ _ | refine blk_drew ?_ | refine blk_alloc ?_ _)); exact BK626.out) hb)
  have n4_ := Aside0.mk (blk_below (g := gb627) (o := .cells #[.slice none 0 0, .int .i64 0, .slice none 0 0, .int .i64 0, .slice none 0 0, .int .i64 0] 31 (0, 0)) (by (with_reducible repeat (first | refine blk_drewN ?_ _ | refine blk_drew ?_ | refine blk_alloc ?_ _)); exact BK627.out) hb)
  have n5_ := Aside0.mk (below_step (by repeat (first | (with_reducible first | exact HB.out | apply below_alloc | apply pw_below_drewN | apply below_drew1 | refine below_set ?_ GE626.out | refine below_set ?_ GE627.out) | exact HB.out)) hb)
  clear HO630
  clear HO634
  clear BK626
  clear BK627
  clear HB
  have HO630 := n0_
  have HO634 := n1_
  have HO638 := n2_
  have BK626 := n3_
  have BK627 := n4_
  have HB := n5_
  clear n0_ n1_ n2_ n3_ n4_ n5_
  (try clear hb)
  (try clear hb2)
  (try clear hk)
  (try clear hi)
  (try clear ho0)
  obtain ⟨Ao11, co11, eo11⟩ := Kd.R_slice HO638.out
  (first | subst eo11 | (injection eo11 with f1_ f2_ f3_; have f4_ := f1_.symm; have f5_ := f3_.symm; clear f1_ f2_ f3_; subst f4_; subst f5_))
  obtain ⟨Ao12, co12, eo12⟩ := Kd.R_slice HO634.out
  (first | subst eo12 | (injection eo12 with f1_ f2_ f3_; have f4_ := f1_.symm; have f5_ := f3_.symm; clear f1_ f2_ f3_; subst f4_; subst f5_))
  obtain ⟨Ao13, co13, eo13⟩ := Kd.R_slice HO630.out
  (first | subst eo13 | (injection eo13 with f1_ f2_ f3_; have f4_ := f1_.symm; have f5_ := f3_.symm; clear f1_ f2_ f3_; subst f4_; subst f5_))
  refine hK.out _ _ ⟨(blk_cell BK626.out 0).trans rfl, (blk_cell BK626.out 1).trans rfl, (blk_cell BK626.out 2).trans rfl, (blk_cell BK626.out 3).trans rfl, (blk_cell BK626.out 4).trans rfl, (blk_cell BK626.out 5).trans rfl⟩ (fun hHeld => ?_)
  clear hK K
  refine norm_ (a' := ?_) ?_ ?_
  rotate_left
  · show Act.put _ (some 11) _ = _
    simp only [Act.put, List.setIfInBounds_toArray, List.set_cons_zero, List.set_cons_succ, i64_w, i32_w]
    rfl
  refine pure_ (i := 9) (N := some 12) (v := ?_) (a' := ?_) #[true, true, true, true, true, true, true, true, true, true, false] rfl rfl (any_of HT_.out (by kernel_rfl)) (fun _ _ _ h => h) (Or.inl ⟨by rfl, ?_⟩) ?_ ?_
  rotate_left
  · intro w'
    go_simp
    with_reducible rfl
  rotate_left
  · simp only [Act.put, List.setIfInBounds_toArray, List.set_cons_zero, List.set_cons_succ, i64_w, i32_w]
    rfl
  refine one_ (i := 10) (N := none) #[true, true, true, true, true, true, true, true, true, true, true] rfl rfl (one_of HT_.out (by kernel_rfl)) (by decide) (fun K hK => ?_)
  have hs14 : w10.cell? ⟨gb627, 0, none⟩ = some (.slice none 0 0) := (blk_cell BK627.out 0).trans rfl
  have hfs14 := blk_frozen BK627.out 0
  have hns14_0 := NB626_627.out
  have hms14_0 := NB627_626.out
  have hs15 : w10.cell? ⟨gb627, 1, none⟩ = some (.int .i64 0) := (blk_cell BK627.out 1).trans rfl
  have hfs15 := blk_frozen BK627.out 1
  have hns15_0 := NB626_627.out
  have hms15_0 := NB627_626.out
  have hs16 : w10.cell? ⟨gb627, 2, none⟩ = some (.slice none 0 0) := (blk_cell BK627.out 2).trans rfl
  have hfs16 := blk_frozen BK627.out 2
  have hns16_0 := NB626_627.out
  have hms16_0 := NB627_626.out
  have hs17 : w10.cell? ⟨gb627, 3, none⟩ = some (.int .i64 0) := (blk_cell BK627.out 3).trans rfl
  have hfs17 := blk_frozen BK627.out 3
  have hns17_0 := NB626_627.out
  have hms17_0 := NB627_626.out
  have hs18 : w10.cell? ⟨gb627, 4, none⟩ = some (.slice none 0 0) := (blk_cell BK627.out 4).trans rfl
  have hfs18 := blk_frozen BK627.out 4
  have hns18_0 := NB626_627.out
  have hms18_0 := NB627_626.out
  have hs19 : w10.cell? ⟨gb627, 5, none⟩ = some (.int .i64 0) := (blk_cell BK627.out 5).trans rfl
  have hfs19 := blk_frozen BK627.out 5
  have hns19_0 := NB626_627.out
  have hms19_0 := NB627_626.out
  refine skip_ (w1 := ?_) (by rfl) rfl ?_ ?_
  rotate_left
  · go_simp
    rfl
  refine hK.out _ _ ⟨((cell_far (p := ⟨gb627, _, none⟩) NB626_627.out _).trans (((cell_far (p := ⟨gb627, _, none⟩) NB626_627.out _).trans (((cell_far (p := ⟨gb627, _, none⟩) NB626_627.out _).trans (((cell_far (p := ⟨gb627, _, none⟩) NB626_627.out _).trans (((cell_far (p := ⟨gb627, _, none⟩) NB626_627.out _).trans (((cell_far (p := ⟨gb627, _, none⟩) NB626_627.out _).trans (hHeld.1)))))))))))), ((cell_far (p := ⟨gb627, _, none⟩) NB626_627.out _).trans (((cell_far (p := ⟨gb627, _, none⟩) NB626_627.out _).trans (((cell_far (p := ⟨gb627, _, none⟩) NB626_627.out _).trans (((cell_far (p := ⟨gb627, _, none⟩) NB626_627.out _).trans (((cell_far (p := ⟨gb627, _, none⟩) NB626_627.out _).trans (((cell_far (p := ⟨gb627, _, none⟩) NB626_627.out _).trans (hHeld.2.1)))))))))))), ((cell_far (p := ⟨gb627, _, none⟩) NB626_627.out _).trans (((cell_far (p := ⟨gb627, _, none⟩) NB626_627.out _).trans (((cell_far (p := ⟨gb627, _, none⟩) NB626_627.out _).trans (((cell_far (p := ⟨gb627, _, none⟩) NB626_627.out _).trans (((cell_far (p := ⟨gb627, _, none⟩) NB626_627.out _).trans (((cell_far (p := ⟨gb627, _, none⟩) NB626_627.out _).trans (hHeld.2.2.1)))))))))))), ((cell_far (p := ⟨gb627, _, none⟩) NB626_627.out _).trans (((cell_far (p := ⟨gb627, _, none⟩) NB626_627.out _).trans (((cell_far (p := ⟨gb627, _, none⟩) NB626_627.out _).trans (((cell_far (p := ⟨gb627, _, none⟩) NB626_627.out _).trans (((cell_far (p := ⟨gb627, _, none⟩) NB626_627.out _).trans (((cell_far (p := ⟨gb627, _, none⟩) NB626_627.out _).trans (hHeld.2.2.2.1)))))))))))), ((cell_far (p := ⟨gb627, _, none⟩) NB626_627.out _).trans (((cell_far (p := ⟨gb627, _, none⟩) NB626_627.out _).trans (((cell_far (p := ⟨gb627, _, none⟩) NB626_627.out _).trans (((cell_far (p := ⟨gb627, _, none⟩) NB626_627.out _).trans (((cell_far (p := ⟨gb627, _, none⟩) NB626_627.out _).trans (((cell_far (p := ⟨gb627, _, none⟩) NB626_627.out _).trans (hHeld.2.2.2.2.1)))))))))))), ((cell_far (p := ⟨gb627, _, none⟩) NB626_627.out _).trans (((cell_far (p := ⟨gb627, _, none⟩) NB626_627.out _).trans (((cell_far (p := ⟨gb627, _, none⟩) NB626_627.out _).trans (((cell_far (p := ⟨gb627, _, none⟩) NB626_627.out _).trans (((cell_far (p := ⟨gb627, _, none⟩) NB626_627.out _).trans (((cell_far (p := ⟨gb627, _, none⟩) NB626_627.out _).trans (hHeld.2.2.2.2.2))))))))))))⟩ (fun hHeld => ?_)
  clear hK K
  refine done_ (done_of HT_.out (by kernel_rfl)) ?_
  try go_wp2
  refine bodyPost_ret (results_cell_row rfl _ _ gb627 31 #[.slice Ao13 t628.length co13, .int .i64 t631, .slice Ao12 t632.length co12, .int .i64 t635, .slice Ao11 t636.length co11, .int .i64 t639] (0, 0) _ rfl (by (with_reducible repeat (first | refine blk_drewN ?_ _ | refine blk_drew ?_ | refine blk_alloc ?_ _)); refine blk_put (cs := #[.slice Ao13 t628.length co13, .int .i64 t631, .slice Ao12 t632.length co12, .int .i64 t635, .slice Ao11 t636.length co11, .int .i64 0]) ?_ 5 _ rfl; (with_reducible repeat (first | refine blk_drewN ?_ _ | refine blk_drew ?_ | refine blk_alloc ?_ _)); refine blk_put (cs := #[.slice Ao13 t628.length co13, .int .i64 t631, .slice Ao12 t632.length co12, .int .i64 t635, .slice none 0 0, .int .i64 0]) ?_ 4 _ rfl; (with_reducible repeat (first | refine blk_drewN ?_ _ | refine blk_drew ?_ | refine blk_alloc ?_ _)); refine blk_put (cs := #[.slice Ao13 t628.length co13, .int .i64 t631, .slice Ao12 t632.length co12, .int .i64 0, .slice none 0 0, .int .i64 0]) ?_ 3 _ rfl; (with_reducible repeat (first | refine blk_drewN ?_ _ | refine blk_drew ?_ | refine blk_alloc ?_ _)); refine blk_put (cs := #[.slice Ao13 t628.length co13, .int .i64 t631, .slice none 0 0, .int .i64 0, .slice none 0 0, .int .i64 0]) ?_ 2 _ rfl; (with_reducible repeat (first | refine blk_drewN ?_ _ | refine blk_drew ?_ | refine blk_alloc ?_ _)); refine blk_put (cs := #[.slice Ao13 t628.length co13, .int .i64 0, .slice none 0 0, .int .i64 0, .slice none 0 0, .int .i64 0]) ?_ 1 _ rfl; (with_reducible repeat (first | refine blk_drewN ?_ _ | refine blk_drew ?_ | refine blk_alloc ?_ _)); refine blk_put (cs := #[.slice none 0 0, .int .i64 0, .slice none 0 0, .int .i64 0, .slice none 0 0, .int .i64 0]) ?_ 0 _ rfl; (with_reducible repeat (first | refine blk_drewN ?_ _ | refine blk_drew ?_ | refine blk_alloc ?_ _)); exact BK627.out) Try.underlying31 rfl (by kernel_rfl)) rfl ?_
  exact ⟨_, _, _, by first | rfl | (simp [errW_none, errW_some] <;> rfl) | (simp [*, errW_none, errW_some] <;> rfl), by (with_reducible repeat (first | apply Kd.R_alloc | apply Kd.R_drewN | apply Kd.R_drew)); exact Kd.R_mono (Kd.R_far (p := ⟨gb627, 5, none⟩) (Kd.R_far (p := ⟨gb627, 4, none⟩) (Kd.R_far (p := ⟨gb627, 3, none⟩) (Kd.R_far (p := ⟨gb627, 2, none⟩) (Kd.R_far (p := ⟨gb627, 1, none⟩) (Kd.R_far (p := ⟨gb627, 0, none⟩) (Kd.R_types HO630.out BK627.out (by decide)) (fun _ hk => hk.2) (.slice Ao13 t628.length co13)) (fun _ hk => hk.2) (.int .i64 t631)) (fun _ hk => hk.2) (.slice Ao12 t632.length co12)) (fun _ hk => hk.2) (.int .i64 t635)) (fun _ hk => hk.2) (.slice Ao11 t636.length co11)) (fun _ hk => hk.2) (.int .i64 t639)) (fun _ hk => ⟨hk.1.1.2, hk.1.2⟩), by (with_reducible repeat (first | apply Kd.R_alloc | apply Kd.R_drewN | apply Kd.R_drew)); exact Kd.R_mono (Kd.R_far (p := ⟨gb627, 5, none⟩) (Kd.R_far (p := ⟨gb627, 4, none⟩) (Kd.R_far (p := ⟨gb627, 3, none⟩) (Kd.R_far (p := ⟨gb627, 2, none⟩) (Kd.R_far (p := ⟨gb627, 1, none⟩) (Kd.R_far (p := ⟨gb627, 0, none⟩) (Kd.R_types HO634.out BK627.out (by decide)) (fun _ hk => hk.2) (.slice Ao13 t628.length co13)) (fun _ hk => hk.2) (.int .i64 t631)) (fun _ hk => hk.2) (.slice Ao12 t632.length co12)) (fun _ hk => hk.2) (.int .i64 t635)) (fun _ hk => hk.2) (.slice Ao11 t636.length co11)) (fun _ hk => hk.2) (.int .i64 t639)) (fun _ hk => ⟨hk.1.1.2, hk.1.2⟩), by (with_reducible repeat (first | apply Kd.R_alloc | apply Kd.R_drewN | apply Kd.R_drew)); exact Kd.R_mono (Kd.R_far (p := ⟨gb627, 5, none⟩) (Kd.R_far (p := ⟨gb627, 4, none⟩) (Kd.R_far (p := ⟨gb627, 3, none⟩) (Kd.R_far (p := ⟨gb627, 2, none⟩) (Kd.R_far (p := ⟨gb627, 1, none⟩) (Kd.R_far (p := ⟨gb627, 0, none⟩) (Kd.R_types HO638.out BK627.out (by decide)) (fun _ hk => hk.2) (.slice Ao13 t628.length co13)) (fun _ hk => hk.2) (.int .i64 t631)) (fun _ hk => hk.2) (.slice Ao12 t632.length co12)) (fun _ hk => hk.2) (.int .i64 t635)) (fun _ hk => hk.2) (.slice Ao11 t636.length co11)) (fun _ hk => hk.2) (.int .i64 t639)) (fun _ hk => ⟨hk.1.1.2, hk.1.2⟩), by repeat (first | (with_reducible first | exact HB.out | apply below_alloc | apply pw_below_drewN | apply below_drew1 | refine below_set ?_ GE626.out | refine below_set ?_ GE627.out) | exact HB.out)⟩

end Go.Proofs.Ytbapokpkgonjkaa.Print

/- The machine's side of the statements: what a Go function comes to, as a Lean function, and that it does so (written by this session's own program over the kit's printer; Lean checks it). -/
namespace Go.Proofs.Ytbapokpkgonjkaa.Print
open Go.RowKit Go.Proofs.YtbapokpkgonjkaaW.PrintWords Go.Proofs.YtbapokpkgonjkaaW.PrintLast Go.Proofs.YtbapokpkgonjkaaW.PrintMore
attribute [local go_sem] max2_int min2_int max_two min_two max_three min_three max_four min_four   -- for this text's walks alone
set_option linter.unusedVariables false
set_option linter.unusedSimpArgs false

/-! ### spec_l1get: function 86 -/
def spec_l1get.f (l0_0 : List Int) (a0_1 : Int) (l0_2 : List Int) (a0_3 : Int) (l0_4 : List Int) (a0_5 : Int) (a1 : Int) : Option (List Int × Int) := if a1 = 0 then ((spec_l1file.f l0_0 a0_1).bind fun bt921 => (some (bt921.1, bt921.2))) else (if a1 = 1 then ((spec_l1file.f l0_2 a0_3).bind fun bt925 => (some (bt925.1, bt925.2))) else ((spec_l1file.f l0_4 a0_5).bind fun bt929 => (some (bt929.1, bt929.2))))
set_option maxHeartbeats 8000000 in
set_option maxRecDepth 100000 in
theorem spec_l1get.calls (A0_0 : Option Addr) (c0_0 : Nat) (l0_0 : List Int) (a0_1 : Int) (A0_2 : Option Addr) (c0_2 : Nat) (l0_2 : List Int) (a0_3 : Int) (A0_4 : Option Addr) (c0_4 : Nat) (l0_4 : List Int) (a0_5 : Int) (a1 : Int) (r1 : List Int) (r2 : Int) (w : World) (hr0_0 : Kd.C (Kd.int .u8) w A0_0 l0_0.length l0_0) (hc0_0 : l0_0.length ≤ c0_0) (hr0_2 : Kd.C (Kd.int .u8) w A0_2 l0_2.length l0_2) (hc0_2 : l0_2.length ≤ c0_2) (hr0_4 : Kd.C (Kd.int .u8) w A0_4 l0_4.length l0_4) (hc0_4 : l0_4.length ≤ c0_4) (h : spec_l1get.f l0_0 a0_1 l0_2 a0_3 l0_4 a0_5 a1 = some (r1, r2)) :
    Calls Try.prog 86 #[.agg #[.slice A0_0 l0_0.length c0_0, .int .i64 a0_1, .slice A0_2 l0_2.length c0_2, .int .i64 a0_3, .slice A0_4 l0_4.length c0_4, .int .i64 a0_5], .int .i64 a1] w fun e w' => ∃ v0_ : Value, e = .returned (.agg #[v0_, .int .i64 r2]) ∧ Kd.R (Kd.int .u8) 5 w' w.heap.size (fun _ => True) v0_ r1 ∧ Below w.heap.size w w' := by
  have hu31 := Try.underlying31
  have hu29 := Try.underlying29
  have HR0_0 := Aside0.mk hr0_0
  have HC0_0 := Aside0.mk hc0_0
  clear hr0_0 hc0_0
  have HR0_2 := Aside0.mk hr0_2
  have HC0_2 := Aside0.mk hc0_2
  clear hr0_2 hc0_2
  have HR0_4 := Aside0.mk hr0_4
  have HC0_4 := Aside0.mk hc0_4
  clear hr0_4 hc0_4
  have HB := Aside0.mk (Below.refl w.heap.size w)
  have H : (if a1 = 0 then ((spec_l1file.f l0_0 a0_1).bind fun bt921 => (some (bt921.1, bt921.2))) else (if a1 = 1 then ((spec_l1file.f l0_2 a0_3).bind fun bt925 => (some (bt925.1, bt925.2))) else ((spec_l1file.f l0_4 a0_5).bind fun bt929 => (some (bt929.1, bt929.2))))) = some (r1, r2) := h
  clear h
  by_cases c3 : a1 = 0
  · rw [if_pos c3] at H
    have c3b0 : (a1 == 0) = true := beq_iff_eq.mpr c3
    have c3b1 : (a1 != 0) = false := bne_eq_false_iff_eq.mpr c3
    clear c3
    replace H := Option.bind_eq_some_iff.mp H
    obtain ⟨⟨t921, t924⟩, A40, H⟩ := H
    replace H : (some (t921, t924)) = some (r1, r2) := H
    have A4 := Aside0.mk A40
    clear A40
    simp only [Option.some.injEq, Prod.mk.injEq] at H
    obtain ⟨rfl, rfl⟩ := H
    go_enter Try.func86, Try.ntmps86
    go_wp2_with (first | ((with_reducible refine gate_dst (N := 2) rfl ?_); refine box_event ?hg (N := 2) ?hd (cs := #[.slice A0_0 l0_0.length c0_0, .int .i64 a0_1, .slice A0_2 l0_2.length c0_2, .int .i64 a0_3, .slice A0_4 l0_4.length c0_4, .int .i64 a0_5]) (t := 31) ?hr ?_; (case hd => rfl); (case hg => rfl); (case hr => first | (go_simp; done) | (go_simp; rfl)); intro gb919 hg w5 hbox hb; have n0_ := Aside0.mk (below_step (by repeat (first | (with_reducible first | exact HB.out | apply below_alloc | apply pw_below_drewN | apply below_drew1) | exact HB.out)) hb); have n1_ := Aside0.mk (hbox); have n2_ := Aside0.mk ((by rw [hg]; exact (below_size (by repeat (first | (with_reducible first | exact HB.out | apply below_alloc | apply pw_below_drewN | apply below_drew1) | exact HB.out))) : w.heap.size ≤ gb919)); have n3_ := Aside0.mk ((by rw [hg]; exact (below_size (by repeat (first | (with_reducible first | exact HB.out | apply below_alloc | apply pw_below_drewN | apply below_drew1) | exact HB.out))) : w.heap.size ≤ gb919)); clear HB; have HB := n0_; have BK919 := n1_; have GW919 := n2_; have GE919 := n3_; clear n0_ n1_ n2_ n3_; clear hb hbox hg) | ((with_reducible refine gate_dst (N := 4) rfl ?_); refine box_event ?hg (N := 4) ?hd (cs := #[.slice none 0 0, .int .i64 0]) (t := 29) ?hr ?_; (case hd => rfl); (case hg => rfl); (case hr => first | (go_simp; done) | (go_simp; rfl)); intro gb920 hg w6 hbox hb; have n0_ := Aside0.mk (blk_below (g := gb919) (o := .cells #[.slice A0_0 l0_0.length c0_0, .int .i64 a0_1, .slice A0_2 l0_2.length c0_2, .int .i64 a0_3, .slice A0_4 l0_4.length c0_4, .int .i64 a0_5] 31 (0, 0)) (by (with_reducible repeat (first | refine blk_drewN ?_ _ | refine blk_drew ?_ | refine blk_alloc ?_ _)); exact BK919.out) hb); have n1_ := Aside0.mk (below_step (by repeat (first | (with_reducible first | exact HB.out | apply below_alloc | apply pw_below_drewN | apply below_drew1 | refine below_set ?_ GE919.out) | exact HB.out)) hb); have n2_ := Aside0.mk (hbox); have n3_ := Aside0.mk ((by rw [hg]; exact (below_size (by repeat (first | (with_reducible first | exact HB.out | apply below_alloc | apply pw_below_drewN | apply below_drew1 | refine below_set ?_ GE919.out) | exact HB.out))) : w.heap.size ≤ gb920)); have n4_ := Aside0.mk ((by rw [hg]; exact (below_size (by repeat (first | (with_reducible first | exact HB.out | apply below_alloc | apply pw_below_drewN | apply below_drew1 | refine below_set ?_ GE919.out) | exact HB.out))) : w.heap.size ≤ gb920)); have n5_ := Aside0.mk ((by rw [hg]; exact Nat.ne_of_lt (blk_lt (g := gb919) (o := .cells #[.slice A0_0 l0_0.length c0_0, .int .i64 a0_1, .slice A0_2 l0_2.length c0_2, .int .i64 a0_3, .slice A0_4 l0_4.length c0_4, .int .i64 a0_5] 31 (0, 0)) (by (with_reducible repeat (first | refine blk_drewN ?_ _ | refine blk_drew ?_ | refine blk_alloc ?_ _)); exact BK919.out)) : gb919 ≠ gb920)); have n6_ := Aside0.mk ((by rw [hg]; exact Nat.ne_of_gt (blk_lt (g := gb919) (o := .cells #[.slice A0_0 l0_0.length c0_0, .int .i64 a0_1, .slice A0_2 l0_2.length c0_2, .int .i64 a0_3, .slice A0_4 l0_4.length c0_4, .int .i64 a0_5] 31 (0, 0)) (by (with_reducible repeat (first | refine blk_drewN ?_ _ | refine blk_drew ?_ | refine blk_alloc ?_ _)); exact BK919.out)) : gb920 ≠ gb919)); clear BK919; clear HB; have BK919 := n0_; have HB := n1_; have BK920 := n2_; have GW920 := n3_; have GE920 := n4_; have NB919_920 := n5_; have NB920_919 := n6_; clear n0_ n1_ n2_ n3_ n4_ n5_ n6_; clear hb hbox hg; have hnb7 := NB919_920.out; have hnc7 := NB920_919.out; have hcz8_0 : w6.cell? ⟨gb919, 0, none⟩ = some (.slice A0_0 l0_0.length c0_0) := (blk_cell BK919.out 0).trans rfl; have hcz8_1 : w6.cell? ⟨gb919, 1, none⟩ = some (.int .i64 a0_1) := (blk_cell BK919.out 1).trans rfl; have hcz8_2 : w6.cell? ⟨gb919, 2, none⟩ = some (.slice A0_2 l0_2.length c0_2) := (blk_cell BK919.out 2).trans rfl; have hcz8_3 : w6.cell? ⟨gb919, 3, none⟩ = some (.int .i64 a0_3) := (blk_cell BK919.out 3).trans rfl; have hcz8_4 : w6.cell? ⟨gb919, 4, none⟩ = some (.slice A0_4 l0_4.length c0_4) := (blk_cell BK919.out 4).trans rfl; have hcz8_5 : w6.cell? ⟨gb919, 5, none⟩ = some (.int .i64 a0_5) := (blk_cell BK919.out 5).trans rfl; have hfz8_0 := blk_frozen BK919.out 0; have hfz8_1 := blk_frozen BK919.out 1; have hfz8_2 := blk_frozen BK919.out 2; have hfz8_3 := blk_frozen BK919.out 3; have hfz8_4 := blk_frozen BK919.out 4; have hfz8_5 := blk_frozen BK919.out 5) | ((with_reducible refine gate_callee (f := 80) rfl ?_); refine goesL_ (some 9) rfl rfl Try.func80 (by kernel_rfl) rfl #[.agg #[.slice A0_0 l0_0.length c0_0, .int .i64 a0_1]] rfl (by (try simp only [List.map_toArray, List.map_cons, List.map_nil]); first | done | rfl | (simp only [List.length_drop, List.length_take]; rfl)) ?_; (with_reducible refine (spec_l1file.calls _ _ l0_0 a0_1 t921 t924 _ ?side1 ?side2 A4.out).mono ?_); (case side1 => repeat (first | exact (Kd.C_below HR0_0.out HB.out) | (with_reducible refine Kd.C_alloc ?_ _) | (with_reducible refine Kd.C_drewN ?_ _) | (with_reducible refine Kd.C_drew ?_))); (case side2 => exact HC0_0.out); rintro e w9 ⟨v922, rfl, ho0, hb⟩; refine ⟨_, rfl, ?_⟩; have n0_ := Aside0.mk (Kd.R_lower ho0 (below_size (by repeat (first | (with_reducible first | exact HB.out | apply below_alloc | apply pw_below_drewN | apply below_drew1 | refine below_set ?_ GE919.out | refine below_set ?_ GE920.out) | exact HB.out)))); have n1_ := Aside0.mk (blk_below (g := gb919) (o := .cells #[.slice A0_0 l0_0.length c0_0, .int .i64 a0_1, .slice A0_2 l0_2.length c0_2, .int .i64 a0_3, .slice A0_4 l0_4.length c0_4, .int .i64 a0_5] 31 (0, 0)) (by (with_reducible repeat (first | refine blk_drewN ?_ _ | refine blk_drew ?_ | refine blk_alloc ?_ _)); exact BK919.out) hb); have n2_ := Aside0.mk (blk_below (g := gb920) (o := .cells #[.slice none 0 0, .int .i64 0] 29 (0, 0)) (by (with_reducible repeat (first | refine blk_drewN ?_ _ | refine blk_drew ?_ | refine blk_alloc ?_ _)); exact BK920.out) hb); have n3_ := Aside0.mk (below_step (by repeat (first | (with_reducible first | exact HB.out | apply below_alloc | apply pw_below_drewN | apply below_drew1 | refine below_set ?_ GE919.out | refine below_set ?_ GE920.out) | exact HB.out)) hb); clear BK919; clear BK920; clear HB; have HO923 := n0_; have BK919 := n1_; have BK920 := n2_; have HB := n3_; clear n0_ n1_ n2_ n3_; (try clear hb); (try clear hb2); (try clear hk); (try clear hi); (try clear ho0); obtain ⟨Ao10, co10, eo10⟩ := Kd.R_slice HO923.out; subst eo10; have hcz11_0 : w9.cell? ⟨gb920, 0, none⟩ = some (.slice none 0 0) := (blk_cell BK920.out 0).trans rfl; have hcz11_1 : w9.cell? ⟨gb920, 1, none⟩ = some (.int .i64 0) := (blk_cell BK920.out 1).trans rfl; have hfz11_0 := blk_frozen BK920.out 0; have hfz11_1 := blk_frozen BK920.out 1))
    refine bodyPost_ret (results_cell_row rfl _ _ gb920 29 #[.slice Ao10 t921.length co10, .int .i64 t924] (0, 0) _ rfl (by (with_reducible repeat (first | refine blk_drewN ?_ _ | refine blk_drew ?_ | refine blk_alloc ?_ _)); refine blk_put (cs := #[.slice Ao10 t921.length co10, .int .i64 0]) ?_ 1 _ rfl; (with_reducible repeat (first | refine blk_drewN ?_ _ | refine blk_drew ?_ | refine blk_alloc ?_ _)); refine blk_put (cs := #[.slice none 0 0, .int .i64 0]) ?_ 0 _ rfl; (with_reducible repeat (first | refine blk_drewN ?_ _ | refine blk_drew ?_ | refine blk_alloc ?_ _)); exact BK920.out) Try.underlying29 rfl (by kernel_rfl)) rfl ?_
    exact ⟨_, by first | rfl | (simp [errW_none, errW_some] <;> rfl) | (simp [*, errW_none, errW_some] <;> rfl), by (with_reducible repeat (first | apply Kd.R_alloc | apply Kd.R_drewN | apply Kd.R_drew)); exact Kd.R_mono (Kd.R_far (p := ⟨gb920, 1, none⟩) (Kd.R_far (p := ⟨gb920, 0, none⟩) (Kd.R_types HO923.out BK920.out (by decide)) (fun _ hk => hk.2) (.slice Ao10 t921.length co10)) (fun _ hk => hk.2) (.int .i64 t924)) (fun _ hk => trivial), by repeat (first | (with_reducible first | exact HB.out | apply below_alloc | apply pw_below_drewN | apply below_drew1 | refine below_set ?_ GE919.out | refine below_set ?_ GE920.out) | exact HB.out)⟩
  · rw [if_neg c3] at H
    have c3b0 : (a1 == 0) = false := beq_eq_false_iff_ne.mpr c3
    have c3b1 : (a1 != 0) = true := bne_iff_ne.mpr c3
    by_cases c12 : a1 = 1
    · rw [if_pos c12] at H
      have c12b0 : (a1 == 1) = true := beq_iff_eq.mpr c12
      have c12b1 : (a1 != 1) = false := bne_eq_false_iff_eq.mpr c12
      clear c12
      replace H := Option.bind_eq_some_iff.mp H
      obtain ⟨⟨t925, t928⟩, A130, H⟩ := H
      replace H : (some (t925, t928)) = some (r1, r2) := H
      have A13 := Aside0.mk A130
      clear A130
      simp only [Option.some.injEq, Prod.mk.injEq] at H
      obtain ⟨rfl, rfl⟩ := H
      go_enter Try.func86, Try.ntmps86
      go_wp2_with (first | ((with_reducible refine gate_dst (N := 2) rfl ?_); refine box_event ?hg (N := 2) ?hd (cs := #[.slice A0_0 l0_0.length c0_0, .int .i64 a0_1, .slice A0_2 l0_2.length c0_2, .int .i64 a0_3, .slice A0_4 l0_4.length c0_4, .int .i64 a0_5]) (t := 31) ?hr ?_; (case hd => rfl); (case hg => rfl); (case hr => first | (go_simp; done) | (go_simp; rfl)); intro gb919 hg w14 hbox hb; have n0_ := Aside0.mk (below_step (by repeat (first | (with_reducible first | exact HB.out | apply below_alloc | apply pw_below_drewN | apply below_drew1) | exact HB.out)) hb); have n1_ := Aside0.mk (hbox); have n2_ := Aside0.mk ((by rw [hg]; exact (below_size (by repeat (first | (with_reducible first | exact HB.out | apply below_alloc | apply pw_below_drewN | apply below_drew1) | exact HB.out))) : w.heap.size ≤ gb919)); have n3_ := Aside0.mk ((by rw [hg]; exact (below_size (by repeat (first | (with_reducible first | exact HB.out | apply below_alloc | apply pw_below_drewN | apply below_drew1) | exact HB.out))) : w.heap.size ≤ gb919)); clear HB; have HB := n0_; have BK919 := n1_; have GW919 := n2_; have GE919 := n3_; clear n0_ n1_ n2_ n3_; clear hb hbox hg) | ((with_reducible refine gate_dst (N := 4) rfl ?_); refine box_event ?hg (N := 4) ?hd (cs := #[.slice none 0 0, .int .i64 0]) (t := 29) ?hr ?_; (case hd => rfl); (case hg => rfl); (case hr => first | (go_simp; done) | (go_simp; rfl)); intro gb920 hg w15 hbox hb; have n0_ := Aside0.mk (blk_below (g := gb919) (o := .cells #[.slice A0_0 l0_0.length c0_0, .int .i64 a0_1, .slice A0_2 l0_2.length c0_2, .int .i64 a0_3, .slice A0_4 l0_4.length c0_4, .int .i64 a0_5] 31 (0, 0)) (by (with_reducible repeat (first | refine blk_drewN ?_ _ | refine blk_drew ?_ | refine blk_alloc ?_ _)); exact BK919.out) hb); have n1_ := Aside0.mk (below_step (by repeat (first | (with_reducible first | exact HB.out | apply below_alloc | apply pw_below_drewN | apply below_drew1 | refine below_set ?_ GE919.out) | exact HB.out)) hb); have n2_ := Aside0.mk (hbox); have n3_ := Aside0.mk ((by rw [hg]; exact (below_size (by repeat (first | (with_reducible first | exact HB.out | apply below_alloc | apply pw_below_drewN | apply below_drew1 | refine below_set ?_ GE919.out) | exact HB.out))) : w.heap.size ≤ gb920)); have n4_ := Aside0.mk ((by rw [hg]; exact (below_size (by repeat (first | (with_reducible first | exact HB.out | apply below_alloc | apply pw_below_drewN | apply below_drew1 | refine below_set ?_ GE919.out) | exact HB.out))) : w.heap.size ≤ gb920)); have n5_ := Aside0.mk ((by rw [hg]; exact Nat.ne_of_lt (blk_lt (g := gb919) (o := .cells #[.slice A0_0 l0_0.length c0_0, .int .i64 a0_1, .slice A0_2 l0_2.length c0_2, .int .i64 a0_3, .slice A0_4 l0_4.length c0_4, .int .i64 a0_5] 31 (0, 0)) (by (with_reducible repeat (first | refine blk_drewN ?_ _ | refine blk_drew ?_ | refine blk_alloc ?_ _)); exact BK919.out)) : gb919 ≠ gb920)); have n6_ := Aside0.mk ((by rw [hg]; exact Nat.ne_of_gt (blk_lt (g := gb919) (o := .cells #[.slice A0_0 l0_0.length c0_0, .int .i64 a0_1, .slice A0_2 l0_2.length c0_2, .int .i64 a0_3, .slice A0_4 l0_4.length c0_4, .int .i64 a0_5] 31 (0, 0)) (by (with_reducible repeat (first | refine blk_drewN ?_ _ | refine blk_drew ?_ | refine blk_alloc ?_ _)); exact BK919.out)) : gb920 ≠ gb919)); clear BK919; clear HB; have BK919 := n0_; have HB := n1_; have BK920 := n2_; have GW920 := n3_; have GE920 := n4_; have NB919_920 := n5_; have NB920_919 := n6_; clear n0_ n1_ n2_ n3_ n4_ n5_ n6_; clear hb hbox hg; have hnb16 := NB919_920.out; have hnc16 := NB920_919.out; have hcz17_0 : w15.cell? ⟨gb919, 0, none⟩ = some (.slice A0_0 l0_0.length c0_0) := (blk_cell BK919.out 0).trans rfl; have hcz17_1 : w15.cell? ⟨gb919, 1, none⟩ = some (.int .i64 a0_1) := (blk_cell BK919.out 1).trans rfl; have hcz17_2 : w15.cell? ⟨gb919, 2, none⟩ = some (.slice A0_2 l0_2.length c0_2) := (blk_cell BK919.out 2).trans rfl; have hcz17_3 : w15.cell? ⟨gb919, 3, none⟩ = some (.int .i64 a0_3) := (blk_cell BK919.out 3).trans rfl; have hcz17_4 : w15.cell? ⟨gb919, 4, none⟩ = some (.slice A0_4 l0_4.length c0_4) := (blk_cell BK919.out 4).trans rfl; have hcz17_5 : w15.cell? ⟨gb919, 5, none⟩ = some (.int .i64 a0_5) := (blk_cell BK919.out 5).trans rfl; have hfz17_0 := blk_frozen BK919.out 0; have hfz17_1 := blk_frozen BK919.out 1; have hfz17_2 := blk_frozen BK919.out 2; have hfz17_3 := blk_frozen BK919.out 3; have hfz17_4 := blk_frozen BK919.out 4; have hfz17_5 := blk_frozen BK919.out 5) | ((with_reducible refine gate_callee (f := 80) rfl ?_); refine goesL_ (some 14) rfl rfl Try.func80 (by kernel_rfl) rfl #[.agg #[.slice A0_2 l0_2.length c0_2, .int .i64 a0_3]] rfl (by (try simp only [List.map_toArray, List.map_cons, List.map_nil]); first | done | rfl | (simp only [List.length_drop, List.length_take]; rfl)) ?_; (with_reducible refine (spec_l1file.calls _ _ l0_2 a0_3 t925 t928 _ ?side1 ?side2 A13.out).mono ?_); (case side1 => repeat (first | exact (Kd.C_below HR0_2.out HB.out) | (with_reducible refine Kd.C_alloc ?_ _) | (with_reducible refine Kd.C_drewN ?_ _) | (with_reducible refine Kd.C_drew ?_))); (case side2 => exact HC0_2.out); rintro e w18 ⟨v926, rfl, ho0, hb⟩; refine ⟨_, rfl, ?_⟩; have n0_ := Aside0.mk (Kd.R_lower ho0 (below_size (by repeat (first | (with_reducible first | exact HB.out | apply below_alloc | apply pw_below_drewN | apply below_drew1 | refine below_set ?_ GE919.out | refine below_set ?_ GE920.out) | exact HB.out)))); have n1_ := Aside0.mk (blk_below (g := gb919) (o := .cells #[.slice A0_0 l0_0.length c0_0, .int .i64 a0_1, .slice A0_2 l0_2.length c0_2, .int .i64 a0_3, .slice A0_4 l0_4.length c0_4, .int .i64 a0_5] 31 (0, 0)) (by (with_reducible repeat (first | refine blk_drewN ?_ _ | refine blk_drew ?_ | refine blk_alloc ?_ _)); exact BK919.out) hb); have n2_ := Aside0.mk (blk_below (g := gb920) (o := .cells #[.slice none 0 0, .int .i64 0] 29 (0, 0)) (by (with_reducible repeat (first | refine blk_drewN ?_ _ | refine blk_drew ?_ | refine blk_alloc ?_ _)); exact BK920.out) hb); have n3_ := Aside0.mk (below_step (by repeat (first | (with_reducible first | exact HB.out | apply below_alloc | apply pw_below_drewN | apply below_drew1 | refine below_set ?_ GE919.out | refine below_set ?_ GE920.out) | exact HB.out)) hb); clear BK919; clear BK920; clear HB; have HO927 := n0_; have BK919 := n1_; have BK920 := n2_; have HB := n3_; clear n0_ n1_ n2_ n3_; (try clear hb); (try clear hb2); (try clear hk); (try clear hi); (try clear ho0); obtain ⟨Ao19, co19, eo19⟩ := Kd.R_slice HO927.out; subst eo19; have hcz20_0 : w18.cell? ⟨gb920, 0, none⟩ = some (.slice none 0 0) := (blk_cell BK920.out 0).trans rfl; have hcz20_1 : w18.cell? ⟨gb920, 1, none⟩ = some (.int .i64 0) := (blk_cell BK920.out 1).trans rfl; have hfz20_0 := blk_frozen BK920.out 0; have hfz20_1 := blk_frozen BK920.out 1))
      refine bodyPost_ret (results_cell_row rfl _ _ gb920 29 #[.slice Ao19 t925.length co19, .int .i64 t928] (0, 0) _ rfl (by (with_reducible repeat (first | refine blk_drewN ?_ _ | refine blk_drew ?_ | refine blk_alloc ?_ _)); refine blk_put (cs := #[.slice Ao19 t925.length co19, .int .i64 0]) ?_ 1 _ rfl; (with_reducible repeat (first | refine blk_drewN ?_ _ | refine blk_drew ?_ | refine blk_alloc ?_ _)); refine blk_put (cs := #[.slice none 0 0, .int .i64 0]) ?_ 0 _ rfl; (with_reducible repeat (first | refine blk_drewN ?_ _ | refine blk_drew ?_ | refine blk_alloc ?_ _)); exact BK920.out) Try.underlying29 rfl (by kernel_rfl)) rfl ?_
      exact ⟨_, by first | rfl | (simp [errW_none, errW_some] <;> rfl) | (simp [*, errW_none, errW_some] <;> rfl), by (with_reducible repeat (first | apply Kd.R_alloc | apply Kd.R_drewN | apply Kd.R_drew)); exact Kd.R_mono (Kd.R_far (p := ⟨gb920, 1, none⟩) (Kd.R_far (p := ⟨gb920, 0, none⟩) (Kd.R_types HO927.out BK920.out (by decide)) (fun _ hk => hk.2) (.slice Ao19 t925.length co19)) (fun _ hk => hk.2) (.int .i64 t928)) (fun _ hk => trivial), by repeat (first | (with_reducible first | exact HB.out | apply below_alloc | apply pw_below_drewN | apply below_drew1 | refine below_set ?_ GE919.out | refine below_set ?_ GE920.out) | exact HB.out)⟩
    · rw [if_neg c12] at H
      have c12b0 : (a1 == 1) = false := beq_eq_false_iff_ne.mpr c12
      have c12b1 : (a1 != 1) = true := bne_iff_ne.mpr c12
      replace H := Option.bind_eq_some_iff.mp H
      obtain ⟨⟨t929, t932⟩, A210, H⟩ := H
      replace H : (some (t929, t932)) = some (r1, r2) := H
      have A21 := Aside0.mk A210
      clear A210
      simp only [Option.some.injEq, Prod.mk.injEq] at H
      obtain ⟨rfl, rfl⟩ := H
      go_enter Try.func86, Try.ntmps86
      go_wp2_with (first | ((with_reducible refine gate_dst (N := 2) rfl ?_); refine box_event ?hg (N := 2) ?hd (cs := #[.slice A0_0 l0_0.length c0_0, .int .i64 a0_1, .slice A0_2 l0_2.length c0_2, .int .i64 a0_3, .slice A0_4 l0_4.length c0_4, .int .i64 a0_5]) (t := 31) ?hr ?_; (case hd => rfl); (case hg => rfl); (case hr => first | (go_simp; done) | (go_simp; rfl)); intro gb919 hg w22 hbox hb; have n0_ := Aside0.mk (below_step (by repeat (first | (with_reducible first | exact HB.out | apply below_alloc | apply pw_below_drewN | apply below_drew1) | exact HB.out)) hb); have n1_ := Aside0.mk (hbox); have n2_ := Aside0.mk ((by rw [hg]; exact (below_size (by repeat (first | (with_reducible first | exact HB.out | apply below_alloc | apply pw_below_drewN | apply below_drew1) | exact HB.out))) : w.heap.size ≤ gb919)); have n3_ := Aside0.mk ((by rw [hg]; exact (below_size (by repeat (first | (with_reducible first | exact HB.out | apply below_alloc | apply pw_below_drewN | apply below_drew1) | exact HB.out))) : w.heap.size ≤ gb919)); clear HB; have HB := n0_; have BK919 := n1_; have GW919 := n2_; have GE919 := n3_; clear n0_ n1_ n2_ n3_; clear hb hbox hg) | ((with_reducible refine gate_dst (N := 4) rfl ?_); refine box_event ?hg (N := 4) ?hd (cs := #[.slice none 0 0, .int .i64 0]) (t := 29) ?hr ?_; (case hd => rfl); (case hg => rfl); (case hr => first | (go_simp; done) | (go_simp; rfl)); intro gb920 hg w23 hbox hb; have n0_ := Aside0.mk (blk_below (g := gb919) (o := .cells #[.slice A0_0 l0_0.length c0_0, .int .i64 a0_1, .slice A0_2 l0_2.length c0_2, .int .i64 a0_3, .slice A0_4 l0_4.length c0_4, .int .i64 a0_5] 31 (0, 0)) (by (with_reducible repeat (first | refine blk_drewN ?_ _ | refine blk_drew ?_ | refine blk_alloc ?_ _)); exact BK919.out) hb); have n1_ := Aside0.mk (below_step (by repeat (first | (with_reducible first | exact HB.out | apply below_alloc | apply pw_below_drewN | apply below_drew1 | refine below_set ?_ GE919.out) | exact HB.out)) hb); have n2_ := Aside0.mk (hbox); have n3_ := Aside0.mk ((by rw [hg]; exact (below_size (by repeat (first | (with_reducible first | exact HB.out | apply below_alloc | apply pw_below_drewN | apply below_drew1 | refine below_set ?_ GE919.out) | exact HB.out))) : w.heap.size ≤ gb920)); have n4_ := Aside0.mk ((by rw [hg]; exact (below_size (by repeat (first | (with_reducible first | exact HB.out | apply below_alloc | apply pw_below_drewN | apply below_drew1 | refine below_set ?_ GE919.out) | exact HB.out))) : w.heap.size ≤ gb920)); have n5_ := Aside0.mk ((by rw [hg]; exact Nat.ne_of_lt (blk_lt (g := gb919) (o := .cells #[.slice A0_0 l0_0.length c0_0, .int .i64 a0_1, .slice A0_2 l0_2.length c0_2, .int .i64 a0_3, .slice A0_4 l0_4.length c0_4, .int .i64 a0_5] 31 (0, 0)) (by (with_reducible repeat (first | refine blk_drewN ?_ _ | refine blk_drew ?_ | refine blk_alloc ?_ _)); exact BK919.out)) : gb919 ≠ gb920)); have n6_ := Aside0.mk ((by rw [hg]; exact Nat.ne_of_gt (blk_lt (g := gb919) (o := .cells #[.slice A0_0 l0_0.length c0_0, .int .i64 a0_1, .slice A0_2 l0_2.length c0_2, .int .i64 a0_3, .slice A0_4 l0_4.length c0_4, .int .i64 a0_5] 31 (0, 0)) (by (with_reducible repeat (first | refine blk_drewN ?_ _ | refine blk_drew ?_ | refine blk_alloc ?_ _)); exact BK919.out)) : gb920 ≠ gb919)); clear BK919; clear HB; have BK919 := n0_; have HB := n1_; have BK920 := n2_; have GW920 := n3_; have GE920 := n4_; have NB919_920 := n5_; have NB920_919 := n6_; clear n0_ n1_ n2_ n3_ n4_ n5_ n6_; clear hb hbox hg; have hnb24 := NB919_920.out; have hnc24 := NB920_919.out; have hcz25_0 : w23.cell? ⟨gb919, 0, none⟩ = some (.slice A0_0 l0_0.length c0_0) := (blk_cell BK919.out 0).trans rfl; have hcz25_1 : w23.cell? ⟨gb919, 1, none⟩ = some (.int .i64 a0_1) := (blk_cell BK919.out 1).trans rfl; have hcz25_2 : w23.cell? ⟨gb919, 2, none⟩ = some (.slice A0_2 l0_2.length c0_2) := (blk_cell BK919.out 2).trans rfl; have hcz25_3 : w23.cell? ⟨gb919, 3, none⟩ = some (.int .i64 a0_3) := (blk_cell BK919.out 3).trans rfl; have hcz25_4 : w23.cell? ⟨gb919, 4, none⟩ = some (.slice A0_4 l0_4.length c0_4) := (blk_cell BK919.out 4).trans rfl; have hcz25_5 : w23.cell? ⟨gb919, 5, none⟩ = some (.int .i64 a0_5) := (blk_cell BK919.out 5).trans rfl; have hfz25_0 := blk_frozen BK919.out 0; have hfz25_1 := blk_frozen BK919.out 1; have hfz25_2 := blk_frozen BK919.out 2; have hfz25_3 := blk_frozen BK919.out 3; have hfz25_4 := blk_frozen BK919.out 4; have hfz25_5 := blk_frozen BK919.out 5) | ((with_reducible refine gate_callee (f := 80) rfl ?_); refine goesL_ (some 17) rfl rfl Try.func80 (by kernel_rfl) rfl #[.agg #[.slice A0_4 l0_4.length c0_4, .int .i64 a0_5]] rfl (by (try simp only [List.map_toArray, List.map_cons, List.map_nil]); first | done | rfl | (simp only [List.length_drop, List.length_take]; rfl)) ?_; (with_reducible refine (spec_l1file.calls _ _ l0_4 a0_5 t929 t932 _ ?side1 ?side2 A21.out).mono ?_); (case side1 => repeat (first | exact (Kd.C_below HR0_4.out HB.out) | (with_reducible refine Kd.C_alloc ?_ _) | (with_reducible refine Kd.C_drewN ?_ _) | (with_reducible refine Kd.C_drew ?_))); (case side2 => exact HC0_4.out); rintro e w26 ⟨v930, rfl, ho0, hb⟩; refine ⟨_, rfl, ?_⟩; have n0_ := Aside0.mk (Kd.R_lower ho0 (below_size (by repeat (first | (with_reducible first | exact HB.out | apply below_alloc | apply pw_below_drewN | apply below_drew1 | refine below_set ?_ GE919.out | refine below_set ?_ GE920.out) | exact HB.out)))); have n1_ := Aside0.mk (blk_below (g := gb919) (o := .cells #[.slice A0_0 l0_0.length c0_0, .int .i64 a0_1, .slice A0_2 l0_2.length c0_2, .int .i64 a0_3, .slice A0_4 l0_4.length c0_4, .int .i64 a0_5] 31 (0, 0)) (by (with_reducible repeat (first | refine blk_drewN ?_ _ | refine blk_drew ?_ | refine blk_alloc ?_ _)); exact BK919.out) hb); have n2_ := Aside0.mk (blk_below (g := gb920) (o := .cells #[.slice none 0 0, .int .i64 0] 29 (0, 0)) (by (with_reducible repeat (first | refine blk_drewN ?_ _ | refine blk_drew ?_ | refine blk_alloc ?_ _)); exact BK920.out) hb); have n3_ := Aside0.mk (below_step (by repeat (first | (with_reducible first | exact HB.out | apply below_alloc | apply pw_below_drewN | apply below_drew1 | refine below_set ?_ GE919.out | refine below_set ?_ GE920.out) | exact HB.out)) hb); clear BK919; clear BK920; clear HB; have HO931 := n0_; have BK919 := n1_; have BK920 := n2_; have HB := n3_; clear n0_ n1_ n2_ n3_; (try clear hb); (try clear hb2); (try clear hk); (try clear hi); (try clear ho0); obtain ⟨Ao27, co27, eo27⟩ := Kd.R_slice HO931.out; subst eo27; have hcz28_0 : w26.cell? ⟨gb920, 0, none⟩ = some (.slice none 0 0) := (blk_cell BK920.out 0).trans rfl; have hcz28_1 : w26.cell? ⟨gb920, 1, none⟩ = some (.int .i64 0) := (blk_cell BK920.out 1).trans rfl; have hfz28_0 := blk_frozen BK920.out 0; have hfz28_1 := blk_frozen BK920.out 1))
      refine bodyPost_ret (results_cell_row rfl _ _ gb920 29 #[.slice Ao27 t929.length co27, .int .i64 t932] (0, 0) _ rfl (by (with_reducible repeat (first | refine blk_drewN ?_ _ | refine blk_drew ?_ | refine blk_alloc ?_ _)); refine blk_put (cs := #[.slice Ao27 t929.length co27, .int .i64 0]) ?_ 1 _ rfl; (with_reducible repeat (first | refine blk_drewN ?_ _ | refine blk_drew ?_ | refine blk_alloc ?_ _)); refine blk_put (cs := #[.slice none 0 0, .int .i64 0]) ?_ 0 _ rfl; (with_reducible repeat (first | refine blk_drewN ?_ _ | refine blk_drew ?_ | refine blk_alloc ?_ _)); exact BK920.out) Try.underlying29 rfl (by kernel_rfl)) rfl ?_
      exact ⟨_, by first | rfl | (simp [errW_none, errW_some] <;> rfl) | (simp [*, errW_none, errW_some] <;> rfl), by (with_reducible repeat (first | apply Kd.R_alloc | apply Kd.R_drewN | apply Kd.R_drew)); exact Kd.R_mono (Kd.R_far (p := ⟨gb920, 1, none⟩) (Kd.R_far (p := ⟨gb920, 0, none⟩) (Kd.R_types HO931.out BK920.out (by decide)) (fun _ hk => hk.2) (.slice Ao27 t929.length co27)) (fun _ hk => hk.2) (.int .i64 t932)) (fun _ hk => trivial), by repeat (first | (with_reducible first | exact HB.out | apply below_alloc | apply pw_below_drewN | apply below_drew1 | refine below_set ?_ GE919.out | refine below_set ?_ GE920.out) | exact HB.out)⟩

end Go.Proofs.Ytbapokpkgonjkaa.Print

/- The machine's side of the statements: what a Go function comes to, as a Lean function, and that it does so (written by this session's own program over the kit's printer; Lean checks it). -/
namespace Go.Proofs.Ytbapokpkgonjkaa.Print
open Go.RowKit Go.Proofs.YtbapokpkgonjkaaW.PrintWords Go.Proofs.YtbapokpkgonjkaaW.PrintLast Go.Proofs.YtbapokpkgonjkaaW.PrintMore
attribute [local go_sem] max2_int min2_int max_two min_two max_three min_three max_four min_four   -- for this text's walks alone
set_option linter.unusedVariables false
set_option linter.unusedSimpArgs false

/-! ### spec_l1fileOK: function 58 -/
def spec_l1fileOK.f (l0_0 : List Int) (a0_1 : Int) : Option (Bool) := if (l0_0.length : Int) ≤ 200000 then (if a0_1 ≥ 0 then (some (decide (a0_1 ≤ (l0_0.length : Int)))) else (some false)) else (some false)
set_option maxHeartbeats 8000000 in
set_option maxRecDepth 100000 in
theorem spec_l1fileOK.calls (A0_0 : Option Addr) (c0_0 : Nat) (l0_0 : List Int) (a0_1 : Int) (r : Bool) (w : World) (hr0_0 : Kd.C (Kd.int .u8) w A0_0 l0_0.length l0_0) (hc0_0 : l0_0.length ≤ c0_0) (h : spec_l1fileOK.f l0_0 a0_1 = some r) :
    Calls Try.prog 58 #[.agg #[.slice A0_0 l0_0.length c0_0, .int .i64 a0_1]] w fun e w' => e = .returned (.bool r) ∧ Below w.heap.size w w' := by
  have hu29 := Try.underlying29
  have HR0_0 := Aside0.mk hr0_0
  have HC0_0 := Aside0.mk hc0_0
  clear hr0_0 hc0_0
  have HB := Aside0.mk (Below.refl w.heap.size w)
  have H : (if (l0_0.length : Int) ≤ 200000 then (if a0_1 ≥ 0 then (some (decide (a0_1 ≤ (l0_0.length : Int)))) else (some false)) else (some false)) = some r := h
  clear h
  by_cases c2 : (l0_0.length : Int) ≤ 200000
  · rw [if_pos c2] at H
    have c2b0 : decide ((l0_0.length : Int) ≤ 200000) = true := decide_eq_true c2
    have c2b1 : decide (l0_0.length ≤ 200000) = true := decide_eq_true (by omega)
    clear c2
    by_cases c3 : a0_1 ≥ 0
    · rw [if_pos c3] at H
      have c3b0 : decide (0 ≤ a0_1) = true := decide_eq_true c3
      clear c3
      obtain rfl := Option.some.inj H
      go_enter Try.func58, Try.ntmps58
      go_wp2_with (first | ((with_reducible refine gate_dst (N := 1) rfl ?_); (try (refine gate_guard (by rfl) ?_; dsimp only)); refine box_event ?hg (N := 1) ?hd (cs := #[.slice A0_0 l0_0.length c0_0, .int .i64 a0_1]) (t := 29) ?hr ?_; (case hd => rfl); (case hg => rfl); (case hr => first | (go_simp; done) | (go_simp; rfl)); intro gb107 hg w4 hbox hb; have n0_ := Aside0.mk (below_step (by repeat (first | (with_reducible first | exact HB.out | apply below_alloc | apply pw_below_drewN | apply below_drew1) | exact HB.out)) hb); have n1_ := Aside0.mk (hbox); have n2_ := Aside0.mk ((by rw [hg]; exact (below_size (by repeat (first | (with_reducible first | exact HB.out | apply below_alloc | apply pw_below_drewN | apply below_drew1) | exact HB.out))) : w.heap.size ≤ gb107)); have n3_ := Aside0.mk ((by rw [hg]; exact (below_size (by repeat (first | (with_reducible first | exact HB.out | apply below_alloc | apply pw_below_drewN | apply below_drew1) | exact HB.out))) : w.heap.size ≤ gb107)); clear HB; have HB := n0_; have BK107 := n1_; have GW107 := n2_; have GE107 := n3_; clear n0_ n1_ n2_ n3_; clear hb hbox hg; have hcz5_0 : w4.cell? ⟨gb107, 0, none⟩ = some (.slice A0_0 l0_0.length c0_0) := (blk_cell BK107.out 0).trans rfl; have hcz5_1 : w4.cell? ⟨gb107, 1, none⟩ = some (.int .i64 a0_1) := (blk_cell BK107.out 1).trans rfl; have hfz5_0 := blk_frozen BK107.out 0; have hfz5_1 := blk_frozen BK107.out 1))
      go_ret
      exact ⟨by first | rfl | (simp [errW_none, errW_some] <;> rfl) | (simp [*, errW_none, errW_some] <;> rfl), by repeat (first | (with_reducible first | exact HB.out | apply below_alloc | apply pw_below_drewN | apply below_drew1 | refine below_set ?_ GE107.out) | exact HB.out)⟩
    · rw [if_neg c3] at H
      have c3b0 : decide (0 ≤ a0_1) = false := decide_eq_false c3
      clear c3
      obtain rfl := Option.some.inj H
      go_enter Try.func58, Try.ntmps58
      go_wp2_with (first | ((with_reducible refine gate_dst (N := 1) rfl ?_); (try (refine gate_guard (by rfl) ?_; dsimp only)); refine box_event ?hg (N := 1) ?hd (cs := #[.slice A0_0 l0_0.length c0_0, .int .i64 a0_1]) (t := 29) ?hr ?_; (case hd => rfl); (case hg => rfl); (case hr => first | (go_simp; done) | (go_simp; rfl)); intro gb107 hg w6 hbox hb; have n0_ := Aside0.mk (below_step (by repeat (first | (with_reducible first | exact HB.out | apply below_alloc | apply pw_below_drewN | apply below_drew1) | exact HB.out)) hb); have n1_ := Aside0.mk (hbox); have n2_ := Aside0.mk ((by rw [hg]; exact (below_size (by repeat (first | (with_reducible first | exact HB.out | apply below_alloc | apply pw_below_drewN | apply below_drew1) | exact HB.out))) : w.heap.size ≤ gb107)); have n3_ := Aside0.mk ((by rw [hg]; exact (below_size (by repeat (first | (with_reducible first | exact HB.out | apply below_alloc | apply pw_below_drewN | apply below_drew1) | exact HB.out))) : w.heap.size ≤ gb107)); clear HB; have HB := n0_; have BK107 := n1_; have GW107 := n2_; have GE107 := n3_; clear n0_ n1_ n2_ n3_; clear hb hbox hg; have hcz7_0 : w6.cell? ⟨gb107, 0, none⟩ = some (.slice A0_0 l0_0.length c0_0) := (blk_cell BK107.out 0).trans rfl; have hcz7_1 : w6.cell? ⟨gb107, 1, none⟩ = some (.int .i64 a0_1) := (blk_cell BK107.out 1).trans rfl; have hfz7_0 := blk_frozen BK107.out 0; have hfz7_1 := blk_frozen BK107.out 1))
      go_ret
      exact ⟨by first | rfl | (simp [errW_none, errW_some] <;> rfl) | (simp [*, errW_none, errW_some] <;> rfl), by repeat (first | (with_reducible first | exact HB.out | apply below_alloc | apply pw_below_drewN | apply below_drew1 | refine below_set ?_ GE107.out) | exact HB.out)⟩
  · rw [if_neg c2] at H
    have c2b0 : decide ((l0_0.length : Int) ≤ 200000) = false := decide_eq_false c2
    have c2b1 : decide (l0_0.length ≤ 200000) = false := decide_eq_false (by omega)
    clear c2
    obtain rfl := Option.some.inj H
    go_enter Try.func58, Try.ntmps58
    go_wp2_with (first | ((with_reducible refine gate_dst (N := 1) rfl ?_); (try (refine gate_guard (by rfl) ?_; dsimp only)); refine box_event ?hg (N := 1) ?hd (cs := #[.slice A0_0 l0_0.length c0_0, .int .i64 a0_1]) (t := 29) ?hr ?_; (case hd => rfl); (case hg => rfl); (case hr => first | (go_simp; done) | (go_simp; rfl)); intro gb107 hg w8 hbox hb; have n0_ := Aside0.mk (below_step (by repeat (first | (with_reducible first | exact HB.out | apply below_alloc | apply pw_below_drewN | apply below_drew1) | exact HB.out)) hb); have n1_ := Aside0.mk (hbox); have n2_ := Aside0.mk ((by rw [hg]; exact (below_size (by repeat (first | (with_reducible first | exact HB.out | apply below_alloc | apply pw_below_drewN | apply below_drew1) | exact HB.out))) : w.heap.size ≤ gb107)); have n3_ := Aside0.mk ((by rw [hg]; exact (below_size (by repeat (first | (with_reducible first | exact HB.out | apply below_alloc | apply pw_below_drewN | apply below_drew1) | exact HB.out))) : w.heap.size ≤ gb107)); clear HB; have HB := n0_; have BK107 := n1_; have GW107 := n2_; have GE107 := n3_; clear n0_ n1_ n2_ n3_; clear hb hbox hg; have hcz9_0 : w8.cell? ⟨gb107, 0, none⟩ = some (.slice A0_0 l0_0.length c0_0) := (blk_cell BK107.out 0).trans rfl; have hcz9_1 : w8.cell? ⟨gb107, 1, none⟩ = some (.int .i64 a0_1) := (blk_cell BK107.out 1).trans rfl; have hfz9_0 := blk_frozen BK107.out 0; have hfz9_1 := blk_frozen BK107.out 1))
    go_ret
    exact ⟨by first | rfl | (simp [errW_none, errW_some] <;> rfl) | (simp [*, errW_none, errW_some] <;> rfl), by repeat (first | (with_reducible first | exact HB.out | apply below_alloc | apply pw_below_drewN | apply below_drew1 | refine below_set ?_ GE107.out) | exact HB.out)⟩

end Go.Proofs.Ytbapokpkgonjkaa.Print
