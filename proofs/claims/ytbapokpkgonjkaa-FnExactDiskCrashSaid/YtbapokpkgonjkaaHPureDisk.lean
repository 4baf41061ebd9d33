/- Plain laws of the statements' own helpers on disks: toX copies, eqX of a thing with itself, heldX behind markX, szX. -/
import Derived.Test.YtbapokpkgonjkaaFlawstoDisk
import Derived.Test.YtbapokpkgonjkaaFlawseqDisk
import Derived.Test.YtbapokpkgonjkaaFlawsmarkDisk
import Derived.Test.YtbapokpkgonjkaaFlawsheldDisk
import Derived.Test.YtbapokpkgonjkaaFlawsszDisk
import Derived.Test.YtbapokpkgonjkaaHPureBytes
namespace Go.Proofs.Ytbapokpkgonjkaa.Print
open Go.RowKit Go.Proofs.YtbapokpkgonjkaaW.PrintWords Go.Proofs.YtbapokpkgonjkaaW.PrintLast Go.Proofs.YtbapokpkgonjkaaW.PrintMore

/-- what szDisk leaves -/
def leftB (n : Nat) (left : Int) : Int := if left - n < 0 then -1 else left - n
theorem szFile_f (l : List Int) (a left : Int) (h0 : left ≤ 1048576) (h1 : -1048576 ≤ left) (hl : l.length ≤ 140737488351232) : laws_szFile.f l a left = some (leftB l.length left) := by
  unfold laws_szFile.f
  rw [szByteS_f l left h0 h1 hl]
  simp only [Option.bind_some]
  unfold leftB
  by_cases c : left - (l.length : Int) < 0
  · rw [if_pos c, if_pos (by decide)]
  · rw [if_neg c, if_neg c]
/-- whether a disk is small enough, and what is left -/
def leftD (n0 n2 n4 : Nat) (left : Int) : Int := if leftB n0 left < 0 then -1 else if leftB n2 (leftB n0 left) < 0 then -1 else if leftB n4 (leftB n2 (leftB n0 left)) < 0 then -1 else leftB n4 (leftB n2 (leftB n0 left))
theorem leftB_range (n : Nat) (left : Int) (h0 : left ≤ 1048576) (h1 : 0 ≤ left) : leftB n left ≤ 1048576 ∧ -1 ≤ leftB n left := by unfold leftB; split <;> omega
theorem szDisk_f (l0 l2 l4 : List Int) (a1 a3 a5 : Int) (left : Int) (h0 : left ≤ 1048576) (h1 : 0 ≤ left) (g0 : l0.length ≤ 140737488351232) (g2 : l2.length ≤ 140737488351232) (g4 : l4.length ≤ 140737488351232) : laws_szDisk.f l0 a1 l2 a3 l4 a5 left = some (leftD l0.length l2.length l4.length left) := by
  unfold laws_szDisk.f leftD
  have r0 := leftB_range l0.length left h0 h1
  rw [szFile_f l0 a1 left h0 (by omega) g0]
  simp only [Option.bind_some]
  by_cases c : leftB l0.length left < 0
  · rw [if_pos c, if_pos c]
  · rw [if_neg c, if_neg c, szFile_f l2 a3 _ (by omega) (by omega) g2]
    simp only [Option.bind_some]
    have r2 := leftB_range l2.length _ r0.1 (by omega)
    by_cases c2 : leftB l2.length (leftB l0.length left) < 0
    · rw [if_pos c2, if_pos c2]
    · rw [if_neg c2, if_neg c2, szFile_f l4 a5 _ (by omega) (by omega) g4]
      simp only [Option.bind_some]
      split <;> rfl
theorem leftD_ok {n0 n2 n4 : Nat} (h : ¬ leftD n0 n2 n4 1048576 < 0) : n0 + n2 + n4 ≤ 1048576 := by
  unfold leftD leftB at h
  repeat' split at h
  all_goals omega
theorem toDisk_f (l0 l2 l4 : List Int) (a1 a3 a5 : Int) (k : Nat) (h : l0.length + l2.length + l4.length ≤ 1048576) (hk : 1048576 < k) : laws_toDisk.f k l0 a1 l2 a3 l4 a5 = some (l0, a1, l2, a3, l4, a5) := by
  unfold laws_toDisk.f laws_toFile.f
  rw [toByteS_f l0 (by omega) k (by omega), toByteS_f l2 (by omega) k (by omega), toByteS_f l4 (by omega) k (by omega)]
  rfl
theorem eqDisk_self (l0 l2 l4 : List Int) (a1 a3 a5 : Int) (k : Nat) (h0 : l0.length ≤ 2097152) (h2 : l2.length ≤ 2097152) (h4 : l4.length ≤ 2097152) (hk : 2097152 < k) : laws_eqDisk.f k l0 a1 l2 a3 l4 a5 l0 a1 l2 a3 l4 a5 = some true := by
  unfold laws_eqDisk.f laws_eqFile.f
  rw [eqByteS_self l0 (by omega) k (by omega), eqByteS_self l2 (by omega) k (by omega), eqByteS_self l4 (by omega) k (by omega)]
  simp
theorem markDisk_f (l0 l2 l4 : List Int) (a1 a3 a5 : Int) (m k : Nat) (h0 : l0.length ≤ 2097152) (h2 : l2.length ≤ 2097152) (h4 : l4.length ≤ 2097152) (hm : m ≤ 100000000) (hk : 2097152 < k) :
    laws_markDisk.f k l0 a1 l2 a3 l4 a5 (m : Int) = some (((m + l0.length + l2.length + l4.length : Nat) : Int), marksB l0.length m, marksB l2.length (m + l0.length), marksB l4.length (m + l0.length + l2.length)) := by
  unfold laws_markDisk.f laws_markFile.f
  rw [markByteS_f l0 m (by omega) k (by omega)]
  simp only [Option.bind_some]
  rw [markByteS_f l2 (m + l0.length) (by omega) k (by omega)]
  simp only [Option.bind_some]
  rw [markByteS_f l4 (m + l0.length + l2.length) (by omega) k (by omega)]
  rfl
theorem heldDisk_f (n0 n2 n4 : Nat) (a1 a3 a5 : Int) (m k : Nat) (h0 : n0 ≤ 2097152) (h2 : n2 ≤ 2097152) (h4 : n4 ≤ 2097152) (hm : m ≤ 100000000) (hk : 2097152 < k) :
    laws_heldDisk.f k (marksB n0 m) a1 (marksB n2 (m + n0)) a3 (marksB n4 (m + n0 + n2)) a5 (m : Int) = some (((m + n0 + n2 + n4 : Nat) : Int)) := by
  unfold laws_heldDisk.f laws_heldFile.f
  rw [heldByteS_f n0 m (by omega) k (by omega)]
  simp only [Option.bind_some]
  rw [if_neg (by omega)]
  simp only [Option.bind_some]
  rw [if_neg (by omega), heldByteS_f n2 (m + n0) (by omega) k (by omega)]
  simp only [Option.bind_some]
  rw [if_neg (by omega)]
  simp only [Option.bind_some]
  rw [if_neg (by omega), heldByteS_f n4 (m + n0 + n2) (by omega) k (by omega)]
  simp only [Option.bind_some]
  rw [if_neg (by omega)]
  simp only [Option.bind_some]
  rw [if_neg (by omega)]

end Go.Proofs.Ytbapokpkgonjkaa.Print
