/- The plain part of the laws on ValidDisk and DiskCrash: the program's answers are the reference's. -/
import Derived.Test.YtbapokpkgonjkaaHPureDisk
import Derived.Test.YtbapokpkgonjkaaHDiskE
import Derived.Test.YtbapokpkgonjkaaFspecDiskCrash
import Derived.Test.YtbapokpkgonjkaaFlawsFnExactValidDisk
namespace Go.Proofs.Ytbapokpkgonjkaa.Print
open Go.RowKit Go.Proofs.YtbapokpkgonjkaaW.PrintWords Go.Proofs.YtbapokpkgonjkaaW.PrintLast Go.Proofs.YtbapokpkgonjkaaW.PrintMore
set_option linter.unusedVariables false
set_option linter.unusedSimpArgs false

theorem spec_fileOK_eq (l : List Int) (a : Int) : spec_l1fileOK.f l a = some (okFile l.length a) := by
  unfold spec_l1fileOK.f okFile
  split
  · split
    · simp_all
    · simp_all
      omega
  · simp_all
    omega
theorem spec_ValidDisk_eq (l0 l2 l4 : List Int) (a1 a3 a5 : Int) : spec_ValidDisk.f l0 a1 l2 a3 l4 a5 = some (okDisk l0 a1 l2 a3 l4 a5) := by
  unfold spec_ValidDisk.f okDisk
  simp only [spec_fileOK_eq, Option.bind_some]
  cases okFile l0.length a1 <;> cases okFile l2.length a3 <;> simp
/-- The law on ValidDisk, its plain part. -/
theorem ValidDisk_pure (l0 l2 l4 : List Int) (a1 a3 a5 : Int) (g0 : l0.length ≤ 140737488351232) (g2 : l2.length ≤ 140737488351232) (g4 : l4.length ≤ 140737488351232) : laws_FnExactValidDisk.f 3000000 l0 a1 l2 a3 l4 a5 = some true := by
  unfold laws_FnExactValidDisk.f
  rw [szDisk_f l0 l2 l4 a1 a3 a5 1048576 (by omega) (by omega) g0 g2 g4, Option.bind_some]
  by_cases hlt : leftD l0.length l2.length l4.length 1048576 < 0
  · rw [if_pos hlt]
  have hle := leftD_ok hlt
  rw [if_neg hlt, toDisk_f l0 l2 l4 a1 a3 a5 3000000 hle (by omega)]
  simp only [Option.bind_some, spec_ValidDisk_eq, impl_ValidDisk.f]
  rw [eqDisk_self l0 l2 l4 a1 a3 a5 3000000 (by omega) (by omega) (by omega) (by omega)]
  simp [okDisk]

theorem kept_loop (l : List Int) (s keep : Int) (hl : l.length ≤ 200000) (h0 : 0 ≤ s) (h1 : s ≤ l.length) (hk0 : 0 ≤ keep) (d : Nat) : ∀ (k i K : Nat) (x : List Int), (K : Int) = keptLen l.length s keep → i + d = l.length → d < k → x = l.take (min i K) → spec_l1kept.l0 k keep (i : Int) l s x ((min i K : Nat) : Int) = some (l.take K, (K : Int)) := by
  induction d with
  | zero =>
    intro k i K x hK hi hk hx
    obtain ⟨k, rfl⟩ : ∃ m, k = m + 1 := ⟨k - 1, by omega⟩
    simp only [spec_l1kept.l0]
    have hKl : K ≤ l.length := by unfold keptLen mn at hK; split at hK <;> omega
    rw [if_neg (by omega), hx, show min i K = K by omega]
  | succ d ih =>
    intro k i K x hK hi hk hx
    obtain ⟨k, rfl⟩ : ∃ m, k = m + 1 := ⟨k - 1, by omega⟩
    simp only [spec_l1kept.l0]
    have hw : wrap64 ((i : Int) - s) = (i : Int) - s := by unfold wrap64; omega
    have hup : wrap64 ((i : Int) + 1) = ((i + 1 : Nat) : Int) := wrap_up i (by omega)
    have hlen : x.length = min i K := by rw [hx, List.length_take]; omega
    have hrd : i < l.length → l.take i ++ [rd l (i : Int)] = l.take (i + 1) := fun h => by
      rw [rd_nat, getD_at l i h, List.take_succ_eq_append_getElem h]
    rw [if_pos (by omega)]
    have hstep : i < K → spec_l1kept.l0 k keep ((i + 1 : Nat) : Int) l s (x ++ [rd l (i : Int)]) (wrap64 (((min i K : Nat) : Int) + 1)) = some (l.take K, (K : Int)) := fun h => by
      have e : min i K = i := by omega
      rw [e] at hx ⊢
      rw [hup, hx, hrd (by omega)]
      have := ih k (i + 1) K (l.take (i + 1)) hK (by omega) (by omega) (by rw [show min (i + 1) K = i + 1 by omega])
      rw [show min (i + 1) K = i + 1 by omega] at this
      exact this
    by_cases hs : (i : Int) < s
    · have hiK : i < K := by unfold keptLen mn at hK; split at hK <;> omega
      rw [if_pos hs, if_pos (by omega), if_pos (by omega), hup]
      exact hstep hiK
    · rw [if_neg hs, hw]
      by_cases hk' : (i : Int) - s < keep
      · have hiK : i < K := by unfold keptLen mn at hK; split at hK <;> omega
        rw [if_pos hk', if_pos (by omega), if_pos (by omega), hup]
        exact hstep hiK
      · have hiK : K ≤ i := by unfold keptLen mn at hK; split at hK <;> omega
        rw [if_neg hk', hup]
        have e : min i K = K := by omega
        rw [e] at hx ⊢
        have := ih k (i + 1) K x hK (by omega) (by omega) (by rw [show min (i + 1) K = K by omega]; exact hx)
        rw [show min (i + 1) K = K by omega] at this
        exact this
theorem kept_f (l : List Int) (s keep : Int) (hl : l.length ≤ 200000) (h0 : 0 ≤ s) (h1 : s ≤ l.length) (hk0 : 0 ≤ keep) (k : Nat) (hk : 200000 < k) : spec_l1kept.f k l s keep = some (l.take (keptLen l.length s keep).toNat, keptLen l.length s keep) := by
  unfold spec_l1kept.f
  have hK : ((keptLen l.length s keep).toNat : Int) = keptLen l.length s keep := by unfold keptLen mn; split <;> omega
  have := kept_loop l s keep hl h0 h1 hk0 l.length k 0 (keptLen l.length s keep).toNat [] hK (by omega) (by omega) (by simp)
  simp only [Nat.zero_min] at this
  rw [hK] at this
  exact this
theorem DiskCrash_same (l0 l2 l4 : List Int) (a1 a3 a5 a : Int) : ∃ (ks : Nat) (r1 : List Int) (r2 : Int) (r3 : List Int) (r4 : Int) (r5 : List Int) (r6 r7 : Int), spec_DiskCrash.f ks l0 a1 l2 a3 l4 a5 a = some (r1, r2, r3, r4, r5, r6, r7) ∧ impl_DiskCrash.f l0 a1 l2 a3 l4 a5 a = some (r1, r2, r3, r4, r5, r6, r7) ∧ r1.length ≤ 2097152 ∧ r3.length ≤ 2097152 ∧ r5.length ≤ 2097152 := by
  unfold impl_DiskCrash.f
  by_cases hv : okDisk l0 a1 l2 a3 l4 a5 = true
  · by_cases ha : 0 ≤ a
    · obtain ⟨⟨x0, x1, x2⟩, ⟨y0, y1, y2⟩, ⟨z0, z1, z2⟩⟩ := okDisk_iff hv
      rw [if_pos ⟨hv, ha⟩]
      refine ⟨300001, _, _, _, _, _, _, _, ?_, rfl, by simp; omega, by simp; omega, by simp; omega⟩
      unfold spec_DiskCrash.f
      rw [spec_ValidDisk_eq, hv, Option.bind_some, if_pos rfl]
      have : decide (a < 0) = false := decide_eq_false (by omega)
      simp only [this, spec_DiskCrash.j0]
      rw [if_neg (by decide), kept_f l0 a1 a x0 x1 x2 ha 300000 (by omega), Option.bind_some, kept_f l2 a3 a y0 y1 y2 ha 300000 (by omega), Option.bind_some, kept_f l4 a5 a z0 z1 z2 ha 300000 (by omega), Option.bind_some]
    · rw [if_neg (fun c => ha c.2)]
      refine ⟨1, _, _, _, _, _, _, _, ?_, rfl, by simp, by simp, by simp⟩
      unfold spec_DiskCrash.f
      rw [spec_ValidDisk_eq, hv, Option.bind_some, if_pos rfl]
      have : decide (a < 0) = true := decide_eq_true (by omega)
      simp only [this, spec_DiskCrash.j0, if_true]
  · rw [if_neg (fun c => hv c.1)]
    refine ⟨1, _, _, _, _, _, _, _, ?_, rfl, by simp, by simp, by simp⟩
    unfold spec_DiskCrash.f
    rw [spec_ValidDisk_eq, Option.bind_some, if_neg hv]
    simp only [spec_DiskCrash.j0, if_true]
end Go.Proofs.Ytbapokpkgonjkaa.Print
