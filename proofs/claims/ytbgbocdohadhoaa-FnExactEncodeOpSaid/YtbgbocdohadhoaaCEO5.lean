/- Texts of this session, joined by its own program. -/
import Derived.Test.YtbgbocdohadhoaaCEO2
import Derived.Test.YtbgbocdohadhoaaCEO4
import Derived.Deep.RegionHeld3
import Derived.Deep.LoopGhost
import Derived.Laws.BitsLemmas
import Derived.Deep.RegionLaw
import Derived.Test.YtbgbocdohadhoaaCEO0
import Derived.WalkKit
import Derived.Below
namespace Go.Proofs.Ytbgbocdohadhoaa.Print
open Go Go.RowKit Go.Proofs.YtbgbocdohadhoaaW.PrintWords Go.Proofs.YtbgbocdohadhoaaW.PrintLast Go.Proofs.YtbgbocdohadhoaaW.PrintMore
set_option linter.unusedVariables false
set_option linter.unusedSimpArgs false
def KCase (n : Int) (b0 b1 b2 b3 b4 ok : Bool) : Prop :=
  (n = 1 ∧ b0 = false ∧ b1 = false ∧ b2 = false ∧ b3 = false ∧ b4 = false ∧ ok = true) ∨ (n = 2 ∧ b0 = true ∧ b1 = false ∧ b2 = false ∧ b3 = false ∧ b4 = false ∧ ok = true) ∨ (n = 3 ∧ b0 = true ∧ b1 = false ∧ b2 = false ∧ b3 = false ∧ b4 = false ∧ ok = true) ∨ (n = 12 ∧ b0 = true ∧ b1 = false ∧ b2 = false ∧ b3 = false ∧ b4 = false ∧ ok = true) ∨ (n = 4 ∧ b0 = true ∧ b1 = true ∧ b2 = true ∧ b3 = true ∧ b4 = false ∧ ok = true) ∨ (n = 5 ∧ b0 = true ∧ b1 = true ∧ b2 = false ∧ b3 = false ∧ b4 = false ∧ ok = true) ∨ (n = 9 ∧ b0 = true ∧ b1 = true ∧ b2 = false ∧ b3 = false ∧ b4 = false ∧ ok = true) ∨ (n = 11 ∧ b0 = true ∧ b1 = true ∧ b2 = false ∧ b3 = false ∧ b4 = false ∧ ok = true) ∨ (n = 6 ∧ b0 = false ∧ b1 = true ∧ b2 = false ∧ b3 = false ∧ b4 = false ∧ ok = true) ∨ (n = 13 ∧ b0 = false ∧ b1 = true ∧ b2 = false ∧ b3 = false ∧ b4 = false ∧ ok = true) ∨ (n = 7 ∧ b0 = true ∧ b1 = true ∧ b2 = false ∧ b3 = true ∧ b4 = false ∧ ok = true) ∨ (n = 8 ∧ b0 = true ∧ b1 = true ∧ b2 = true ∧ b3 = false ∧ b4 = false ∧ ok = true) ∨ (n = 10 ∧ b0 = true ∧ b1 = true ∧ b2 = false ∧ b3 = false ∧ b4 = true ∧ ok = true) ∨ ((n < 1 ∨ 13 < n) ∧ b0 = false ∧ b1 = false ∧ b2 = false ∧ b3 = false ∧ b4 = false ∧ ok = false)
theorem kcase_of (n : Int) : ∃ b0 b1 b2 b3 b4 ok, KCase n b0 b1 b2 b3 b4 ok ∧ ((kindsL.find? (fun p => p.1 == n)).map (·.2)).getD (kb false false false false false) = kb b0 b1 b2 b3 b4 ∧ (kindsL.find? (fun p => p.1 == n)).isSome = ok := by
  by_cases h1 : n = 1
  · subst h1
    exact ⟨false, false, false, false, false, true, by simp [KCase], by rfl, by rfl⟩
  by_cases h2 : n = 2
  · subst h2
    exact ⟨true, false, false, false, false, true, by simp [KCase], by rfl, by rfl⟩
  by_cases h3 : n = 3
  · subst h3
    exact ⟨true, false, false, false, false, true, by simp [KCase], by rfl, by rfl⟩
  by_cases h12 : n = 12
  · subst h12
    exact ⟨true, false, false, false, false, true, by simp [KCase], by rfl, by rfl⟩
  by_cases h4 : n = 4
  · subst h4
    exact ⟨true, true, true, true, false, true, by simp [KCase], by rfl, by rfl⟩
  by_cases h5 : n = 5
  · subst h5
    exact ⟨true, true, false, false, false, true, by simp [KCase], by rfl, by rfl⟩
  by_cases h9 : n = 9
  · subst h9
    exact ⟨true, true, false, false, false, true, by simp [KCase], by rfl, by rfl⟩
  by_cases h11 : n = 11
  · subst h11
    exact ⟨true, true, false, false, false, true, by simp [KCase], by rfl, by rfl⟩
  by_cases h6 : n = 6
  · subst h6
    exact ⟨false, true, false, false, false, true, by simp [KCase], by rfl, by rfl⟩
  by_cases h13 : n = 13
  · subst h13
    exact ⟨false, true, false, false, false, true, by simp [KCase], by rfl, by rfl⟩
  by_cases h7 : n = 7
  · subst h7
    exact ⟨true, true, false, true, false, true, by simp [KCase], by rfl, by rfl⟩
  by_cases h8 : n = 8
  · subst h8
    exact ⟨true, true, true, false, false, true, by simp [KCase], by rfl, by rfl⟩
  by_cases h10 : n = 10
  · subst h10
    exact ⟨true, true, false, false, true, true, by simp [KCase], by rfl, by rfl⟩
  have hf : kindsL.find? (fun p => p.1 == n) = none := by
    simp only [kindsL, List.find?_cons, List.find?_nil]
    rw [beq_eq_false_iff_ne.2 (show (1 : Int) ≠ n from fun e => h1 e.symm), beq_eq_false_iff_ne.2 (show (2 : Int) ≠ n from fun e => h2 e.symm), beq_eq_false_iff_ne.2 (show (3 : Int) ≠ n from fun e => h3 e.symm), beq_eq_false_iff_ne.2 (show (12 : Int) ≠ n from fun e => h12 e.symm), beq_eq_false_iff_ne.2 (show (4 : Int) ≠ n from fun e => h4 e.symm), beq_eq_false_iff_ne.2 (show (5 : Int) ≠ n from fun e => h5 e.symm), beq_eq_false_iff_ne.2 (show (9 : Int) ≠ n from fun e => h9 e.symm), beq_eq_false_iff_ne.2 (show (11 : Int) ≠ n from fun e => h11 e.symm), beq_eq_false_iff_ne.2 (show (6 : Int) ≠ n from fun e => h6 e.symm), beq_eq_false_iff_ne.2 (show (13 : Int) ≠ n from fun e => h13 e.symm), beq_eq_false_iff_ne.2 (show (7 : Int) ≠ n from fun e => h7 e.symm), beq_eq_false_iff_ne.2 (show (8 : Int) ≠ n from fun e => h8 e.symm), beq_eq_false_iff_ne.2 (show (10 : Int) ≠ n from fun e => h10 e.symm)]
  exact ⟨false, false, false, false, false, false, by unfold KCase; (repeat right); exact ⟨by omega, rfl, rfl, rfl, rfl, rfl, rfl⟩, by rw [hf]; rfl, by rw [hf]; rfl⟩
theorem zero_named (w : World) : (zeroValue 60).run Try.prog w = .ok (kb false false false false false) w := by kernel_rfl
theorem cell_far_ {w : World} {g j g' i : Nat} {x : Value} (h : w.cell? ⟨g, i, none⟩ = some x) (hne : g ≠ g') (v : Value) : (w.setCell ⟨g', j, none⟩ v).cell? ⟨g, i, none⟩ = some x := by
  exact (World.cell?_setCell_far w _ _ v (fun e => hne e.symm)).trans h
set_option maxHeartbeats 4000000 in
set_option maxRecDepth 100000 in
theorem wellFormed_row (n s : Int) (A2 : Option Addr) (m2 c2 : Nat) (f : Int) (A4 : Option Addr) (m4 c4 : Nat) (e g : Int) (w : World) (b0 b1 b2 b3 b4 ok : Bool) (hcase : KCase n b0 b1 b2 b3 b4 ok) (hx : ((kindsL.find? (fun p => p.1 == n)).map (·.2)).getD (kb false false false false false) = kb b0 b1 b2 b3 b4 ∧ (kindsL.find? (fun p => p.1 == n)).isSome = ok) :
    Calls Try.prog 22 #[.agg #[.int .i64 n, .int .u64 s, .slice A2 m2 c2, .int .i64 f, .slice A4 m4 c4, .int .u64 e, .int .u64 g]] w fun r w' => r = .returned (.bool (formedB n s m2 f m4 e g)) ∧ Below w.heap.size w w' := by
  have HX := Aside0.mk hx
  have HC := Aside0.mk hcase
  clear hx hcase
  go_enter Try.func22, Try.ntmps22
  go_wp2_with fail
  have hbx := blk_new w (.cells #[.int .i64 n, .int .u64 s, .slice A2 m2 c2, .int .i64 f, .slice A4 m4 c4, .int .u64 e, .int .u64 g] 28)
  have HB := Aside0.mk (below_alloc (Below.refl w.heap.size w) (.cells #[.int .i64 n, .int .u64 s, .slice A2 m2 c2, .int .i64 f, .slice A4 m4 c4, .int .u64 e, .int .u64 g] 28))
  generalize (w.alloc (.cells #[.int .i64 n, .int .u64 s, .slice A2 m2 c2, .int .i64 f, .slice A4 m4 c4, .int .u64 e, .int .u64 g] 28)) = W at *
  have BK := Aside0.mk hbx
  clear hbx
  go_upto_region 1 with (fail)
  go_cut [3, 4] (fun v3 v4 wc => ∃ g2 : Nat, v3 = .pointer (some ⟨g2, 0, none⟩) ∧ v4 = .bool ok ∧ Aside0 (wc.heap[g2]? = some (.cells #[.bool b0, .bool b1, .bool b2, .bool b3, .bool b4] 60 (0, 0))) ∧ Aside0 (wc.heap[w.heap.size]? = some (.cells #[.int .i64 n, .int .u64 s, .slice A2 m2 c2, .int .i64 f, .slice A4 m4 c4, .int .u64 e, .int .u64 g] 28 (0, 0))) ∧ Aside0 (Below w.heap.size w wc))
  case first =>
    have z0 : W.cell? ⟨w.heap.size, 0, none⟩ = some (.int .i64 n) := (blk_cell BK.out 0).trans rfl
    have zD : W.drew.cell? ⟨w.heap.size, 0, none⟩ = some (.int .i64 n) := z0
    have zB : ∀ o, (W.alloc o).cell? ⟨w.heap.size, 0, none⟩ = some (.int .i64 n) := fun o => (blk_cell (blk_alloc BK.out o) 0).trans rfl
    have zC : ∀ o, (W.alloc o).drew.cell? ⟨w.heap.size, 0, none⟩ = some (.int .i64 n) := zB
    go_region_held3 (fun w' => w'.cell? ⟨w.heap.size, 0, none⟩ = some (.int .i64 n)) (first | (with_reducible first | exact z0 | exact zD | exact z1 | exact zA _ | exact zB _ | exact zC _) | ((with_reducible repeat refine cell_far_ ?_ (by have := blk_lt BK.out; omega) _); with_reducible exact z1)) (first | (go_at_call 38; refine (impl_kinds_calls _).mono ?_; rintro r w1 ⟨b, es, c, rfl, hm, ht, hbb, hbe⟩; have h1 : Below W.heap.size W w1 := below_step (by with_reducible repeat (first | exact Below.refl _ _ | apply below_alloc | apply below_drew1)) hbe; (try (have q : w1.heap[W.heap.size]? = some (.cells #[.bool false, .bool false, .bool false, .bool false, .bool false] 60 (0, 0)) := (by with_reducible exact blk_below (blk_drew (blk_new W _)) hbe); have q0 := blk_cell q 0; have q1 := blk_cell q 1; have q2 := blk_cell q 2; have q3 := blk_cell q 3; have q4 := blk_cell q 4; simp only [List.getElem?_toArray, List.getElem?_cons_zero, List.getElem?_cons_succ] at q0 q1 q2 q3 q4; have f0 := blk_frozen q 0; have f1 := blk_frozen q 1; have f2 := blk_frozen q 2; have f3 := blk_frozen q 3; have f4 := blk_frozen q 4; have QB := Aside0.mk q; clear q)); have HB1 := Aside0.mk (below_step HB.out h1); have BK1 := Aside0.mk (blk_below BK.out h1); clear z0 zD zB zC h1 hbe; have z1 : w1.cell? ⟨w.heap.size, 0, none⟩ = some (.int .i64 n) := (blk_cell BK1.out 0).trans rfl; have zA : ∀ o, (w1.alloc o).cell? ⟨w.heap.size, 0, none⟩ = some (.int .i64 n) := fun o => (blk_cell (blk_alloc BK1.out o) 0).trans rfl; have l1 := run_lookupI (P := Try.prog) Try.underlying62 Try.underlying3 hm ht n _ (zero_named w1); have l2 := run_lookupI (P := Try.prog) Try.underlying62 Try.underlying3 (blk_alloc hm (.cells #[.bool false, .bool false, .bool false, .bool false, .bool false] 60)) ht n _ (zero_named _); rw [HX.out.1, HX.out.2] at l1 l2; simp only [kb] at l1 l2; clear hm ht hbb))
    all_goals
      go_wp2_with fail
      go_meet
    case rel => exact ⟨_, rfl, rfl, ⟨blk_new _ _⟩, ⟨blk_alloc BK1.out _⟩, ⟨below_alloc HB1.out _⟩⟩
    case rel => exact ⟨_, rfl, rfl, ⟨blk_new _ _⟩, ⟨blk_alloc BK1.out _⟩, ⟨below_alloc HB1.out _⟩⟩
    case rel =>
      have hne : w.heap.size ≠ W.heap.size := by have := blk_lt BK.out; omega
      refine ⟨_, rfl, rfl, ⟨blk_put (blk_put (blk_put (blk_put (blk_put QB.out 0 _ rfl) 1 _ rfl) 2 _ rfl) 3 _ rfl) 4 _ rfl⟩, ⟨blk_far (blk_far (blk_far (blk_far (blk_far BK1.out hne _) hne _) hne _) hne _) hne _⟩, ⟨?_⟩⟩
      have hle : w.heap.size ≤ W.heap.size := by have := blk_lt BK.out; omega
      exact below_set (below_set (below_set (below_set (below_set HB1.out hle) hle) hle) hle) hle
  case rest =>
    obtain ⟨g2, rfl, rfl, K2, BK, HB⟩ := hcut
    have zBK0 := blk_cell BK.out 0
    have zBK1 := blk_cell BK.out 1
    have zBK2 := blk_cell BK.out 2
    have zBK3 := blk_cell BK.out 3
    have zBK4 := blk_cell BK.out 4
    have zBK5 := blk_cell BK.out 5
    have zBK6 := blk_cell BK.out 6
    have zK20 := blk_cell K2.out 0
    have zK21 := blk_cell K2.out 1
    have zK22 := blk_cell K2.out 2
    have zK23 := blk_cell K2.out 3
    have zK24 := blk_cell K2.out 4
    simp only [List.getElem?_toArray, List.getElem?_cons_zero, List.getElem?_cons_succ] at zBK0 zBK1 zBK2 zBK3 zBK4 zBK5 zBK6 zK20 zK21 zK22 zK23 zK24
    have hcase := HC.out
    clear HX HC
    unfold KCase at hcase
    rcases hcase with ⟨rfl, rfl, rfl, rfl, rfl, rfl, rfl⟩ | ⟨rfl, rfl, rfl, rfl, rfl, rfl, rfl⟩ | ⟨rfl, rfl, rfl, rfl, rfl, rfl, rfl⟩ | ⟨rfl, rfl, rfl, rfl, rfl, rfl, rfl⟩ | ⟨rfl, rfl, rfl, rfl, rfl, rfl, rfl⟩ | ⟨rfl, rfl, rfl, rfl, rfl, rfl, rfl⟩ | ⟨rfl, rfl, rfl, rfl, rfl, rfl, rfl⟩ | ⟨rfl, rfl, rfl, rfl, rfl, rfl, rfl⟩ | ⟨rfl, rfl, rfl, rfl, rfl, rfl, rfl⟩ | ⟨rfl, rfl, rfl, rfl, rfl, rfl, rfl⟩ | ⟨rfl, rfl, rfl, rfl, rfl, rfl, rfl⟩ | ⟨rfl, rfl, rfl, rfl, rfl, rfl, rfl⟩ | ⟨rfl, rfl, rfl, rfl, rfl, rfl, rfl⟩ | ⟨hn, rfl, rfl, rfl, rfl, rfl, rfl⟩
    all_goals as_aux_lemma =>
      go_wp2_with fail
      all_goals (go_ret; refine ⟨?_, HB.out⟩; first | (simp [formedB, hasS, hasP, *]; done) | (simp [formedB, hasS, hasP, *]; omega) | (simp [formedB, hasS, hasP, *]; intros; omega))
theorem impl_wellFormed_calls (n s : Int) (A2 : Option Addr) (m2 c2 : Nat) (f : Int) (A4 : Option Addr) (m4 c4 : Nat) (e g : Int) (w : World) :
    Calls Try.prog 22 #[.agg #[.int .i64 n, .int .u64 s, .slice A2 m2 c2, .int .i64 f, .slice A4 m4 c4, .int .u64 e, .int .u64 g]] w fun r w' => r = .returned (.bool (formedB n s m2 f m4 e g)) ∧ Below w.heap.size w w' := by
  obtain ⟨b0, b1, b2, b3, b4, ok, h1, h2⟩ := kcase_of n
  exact wellFormed_row n s A2 m2 c2 f A4 m4 c4 e g w b0 b1 b2 b3 b4 ok h1 h2
end Go.Proofs.Ytbgbocdohadhoaa.Print
namespace Go.Proofs.Ytbgbocdohadhoaa.Print
open Go Go.RowKit Go.Proofs.YtbgbocdohadhoaaW.PrintWords Go.Proofs.YtbgbocdohadhoaaW.PrintLast Go.Proofs.YtbgbocdohadhoaaW.PrintMore
set_option linter.unusedVariables false
set_option linter.unusedSimpArgs false
structure PK (w0 W : World) (g : Nat) (l : List Int) : Prop where
  ex : ∃ A c, W.heap[g]? = some (.cells #[.slice A l.length c] 43 (0, 0)) ∧ Kd.R (Kd.int .u8) 5 W w0.heap.size (fun _ => True) (.slice A l.length c) l
  be : Below w0.heap.size w0 W
  hg : w0.heap.size ≤ g
def KeepP (w w' : World) (g : Nat) : Prop := w.heap.size ≤ w'.heap.size ∧ ∀ b, b < w.heap.size → b ≠ g → (¬ ∃ cs, w.heap[b]? = some (.cells cs 5 (0, 0))) → w'.heap[b]? = w.heap[b]?
theorem KeepP.refl (w : World) (g : Nat) : KeepP w w g := ⟨Nat.le_refl _, fun _ _ _ _ => rfl⟩
theorem KeepP.trans {a b c : World} {g : Nat} (h : KeepP a b g) (k : KeepP b c g) : KeepP a c g :=
  ⟨Nat.le_trans h.1 k.1, fun i hi hn hu => by
    have e := h.2 i hi hn hu
    exact (k.2 i (Nat.lt_of_lt_of_le hi h.1) hn (by rw [e]; exact hu)).trans e⟩
theorem KeepP.below {w w1 w2 : World} {g : Nat} (h : KeepP w w1 g) (hb : Below w1.heap.size w1 w2) : KeepP w w2 g := h.trans ⟨hb.size, fun i hi _ _ => hb.block i hi⟩
theorem KeepP.grown {w w1 w2 : World} {g : Nat} {v : Value} (h : KeepP w w1 g) (hg : w1.grownBy w2 v.ownBlock) (hty : ∀ k, v.ownBlock = some k → ∃ cells, w1.heap[k]? = some (.cells cells 5 (0, 0))) : KeepP w w2 g :=
  h.trans ⟨hg.size, fun i hi _ hu => hg.block i hi (fun e => hu (hty i e.symm))⟩
theorem KeepP.set {w w1 : World} {g j : Nat} (h : KeepP w w1 g) (v : Value) : KeepP w (w1.setCell ⟨g, j, none⟩ v) g :=
  h.trans ⟨by simp [World.setCell], fun i hi hn _ => Below.heap_setCell w1 ⟨g, j, none⟩ v i hn⟩
theorem or_byte (y : Int) (h : 0 ≤ y) : Go.bits .or .u8 (y % 256) 128 = y % 128 + 128 := by
  have key : ∀ n : Fin 256, Go.bits .or .u8 ((n.val : Nat) : Int) 128 = ((n.val : Nat) : Int) % 128 + 128 := by decide +kernel
  have h2 := key ⟨(y % 256).toNat, by omega⟩
  simp only at h2
  rw [show (((y % 256).toNat : Nat) : Int) = y % 256 by omega] at h2
  rw [h2]
  omega
theorem LEN10 (l xs : List Int) (i : Nat) (hi : i ≤ xs.length) : (l ++ (xs.take i).flatMap varN).length + 10 ≤ l.length + 10 * (i + 1) := by
  have h : ∀ ys : List Int, (ys.flatMap varN).length ≤ 10 * ys.length := by
    intro ys
    induction ys with
    | nil => simp
    | cons y r ih =>
      rw [List.flatMap_cons, List.length_append, List.length_cons]
      have := varN_length y
      omega
  have := h (xs.take i)
  rw [List.length_append]
  rw [List.length_take] at this
  omega
set_option maxHeartbeats 4000000 in
set_option maxRecDepth 100000 in
theorem packer_numbers (w0 w : World) (g : Nat) (l : List Int) (A : Option Addr) (c : Nat) (xs : List Int) (bx : Nat) (okx : Nat → Prop) (HP : PK w0 w g l) (hx : Kd.R (Kd.int .u64) 22 w bx okx (.slice A xs.length c) xs) (hr : ∀ x ∈ xs, 0 ≤ x ∧ x < 18446744073709551616) (hl : l.length + 10 * xs.length ≤ 100000000) :
    Calls Try.prog 24 #[.pointer (some ⟨g, 0, none⟩), .slice A xs.length c] w fun e w' => e = .returned (.tuple #[]) ∧ PK w0 w' g (l ++ xs.flatMap varN) ∧ KeepP w w' g := by
  have HX := Aside0.mk hx
  have HQ := Aside0.mk HP
  have HRR := Aside0.mk hr
  have HLL := Aside0.mk hl
  have hxl : xs.length ≤ 100000000 := by omega
  clear hx HP hr hl
  go_enter Try.func24, Try.ntmps24
  go_wp2
  go_loopw [8] (fun v8 wr => ∃ i : Nat, v8 = .int .i64 i ∧ i ≤ xs.length ∧ Aside0 (PK w0 wr g (l ++ (xs.take i).flatMap varN)) ∧ Aside0 (Kd.R (Kd.int .u64) 22 wr bx okx (.slice A xs.length c) xs) ∧ Aside0 (KeepP w wr g)) (fun v8 _ => xs.length - (intOf v8).toNat)
  case atStart => exact ⟨0, rfl, by omega, by simpa using HQ, HX, ⟨KeepP.refl w g⟩⟩
  case round =>
    clear HQ HX
    obtain ⟨i, rfl, hi, HQ, HX, HK⟩ := hrel
    by_cases hlt : i < xs.length
    · obtain ⟨ga, ca, eA, gb, gl, _⟩ := Kd.R_form HX.out (by omega)
      injection eA with eA _ eC
      subst eA
      subst eC
      have x0 := (Kd.R_celln (enc := Value.int .u64) (h1 := fun _ => rfl) 0 HX.out (i : Int) (by omega) (by omega)).1
      rw [Int.toNat_natCast] at x0
      have hxi : rdOf 0 xs (i : Int) = xs[i] := by rw [show rdOf 0 xs (i : Int) = xs.getD i 0 from rfl]; simp [List.getD_eq_getElem?_getD, hlt]
      rw [hxi] at x0
      have ⟨r0, r1⟩ := HRR.out xs[i] (List.getElem_mem hlt)
      have hd1 : decide ((i : Int) < (xs.length : Int)) = true := decide_eq_true (by omega)
      have hd2 : decide (i < xs.length) = true := decide_eq_true hlt
      have HTK := Aside0.mk (show (xs.take (i + 1)).flatMap varN = (xs.take i).flatMap varN ++ varN xs[i] by rw [List.take_succ_eq_append_getElem hlt, List.flatMap_append, List.flatMap_singleton])
      generalize hxe : xs[i] = x at *
      have HXE := Aside0.mk hxe
      clear hxe hxi
      go_wp2
      obtain ⟨wo, rfl⟩ : ∃ wo : World, wo = wr := ⟨_, rfl⟩
      go_loopw [5] (fun v5 wi => ∃ (y : Int) (j : Nat) (pre : List Int), v5 = .int .u64 y ∧ 0 ≤ y ∧ y < 18446744073709551616 ∧ Aside0 (y < 128 ^ j ∧ 0 < j ∧ pre.length + j ≤ l.length + 10 * (i + 1)) ∧ Aside0 (pre ++ varB j y = l ++ (xs.take i).flatMap varN ++ varN x) ∧ Aside0 (PK w0 wi g pre) ∧ Aside0 (Kd.R (Kd.int .u64) 22 wi bx okx (.slice (some ⟨ga, 0, none⟩) xs.length c) xs) ∧ Aside0 (KeepP w wi g)) (fun v5 _ => (intOf v5).toNat)
      case atStart => exact ⟨x, 10, l ++ (xs.take i).flatMap varN, rfl, r0, r1, ⟨⟨Int.lt_trans r1 (by decide), by omega, LEN10 l xs i (by omega)⟩⟩, ⟨rfl⟩, HQ, HX, HK⟩
      case round =>
        clear HQ HX HK r0 r1 x0
        obtain ⟨y, j, pre, rfl, y0, y1, HJ, HV, HP, HX, HK⟩ := hrel
        obtain ⟨hj1, hj2, hj3⟩ := HJ.out
        have HL := Aside0.mk (show (pre.length + 1) * 1 ≤ 140737488355328 by have := HLL.out; omega)
        obtain ⟨⟨Ap, cp, hbox, hR⟩, hbe, hgg⟩ := HP.out
        have z0 := blk_cell hbox 0
        have f0 := blk_frozen hbox 0
        simp only [List.getElem?_toArray, List.getElem?_cons_zero] at z0
        have HR := Aside0.mk hR
        have HB := Aside0.mk hbe
        have hne := Kd.R_ne hR hbox (by decide)
        have HZ := Aside0.mk (show (∀ w5, wr.grownBy w5 (Value.slice Ap pre.length cp).ownBlock → w5.cell? ⟨g, 0, none⟩ = some (Value.slice Ap pre.length cp)) ∧ (∀ w5, wr.grownBy w5 (Value.slice Ap pre.length cp).ownBlock → w5.frozen? ⟨g, 0, none⟩ = false) from ⟨fun w5 hg => (blk_cell (blk_grown hbox hg hne) 0).trans rfl, fun w5 hg => blk_frozen (blk_grown hbox hg hne) 0⟩)
        have HN := Aside0.mk (And.intro hbox (And.intro hne hgg))
        clear hbox hR hbe hgg hne
        by_cases hy : 128 ≤ y
        · have t1 : decide (128 ≤ y) = true := decide_eq_true hy
          have t2 := or_byte y y0
          have HD := Aside0.mk (And.intro y0 (And.intro y1 (And.intro hy (And.intro hj1 (And.intro hj2 hj3)))))
          clear hj1 hj2 hj3 hy y1
          go_wp2_with (at_builtin; refine Kd.R_append (Kd.int .u8) (w0 := w0) w0.heap.size rfl (.tmp 18) (.tmp 22) 23 5 (.int .u8 0) 1 rfl Try.underlying23 info5 rfl (by decide) (by omega) (.slice Ap pre.length cp) pre (y % 128 + 128) [.int .u8 (y % 128 + 128)] (fun _ => True) (fun _ => False) ?eS ?eX rfl (fun _ hk => hk.elim) (fun _ _ => trivial) HR.out HB.out HB.out.size HL.out ?_; (case eS => first | rfl | simp [Act.eval, Act.put]); (case eX => first | rfl | simp [Act.eval, Act.put]); intro v1 w5 ho hb hg hat; obtain ⟨A1, c1, rfl⟩ := Kd.R_slice ho; have ho' := Aside0.mk ho; have hb' := Aside0.mk hb; have hg' := Aside0.mk hg; have y0 := HZ.out.1 w5 hg; have y1 := HZ.out.2 w5 hg; clear ho hb hg hat)
          have HPn := Aside0.mk (show PK w0 (w5.setCell ⟨g, 0, none⟩ (.slice A1 (pre ++ [y % 128 + 128]).length c1)) g (pre ++ [y % 128 + 128]) from ⟨⟨A1, c1, blk_put (blk_grown HN.out.1 hg'.out HN.out.2.1) 0 _ rfl, Kd.R_set ho'.out (blk_grown HN.out.1 hg'.out HN.out.2.1) (by decide) 0 _⟩, below_set hb'.out HN.out.2.2, HN.out.2.2⟩)
          have HXn := Aside0.mk (show Kd.R (Kd.int .u64) 22 (w5.setCell ⟨g, 0, none⟩ (.slice A1 (pre ++ [y % 128 + 128]).length c1)) bx okx (.slice (some ⟨ga, 0, none⟩) xs.length c) xs from Kd.R_set (Kd.R_over' HX.out (Kd.R_typed HR.out) (by decide) hg'.out) (blk_grown HN.out.1 hg'.out HN.out.2.1) (by decide) 0 _)
          have HKn := Aside0.mk ((HK.out.grown hg'.out (Kd.R_typed HR.out)).set (j := 0) (.slice A1 (pre ++ [y % 128 + 128]).length c1))
          have eL : (pre ++ [y % 128 + 128]).length = pre.length + 1 := by simp
          rw [eL] at HPn HXn HKn
          obtain ⟨d0, d1, d2, d3, d4, d5⟩ := HD.out
          obtain ⟨j, rfl⟩ : ∃ q, j = q + 1 := ⟨j - 1, by omega⟩
          have hj0 : 0 < j := by
            rcases Nat.eq_zero_or_pos j with rfl | h
            · simp at d3; omega
            · exact h
          have hdv : y / 128 < 128 ^ j := by
            rw [Int.ediv_lt_iff_lt_mul (by omega)]
            rw [Int.pow_succ] at d3
            exact d3
          have hvv : (pre ++ [y % 128 + 128]) ++ varB j (y / 128) = l ++ (xs.take i).flatMap varN ++ varN x := by
            rw [← HV.out, varB, if_neg (by omega), List.append_assoc]
            rfl
          go_roundw
          case rel => exact ⟨y / 128, j, pre ++ [y % 128 + 128], rfl, by omega, by omega, ⟨⟨hdv, hj0, by rw [eL]; omega⟩⟩, ⟨hvv⟩, HPn, HXn, HKn⟩
          case measure => simp [intOf]; omega
        · have t1 : decide (128 ≤ y) = false := decide_eq_false hy
          have t3 : y % 256 = y := by omega
          have HD := Aside0.mk (And.intro y0 (And.intro y1 (And.intro hy (And.intro hj1 (And.intro hj2 hj3)))))
          clear hj1 hj2 hj3 hy y1 y0
          go_wp2_with (at_builtin; refine Kd.R_append (Kd.int .u8) (w0 := w0) w0.heap.size rfl (.tmp 32) (.tmp 35) 23 5 (.int .u8 0) 1 rfl Try.underlying23 info5 rfl (by decide) (by omega) (.slice Ap pre.length cp) pre (y) [.int .u8 (y)] (fun _ => True) (fun _ => False) ?eS ?eX rfl (fun _ hk => hk.elim) (fun _ _ => trivial) HR.out HB.out HB.out.size HL.out ?_; (case eS => first | rfl | simp [Act.eval, Act.put]); (case eX => first | rfl | simp [Act.eval, Act.put]); intro v1 w5 ho hb hg hat; obtain ⟨A1, c1, rfl⟩ := Kd.R_slice ho; have ho' := Aside0.mk ho; have hb' := Aside0.mk hb; have hg' := Aside0.mk hg; have y0 := HZ.out.1 w5 hg; have y1 := HZ.out.2 w5 hg; clear ho hb hg hat)
          have HPn := Aside0.mk (show PK w0 (w5.setCell ⟨g, 0, none⟩ (.slice A1 (pre ++ [y]).length c1)) g (pre ++ [y]) from ⟨⟨A1, c1, blk_put (blk_grown HN.out.1 hg'.out HN.out.2.1) 0 _ rfl, Kd.R_set ho'.out (blk_grown HN.out.1 hg'.out HN.out.2.1) (by decide) 0 _⟩, below_set hb'.out HN.out.2.2, HN.out.2.2⟩)
          have HXn := Aside0.mk (show Kd.R (Kd.int .u64) 22 (w5.setCell ⟨g, 0, none⟩ (.slice A1 (pre ++ [y]).length c1)) bx okx (.slice (some ⟨ga, 0, none⟩) xs.length c) xs from Kd.R_set (Kd.R_over' HX.out (Kd.R_typed HR.out) (by decide) hg'.out) (blk_grown HN.out.1 hg'.out HN.out.2.1) (by decide) 0 _)
          have HKn := Aside0.mk ((HK.out.grown hg'.out (Kd.R_typed HR.out)).set (j := 0) (.slice A1 (pre ++ [y]).length c1))
          have eL : (pre ++ [y]).length = pre.length + 1 := by simp
          rw [eL] at HPn HXn HKn
          obtain ⟨d0, d1, d2, d3, d4, d5⟩ := HD.out
          obtain ⟨j, rfl⟩ : ∃ q, j = q + 1 := ⟨j - 1, by omega⟩
          have hvv : pre ++ [y] = l ++ (xs.take (i + 1)).flatMap varN := by
            rw [HTK.out, ← List.append_assoc, ← HV.out, varB, if_pos (by omega)]
          rw [hvv] at HPn
          go_roundw
          case rel => exact ⟨i + 1, by go_num, by omega, HPn, HXn, HKn⟩
          case measure => simp [intOf]; omega
    · obtain rfl : i = xs.length := by omega
      go_wp2
      go_end0
      exact ⟨rfl, by simpa using HQ.out, HK.out⟩
theorem lit1 (w : World) (x : Int) : Kd.R (Kd.int .u64) 22 (w.alloc (.cells #[.int .u64 x] 22)) w.heap.size (fun _ => True) (.slice (some ⟨w.heap.size, 0, none⟩) 1 1) [x] :=
  Kd.R_of_own (enc := Value.int .u64) (h1 := fun _ => rfl) (xs := [x]) (own_lit w w.heap.size 22 .u64 [x] (Nat.le_refl _) (by simp)) (fun _ _ => trivial)
theorem PK.open_ {w0 W : World} {g : Nat} {l : List Int} (h : PK w0 W g l) : ∃ A c, W.heap[g]? = some (.cells #[.slice A l.length c] 43 (0, 0)) ∧ Kd.R (Kd.int .u8) 5 W w0.heap.size (fun _ => True) (.slice A l.length c) l ∧ W.cell? ⟨g, 0, none⟩ = some (.slice A l.length c) ∧ W.frozen? ⟨g, 0, none⟩ = false ∧
    ∀ w5, W.grownBy w5 (Value.slice A l.length c).ownBlock → w5.heap[g]? = some (.cells #[.slice A l.length c] 43 (0, 0)) ∧ w5.cell? ⟨g, 0, none⟩ = some (.slice A l.length c) ∧ w5.frozen? ⟨g, 0, none⟩ = false := by
  obtain ⟨⟨A, c, hbox, hR⟩, hbe, hgg⟩ := h
  have hne := Kd.R_ne hR hbox (by decide)
  exact ⟨A, c, hbox, hR, (blk_cell hbox 0).trans rfl, blk_frozen hbox 0, fun w5 hg => ⟨blk_grown hbox hg hne, (blk_cell (blk_grown hbox hg hne) 0).trans rfl, blk_frozen (blk_grown hbox hg hne) 0⟩⟩
theorem PK.put {w0 W w5 : World} {g : Nat} {l l' : List Int} {A A' : Option Addr} {c c' : Nat} (h : PK w0 W g l) (h5 : w5.heap[g]? = some (.cells #[.slice A l.length c] 43 (0, 0))) (hr : Kd.R (Kd.int .u8) 5 w5 w0.heap.size (fun _ => True) (.slice A' l'.length c') l') (hb : Below w0.heap.size w0 w5) : PK w0 (w5.setCell ⟨g, 0, none⟩ (.slice A' l'.length c')) g l' :=
  ⟨⟨A', c', blk_put h5 0 _ rfl, Kd.R_set hr h5 (by decide) 0 _⟩, below_set hb h.hg, h.hg⟩
theorem PK.alloc {w0 W : World} {g : Nat} {l : List Int} (h : PK w0 W g l) (o : Obj) : PK w0 (W.alloc o) g l := by
  obtain ⟨⟨A, c, hbox, hR⟩, hbe, hgg⟩ := h
  exact ⟨⟨A, c, blk_alloc hbox o, Kd.R_alloc hR o⟩, below_alloc hbe o, hgg⟩
set_option maxHeartbeats 2000000 in
set_option maxRecDepth 100000 in
theorem packer_text (w0 w : World) (g : Nat) (l : List Int) (A : Option Addr) (c : Nat) (b : List Int) (HP : PK w0 w g l) (hb : Kd.C (Kd.int .u8) w0 A b.length b) (hc : b.length ≤ c) (hl : l.length + 10 + b.length ≤ 100000000) :
    Calls Try.prog 25 #[.pointer (some ⟨g, 0, none⟩), .slice A b.length c] w fun e w' => e = .returned (.tuple #[]) ∧ PK w0 w' g (l ++ textB b) ∧ KeepP w w' g := by
  have HQ := Aside0.mk HP
  have HC := Aside0.mk hb
  have HLL := Aside0.mk hl
  have hu : IntKind.u64.wrap (b.length : Int) = (b.length : Int) := u64_id _ (by omega) (by omega)
  clear HP hb hl
  go_enter Try.func25, Try.ntmps25
  go_wp2_with fail
  refine (packer_numbers w0 _ g l (some ⟨w.heap.size, 0, none⟩) 1 [(b.length : Int)] w.heap.size (fun _ => True) (HQ.out.alloc _) (lit1 w _) (by intro x hx; rw [List.mem_singleton.1 hx]; have := HLL.out; omega) (by have := HLL.out; simp only [List.length_singleton]; omega)).mono ?_
  rintro e w1 ⟨rfl, h1, h2⟩
  rw [List.flatMap_singleton] at h1
  obtain ⟨Ap, cp, hbox, hR, z0, f0, hgz⟩ := h1.open_
  have H1 := Aside0.mk h1
  have HR := Aside0.mk hR
  have HX := Aside0.mk hbox
  have HZ := Aside0.mk hgz
  have HK := Aside0.mk ((KeepP.refl w g).below (below_alloc (Below.refl w.heap.size w) (.cells #[.int .u64 (b.length : Int)] 22)) |>.trans h2)
  have HL := Aside0.mk (show ((l ++ varN (b.length : Int)).length + b.length) * 1 ≤ 140737488355328 by have := HLL.out; have := varN_length (b.length : Int); rw [List.length_append]; omega)
  generalize hq : l ++ varN (b.length : Int) = q at *
  have HE := Aside0.mk hq
  clear h1 h2 hbox hR hgz hq hu
  go_wp2_with (at_builtin; refine Kd.R_append_rows (Kd.int .u8) (w0 := w0) w0.heap.size rfl (.tmp 14) (.tmp 15) 23 5 (.int .u8 0) 1 rfl Try.underlying23 info5 rfl (by decide) (by omega) (.slice Ap q.length cp) q b A b.length c (fun _ => True) (fun _ => False) ?eS ?eX ?aO ?aR (fun _ _ h => h) (fun _ h => h.elim) (fun _ _ => trivial) ?aB ?aS ?aL ?_; (case aO => exact HR.out); (case aR => exact Kd.C_below HC.out H1.out.be); (case aB => exact H1.out.be); (case aS => exact H1.out.be.size); (case aL => exact HL.out); (case eS => first | rfl | simp [Act.eval, Act.put]); (case eX => first | rfl | simp [Act.eval, Act.put]); intro v1 w5 ho hb hg hat; obtain ⟨A1, c1, rfl⟩ := Kd.R_slice ho; have ho' := Aside0.mk ho; have hb' := Aside0.mk hb; have hg' := Aside0.mk hg; have y0 := (HZ.out w5 hg).2.1; have y1 := (HZ.out w5 hg).2.2; clear ho hb hg hat)
  go_end0
  have hfin := H1.out.put (HZ.out _ hg'.out).1 ho'.out hb'.out
  have hk := (HK.out.grown hg'.out (Kd.R_typed HR.out)).set (j := 0) (.slice A1 (q ++ b).length c1)
  have eT : q ++ b = l ++ textB b := by rw [← HE.out, textB, List.append_assoc]
  have eL : (q ++ b).length = q.length + b.length := List.length_append
  rw [eL] at hfin hk
  rw [← eT]
  exact ⟨rfl, hfin, hk⟩
end Go.Proofs.Ytbgbocdohadhoaa.Print
namespace Go.Proofs.Ytbgbocdohadhoaa.Print
open Go Go.RowKit Go.Proofs.YtbgbocdohadhoaaW.PrintWords Go.Proofs.YtbgbocdohadhoaaW.PrintLast Go.Proofs.YtbgbocdohadhoaaW.PrintMore
set_option linter.unusedVariables false
set_option linter.unusedSimpArgs false
def encOpF (n s : Int) (p : List Int) (f : Int) (v : List Int) (e g : Int) : List Int := if formedB n s p.length f v.length e g && journB n then encB n s p f v else []
theorem implJournaled_f (n : Int) : impl_journaled.f 10 n = some (journB n) := by
  unfold impl_journaled.f slices_Contains_int_int.f slices_Index_int_int.f journB
  by_cases h1 : n = 1
  · subst h1; decide +kernel
  by_cases h3 : n = 3
  · subst h3; decide +kernel
  by_cases h4 : n = 4
  · subst h4; decide +kernel
  by_cases h5 : n = 5
  · subst h5; decide +kernel
  by_cases h7 : n = 7
  · subst h7; decide +kernel
  by_cases h8 : n = 8
  · subst h8; decide +kernel
  by_cases h9 : n = 9
  · subst h9; decide +kernel
  have e0 : slices_Index_int_int.l0 10 [1, 3, 4, 5, 7, 8, 9] n 7 0 = some (-1) := by
    simp only [slices_Index_int_int.l0, rd, wrap64]
    simp [h1, h3, h4, h5, h7, h8, h9]
  have e1 : (([1, 3, 4, 5, 7, 8, 9] : List Int).length : Int) = 7 := rfl
  rw [e1, e0]
  simp [h1, h3, h4, h5, h7, h8, h9]
theorem KeepP.box {w w' : World} {g b t : Nat} {cs : Array Value} (h : KeepP w w' g) (hb : w.heap[b]? = some (.cells cs t (0, 0))) (hne : b ≠ g) (ht : t ≠ 5) : w'.heap[b]? = some (.cells cs t (0, 0)) :=
  (h.2 b (blk_lt hb) hne (fun ⟨cs', e⟩ => by rw [hb] at e; cases e; exact ht rfl)).trans hb
theorem grown_pre {W W1 w6 : World} {v : Value} (h : Below W.heap.size W W1) (hg : W1.grownBy w6 v.ownBlock) : W.grownBy w6 v.ownBlock := World.grownBy.trans (grown_of_below h _) hg
theorem u8_wrap (x : Int) : IntKind.u8.wrap x = x % 256 := by first | rfl | (simp [IntKind.wrap]; done) | (unfold IntKind.wrap; simp; done)
set_option maxHeartbeats 4000000 in
set_option maxRecDepth 100000 in
theorem impl_EncodeOp_calls (n s : Int) (A2 : Option Addr) (c2 : Nat) (p : List Int) (f : Int) (A4 : Option Addr) (c4 : Nat) (v : List Int) (e g : Int) (w : World) (h2 : Kd.C (Kd.int .u8) w A2 p.length p) (hc2 : p.length ≤ c2) (h4 : Kd.C (Kd.int .u8) w A4 v.length v) (hc4 : v.length ≤ c4) (hs : 0 ≤ s ∧ s < 18446744073709551616) (hp : p.length ≤ 2097152) (hv : v.length ≤ 2097152) :
    Calls Try.prog 8 #[.agg #[.int .i64 n, .int .u64 s, .slice A2 p.length c2, .int .i64 f, .slice A4 v.length c4, .int .u64 e, .int .u64 g]] w fun r w' => ∃ V : Value, r = .returned V ∧ Kd.R (Kd.int .u8) 5 w' w.heap.size (fun _ => True) V (encOpF n s p f v e g) ∧ Below w.heap.size w w' := by
  have H2 := Aside0.mk (And.intro h2 hc2)
  have H4 := Aside0.mk (And.intro h4 hc4)
  have HN := Aside0.mk (And.intro hs (And.intro hp hv))
  clear h2 hc2 h4 hc4 hs hp hv
  go_enter Try.func8, Try.ntmps8
  go_upto_region 1 with (fail)
  have hbx := blk_new w (.cells #[.int .i64 n, .int .u64 s, .slice A2 p.length c2, .int .i64 f, .slice A4 v.length c4, .int .u64 e, .int .u64 g] 28)
  have HB := Aside0.mk (below_alloc (Below.refl w.heap.size w) (.cells #[.int .i64 n, .int .u64 s, .slice A2 p.length c2, .int .i64 f, .slice A4 v.length c4, .int .u64 e, .int .u64 g] 28))
  generalize (w.alloc (.cells #[.int .i64 n, .int .u64 s, .slice A2 p.length c2, .int .i64 f, .slice A4 v.length c4, .int .u64 e, .int .u64 g] 28)) = W at *
  have BK := Aside0.mk hbx
  have z0 := blk_cell hbx 0
  have z1 := blk_cell hbx 1
  have z2 := blk_cell hbx 2
  have z3 := blk_cell hbx 3
  have z4 := blk_cell hbx 4
  have z5 := blk_cell hbx 5
  have z6 := blk_cell hbx 6
  simp only [List.getElem?_toArray, List.getElem?_cons_zero, List.getElem?_cons_succ] at z0 z1 z2 z3 z4 z5 z6
  clear hbx
  go_wp2_with fail
  refine (impl_wellFormed_calls n s A2 p.length c2 f A4 v.length c4 e g _).mono ?_
  rintro r w1 ⟨rfl, hb⟩
  have HB1 := Aside0.mk (below_step HB.out hb)
  have BK1 := Aside0.mk (blk_below BK.out hb)
  clear z0 z1 z2 z3 z4 z5 z6 HB BK hb
  have z0 := blk_cell BK1.out 0
  simp only [List.getElem?_toArray, List.getElem?_cons_zero, List.getElem?_cons_succ] at z0
  cases hf : formedB n s p.length f v.length e g with
  | false =>
    have HE := Aside0.mk (show encOpF n s p f v e g = [] by simp [encOpF, hf])
    clear hf
    go_wp2_with fail
    go_ret
    rw [HE.out]
    exact ⟨_, rfl, Kd.R_nil _ _ _ _ _, HB1.out⟩
  | true =>
    have HF := Aside0.mk hf
    clear hf
    go_wp2_with fail
    refine (impl_journaled.calls 10 n _ _ (implJournaled_f n)).mono ?_
    rintro r w2 ⟨rfl, hb⟩
    have HB := Aside0.mk (below_step HB1.out hb)
    have BK := Aside0.mk (blk_below BK1.out hb)
    clear z0 HB1 BK1 hb
    cases hj : journB n with
    | false =>
      have HE := Aside0.mk (show encOpF n s p f v e g = [] by simp [encOpF, hj])
      clear hj
      go_wp2_with fail
      go_ret
      rw [HE.out]
      exact ⟨_, rfl, Kd.R_nil _ _ _ _ _, HB.out⟩
    | true =>
      have HE := Aside0.mk (show encOpF n s p f v e g = encB n s p f v by simp [encOpF, hj, HF.out])
      clear hj HF
      have z0 := blk_cell BK.out 0
      have z1 := blk_cell BK.out 1
      have z2 := blk_cell BK.out 2
      have z3 := blk_cell BK.out 3
      have z4 := blk_cell BK.out 4
      simp only [List.getElem?_toArray, List.getElem?_cons_zero, List.getElem?_cons_succ] at z0 z1 z2 z3 z4
      go_upto_region 4 with (fail)
      have a1 := own_lit w2 w2.heap.size 5 .u8 [n % 256] (Nat.le_refl _) (by simp)
      have a2 : Kd.R (Kd.int .u8) 5 (w2.alloc (.cells #[.int .u8 (n % 256)] 5)) w2.heap.size (fun _ => True) (.slice (some ⟨w2.heap.size, 0, none⟩) 1 1) [n % 256] := Kd.R_of_own (enc := Value.int .u8) (h1 := fun _ => rfl) (xs := [n % 256]) a1 (fun _ _ => trivial)
      have a3 := blk_new (w2.alloc (.cells #[.int .u8 (n % 256)] 5)) (.cells #[.slice (some ⟨w2.heap.size, 0, none⟩) 1 1] 43)
      simp only [World.size_alloc] at a3
      have hlt := blk_lt BK.out
      have PK0 := Aside0.mk (show PK w ((w2.alloc (.cells #[.int .u8 (n % 256)] 5)).alloc (.cells #[.slice (some ⟨w2.heap.size, 0, none⟩) 1 1] 43)) (w2.heap.size + 1) [n % 256] from
        ⟨⟨_, 1, a3, Kd.R_lower (Kd.R_alloc a2 _) HB.out.size⟩, below_alloc (below_alloc HB.out _) _, by omega⟩)
      have BK0 := Aside0.mk (blk_alloc (blk_alloc BK.out (.cells #[.int .u8 (n % 256)] 5)) (.cells #[.slice (some ⟨w2.heap.size, 0, none⟩) 1 1] 43))
      have hgw : w.heap.size ≠ w2.heap.size + 1 := by omega
      generalize ((w2.alloc (.cells #[.int .u8 (n % 256)] 5)).alloc (.cells #[.slice (some ⟨w2.heap.size, 0, none⟩) 1 1] 43)) = W3 at *
      generalize w2.heap.size + 1 = gp at *
      have HG := Aside0.mk hgw
      clear a1 a2 a3 hlt z0 z1 z2 z3 z4 BK HB hgw
      have z0 := blk_cell BK0.out 0
      have z1 := blk_cell BK0.out 1
      have z2 := blk_cell BK0.out 2
      have z3 := blk_cell BK0.out 3
      have z4 := blk_cell BK0.out 4
      simp only [List.getElem?_toArray, List.getElem?_cons_zero, List.getElem?_cons_succ] at z0 z1 z2 z3 z4
      go_wp2_with fail
      refine (packer_numbers w _ gp [n % 256] (some ⟨W3.heap.size, 0, none⟩) 1 [s] W3.heap.size (fun _ => True) (PK0.out.alloc _) (lit1 W3 s) (by intro x hx; rw [List.mem_singleton.1 hx]; exact HN.out.1) (by simp)).mono ?_
      rintro r W4 ⟨rfl, h1, h2⟩
      rw [List.flatMap_singleton] at h1
      have PK1 := Aside0.mk h1
      have BK1 := Aside0.mk (h2.box (blk_alloc BK0.out _) HG.out (by decide))
      clear z0 z1 z2 z3 z4 PK0 BK0 h1 h2
      have z0 := blk_cell BK1.out 0
      have z1 := blk_cell BK1.out 1
      have z2 := blk_cell BK1.out 2
      have z3 := blk_cell BK1.out 3
      have z4 := blk_cell BK1.out 4
      simp only [List.getElem?_toArray, List.getElem?_cons_zero, List.getElem?_cons_succ] at z0 z1 z2 z3 z4
      go_wp2_with fail
      refine (packer_text w _ gp _ A2 c2 p PK1.out H2.out.1 H2.out.2 (by have := varN_length s; have := HN.out.2; simp only [List.length_append, List.length_singleton]; omega)).mono ?_
      rintro r W5 ⟨rfl, h1, h2⟩
      have PK2 := Aside0.mk h1
      have BK2 := Aside0.mk (h2.box BK1.out HG.out (by decide))
      clear z0 z1 z2 z3 z4 PK1 BK1 h1 h2
      have z0 := blk_cell BK2.out 0
      have z1 := blk_cell BK2.out 1
      have z2 := blk_cell BK2.out 2
      have z3 := blk_cell BK2.out 3
      have z4 := blk_cell BK2.out 4
      simp only [List.getElem?_toArray, List.getElem?_cons_zero, List.getElem?_cons_succ] at z0 z1 z2 z3 z4
      go_upto_region 6 with (fail)
      generalize hq : [n % 256] ++ varN s ++ textB p = q at *
      have HQ := Aside0.mk hq
      clear hq
      go_cut [] (fun wc => Aside0 (PK w wc gp (q ++ [IntKind.u8.wrap f])) ∧ Aside0 (wc.heap[w.heap.size]? = some (.cells #[.int .i64 n, .int .u64 s, .slice A2 p.length c2, .int .i64 f, .slice A4 v.length c4, .int .u64 e, .int .u64 g] 28 (0, 0))))
      case first =>
        obtain ⟨Ap, cp, hbox, hR, zp, fp, hgz⟩ := PK2.out.open_
        have HR := Aside0.mk hR
        have HZ := Aside0.mk hgz
        have HX := Aside0.mk hbox
        have HL := Aside0.mk (show (q.length + 1) * 1 ≤ 140737488355328 by rw [← HQ.out]; have := varN_length s; have := textB_length p; have := HN.out.2; simp only [List.length_append, List.length_singleton]; omega)
        have a1 := own_lit W5 W5.heap.size 5 .u8 [IntKind.u8.wrap f] (Nat.le_refl _) (by simp)
        have HW := Aside0.mk (show Kd.C (Kd.int .u8) (W5.alloc (.cells #[.int .u8 (IntKind.u8.wrap f)] 5)) (some ⟨W5.heap.size, 0, none⟩) 1 [IntKind.u8.wrap f] from (Kd.R_reads' (Kd.R_of_own (enc := Value.int .u8) (h1 := fun _ => rfl) (xs := [IntKind.u8.wrap f]) (ok := fun _ => True) a1 (fun _ _ => trivial))).2.2)
        have zq : ∀ o, (W5.alloc o).cell? ⟨gp, 0, none⟩ = some (.slice Ap q.length cp) := fun o => (blk_cell (blk_alloc hbox o) 0).trans rfl
        have zqd : ∀ o, (W5.alloc o).drew.cell? ⟨gp, 0, none⟩ = some (.slice Ap q.length cp) := zq
        have zD : W5.drew.cell? ⟨gp, 0, none⟩ = some (.slice Ap q.length cp) := zp
        have y3 : ∀ o, (W5.alloc o).cell? ⟨w.heap.size, 3, none⟩ = some (.int .i64 f) := fun o => (blk_cell (blk_alloc BK2.out o) 3).trans rfl
        have y3d : ∀ o, (W5.alloc o).drew.cell? ⟨w.heap.size, 3, none⟩ = some (.int .i64 f) := y3
        have zD3 : W5.drew.cell? ⟨w.heap.size, 3, none⟩ = some (.int .i64 f) := z3
        clear hR hgz hbox a1
        go_region_law (first | (refine Kd.R_append_rows_step (Kd.int .u8) (w0 := w) w.heap.size (by rfl) (.tmp 32) (.tmp 36) 23 5 (.int .u8 0) 1 rfl Try.underlying23 info5 rfl (by decide) (by omega) (.slice Ap q.length cp) q [IntKind.u8.wrap f] (some ⟨W5.heap.size, 0, none⟩) 1 1 (fun _ => True) (fun _ => False) (by simp [Act.eval, Act.put]) (by simp [Act.eval, Act.put]) ?aO ?aR (fun _ _ h => h) (fun _ h => h.elim) (fun _ _ => trivial) ?aB ?aS HL.out ?_; (case aO => repeat (first | exact HR.out | refine Kd.R_drew ?_ | refine Kd.R_alloc ?_ _)); (case aR => repeat (first | exact HW.out | refine Kd.C_drew ?_)); (case aB => repeat (first | exact PK2.out.be | apply below_drew1 | apply below_alloc)); (case aS => exact below_size (by repeat (first | exact PK2.out.be | apply below_drew1 | apply below_alloc))); intro v1 w6 ho hb hg hat; obtain ⟨A1, c1, rfl⟩ := Kd.R_slice ho; have hgA := HZ.out w6 (grown_pre (by repeat (first | exact Below.refl _ _ | apply below_drew1 | apply below_alloc)) hg); have ho' := Aside0.mk ho; have hb' := Aside0.mk hb; have hg' := Aside0.mk (grown_pre (W := W5) (by repeat (first | exact Below.refl _ _ | apply below_drew1 | apply below_alloc)) hg); have hx' := Aside0.mk hgA.1; have y0 := hgA.2.1; have y1 := hgA.2.2; clear ho hb hg hat hgA))
        all_goals
          go_wp2_with fail
          go_meet
        all_goals
          have hput := PK2.out.put hx'.out ho'.out hb'.out
          have eL : (q ++ [IntKind.u8.wrap f]).length = q.length + 1 := by simp
          rw [eL] at hput
          have hbx := blk_grown BK2.out hg'.out (Kd.R_ne HR.out BK2.out (by decide))
          exact ⟨⟨hput⟩, ⟨(Below.heap_setCell w6 ⟨gp, 0, none⟩ _ w.heap.size HG.out).trans hbx⟩⟩
      case rest =>
        obtain ⟨PK3, BK3⟩ := hcut
        rw [u8_wrap] at PK3
        have z4 := blk_cell BK3.out 4
        simp only [List.getElem?_toArray, List.getElem?_cons_zero, List.getElem?_cons_succ] at z4
        go_wp2_with fail
        refine (packer_text w _ gp _ A4 c4 v PK3.out H4.out.1 H4.out.2 (by rw [← HQ.out]; have := varN_length s; have := textB_length p; have := HN.out.2; simp only [List.length_append, List.length_singleton]; omega)).mono ?_
        rintro r W6 ⟨rfl, h1, h2⟩
        obtain ⟨Ap, cp, hbox, hR, z0, f0, hgz⟩ := h1.open_
        have HR := Aside0.mk hR
        have HBe := Aside0.mk h1.be
        clear h1 h2 hbox hR hgz f0 z4 PK3 BK3
        generalize hl6 : q ++ [f % 256] ++ textB v = l6 at *
        have EE := Aside0.mk (show encB n s p f v = l6 by rw [← hl6, ← HQ.out]; simp only [encB, List.append_assoc, List.cons_append, List.nil_append])
        clear hl6
        go_wp2_with fail
        go_ret
        rw [HE.out, EE.out]
        exact ⟨_, rfl, HR.out, HBe.out⟩
end Go.Proofs.Ytbgbocdohadhoaa.Print
namespace Go.Proofs.Ytbgbocdohadhoaa.Print
open Go.RowKit Go.Proofs.YtbgbocdohadhoaaW.PrintWords Go.Proofs.YtbgbocdohadhoaaW.PrintLast Go.Proofs.YtbgbocdohadhoaaW.PrintMore
set_option linter.unusedVariables false
set_option linter.unusedSimpArgs false
theorem spec_op_f (n s : Int) (p : List Int) (f : Int) (v : List Int) (e g : Int) (h0 : 0 ≤ s) (h1 : s < 18446744073709551616) (hp : p.length ≤ 2097152) (hv : v.length ≤ 2097152) (k : Nat) (hk : 10 ≤ k) : spec_EncodeOp.f k n s p f v e g = some (encOpF n s p f v e g) := by
  unfold spec_EncodeOp.f encOpF
  rw [formed_f k n s p f v e g hk, Option.bind_some, journaled_f, encodeOp_f k n s p f v e g h0 h1 (by omega) (by omega) hk]
  cases formedB n s p.length f v.length e g <;> cases journB n <;> simp
theorem encOpF_length (n s : Int) (p : List Int) (f : Int) (v : List Int) (e g : Int) : (encOpF n s p f v e g).length ≤ p.length + v.length + 32 := by
  unfold encOpF
  split
  · unfold encB
    have := varN_length s
    have := textB_length p
    have := textB_length v
    simp only [List.length_append, List.length_singleton]
    omega
  · simp
set_option maxHeartbeats 4000000 in
set_option maxRecDepth 100000 in
theorem FnExactEncodeOp_walk (n s : Int) (A2 : Option Addr) (c2 : Nat) (l2 : List Int) (f : Int) (A4 : Option Addr) (c4 : Nat) (l4 : List Int) (e g : Int) (w : World) (h2 : Kd.C (Kd.int .u8) w A2 l2.length l2) (hc2 : l2.length ≤ c2) (h4 : Kd.C (Kd.int .u8) w A4 l4.length l4) (hc4 : l4.length ≤ c4) (g2 : l2.length ≤ 140737488351232) (g4 : l4.length ≤ 140737488351232) (ha : 0 ≤ s) (ha1 : s < 18446744073709551616) :
    Calls Try.prog 3 #[.agg #[.int .i64 n, .int .u64 s, (.slice A2 l2.length c2), .int .i64 f, (.slice A4 l4.length c4), .int .u64 e, .int .u64 g]] w fun r w' => r = .returned (.bool true) ∧ Below w.heap.size w w' := by
  have R2 := Aside0.mk h2
  have R4 := Aside0.mk h4
  have HC := Aside0.mk (And.intro hc2 hc4)
  have HS := Aside0.mk (And.intro ha ha1)
  obtain ⟨r0, hz0, hz⟩ := szOp_f n s l2 f l4 e g g2 g4
  have HZ := Aside0.mk hz
  clear h2 h4 hc2 hc4 ha ha1 hz
  go_enter Try.func3, Try.ntmps3
  go_wp2_with fail
  refine (laws_szOp.calls n s A2 c2 l2 f A4 c4 l4 e g 1048576 _ _ (Kd.C_alloc R2.out _) HC.out.1 (Kd.C_alloc R4.out _) HC.out.2 hz0).mono ?_
  rintro r w1 ⟨rfl, hb⟩
  have HB := Aside0.mk (below_step (below_alloc (Below.refl w.heap.size w) _) hb)
  have X := Aside0.mk (blk_below (blk_new w (.cells #[.int .i64 n, .int .u64 s, (.slice A2 l2.length c2), .int .i64 f, (.slice A4 l4.length c4), .int .u64 e, .int .u64 g] 25)) hb)
  have s1 := hb.size
  simp only [World.size_alloc] at s1
  clear hb hz0
  by_cases hlt : r0 < 0
  case pos =>
    have hlt' : decide (r0 < 0) = true := decide_eq_true hlt
    go_wp2_with fail
    go_ret
    exact ⟨rfl, HB.out⟩
  have hle : l2.length + l4.length ≤ 1048576 := HZ.out (by omega)
  have hlt' : decide (r0 < 0) = false := decide_eq_false hlt
  have SP := Aside0.mk (spec_op_f n s l2 f l4 e g HS.out.1 HS.out.2 (by omega) (by omega) 3000000 (by omega))
  have IM := Aside0.mk (fun (B2 : Option Addr) (d2 : Nat) (B4 : Option Addr) (d4 : Nat) (W : World) (q2 : Kd.C (Kd.int .u8) W B2 l2.length l2) (q3 : l2.length ≤ d2) (q4 : Kd.C (Kd.int .u8) W B4 l4.length l4) (q5 : l4.length ≤ d4) => impl_EncodeOp_calls n s B2 d2 l2 f B4 d4 l4 e g W q2 q3 q4 q5 HS.out (by omega) (by omega))
  have hlr := encOpF_length n s l2 f l4 e g
  generalize encOpF n s l2 f l4 e g = r at SP IM hlr
  clear g2 g4 hlt
  have z1_l := blk_lt X.out
  have z1_0 := blk_cell X.out 0
  have z1_1 := blk_cell X.out 1
  have z1_2 := blk_cell X.out 2
  have z1_3 := blk_cell X.out 3
  have z1_4 := blk_cell X.out 4
  have z1_5 := blk_cell X.out 5
  have z1_6 := blk_cell X.out 6
  simp only [List.getElem?_toArray, List.getElem?_cons_zero, List.getElem?_cons_succ] at z1_0 z1_1 z1_2 z1_3 z1_4 z1_5 z1_6
  go_wp2_with fail
  refine (toOp_ok 3000000 w n s A2 c2 l2 f A4 c4 l4 e g _ HB.out (Kd.C_below R2.out HB.out) HC.out.1 (Kd.C_below R4.out HB.out) HC.out.2 (by omega) (by omega) (by omega)).mono ?_
  rintro e w2 ⟨T, tc, U, uc, rfl, hd, hb⟩
  replace X := Aside0.mk (blk_below X.out hb)
  replace HB := Aside0.mk (below_step HB.out hb)
  have s2 := hb.size
  clear hb
  clear z1_l z1_0 z1_1 z1_2 z1_3 z1_4 z1_5 z1_6
  (try simp only [World.size_alloc] at hd)
  have DT := Aside0.mk hd
  clear hd
  go_wp2_with fail
  refine (spec_EncodeOp.calls 3000000 n s T tc l2 f U uc l4 e g r _ DT.out.p.reads.1 DT.out.p.reads.2 DT.out.v.reads.1 DT.out.v.reads.2 SP.out).mono ?_
  rintro e w3 ⟨v0, rfl, o0, hb⟩
  obtain ⟨W0, W0c, rfl, hd⟩ := BK.of2 o0 HB.out
  clear o0
  clear DT
  replace X := Aside0.mk (blk_below X.out hb)
  replace HB := Aside0.mk (below_step HB.out hb)
  have s3 := hb.size
  clear hb
  (try simp only [World.size_alloc] at hd)
  have DW := Aside0.mk hd
  clear hd
  have z2_l := blk_lt X.out
  have z2_0 := blk_cell X.out 0
  have z2_1 := blk_cell X.out 1
  have z2_2 := blk_cell X.out 2
  have z2_3 := blk_cell X.out 3
  have z2_4 := blk_cell X.out 4
  have z2_5 := blk_cell X.out 5
  have z2_6 := blk_cell X.out 6
  simp only [List.getElem?_toArray, List.getElem?_cons_zero, List.getElem?_cons_succ] at z2_0 z2_1 z2_2 z2_3 z2_4 z2_5 z2_6
  go_wp2_with fail
  refine (toOp_ok 3000000 w n s A2 c2 l2 f A4 c4 l4 e g _ HB.out (Kd.C_below R2.out HB.out) HC.out.1 (Kd.C_below R4.out HB.out) HC.out.2 (by omega) (by omega) (by omega)).mono ?_
  rintro e w4 ⟨X0, xc, Y0, yc, rfl, hd, hb⟩
  replace X := Aside0.mk (blk_below X.out hb)
  replace DW := Aside0.mk (DW.out.below hb)
  replace HB := Aside0.mk (below_step HB.out hb)
  have s4 := hb.size
  clear hb
  clear z2_l z2_0 z2_1 z2_2 z2_3 z2_4 z2_5 z2_6
  (try simp only [World.size_alloc] at hd)
  have DX := Aside0.mk hd
  clear hd
  go_wp2_with fail
  have hba := below_alloc (Below.refl w4.heap.size w4) (.cells #[.int .i64 n, .int .u64 s, (.slice X0 l2.length xc), .int .i64 f, (.slice Y0 l4.length yc), .int .u64 e, .int .u64 g] 28)
  have NB := Aside0.mk (blk_new w4 (.cells #[.int .i64 n, .int .u64 s, (.slice X0 l2.length xc), .int .i64 f, (.slice Y0 l4.length yc), .int .u64 e, .int .u64 g] 28))
  refine (IM.out X0 xc Y0 yc _ (DX.out.below hba).p.reads.1 (DX.out.below hba).p.reads.2 (DX.out.below hba).v.reads.1 (DX.out.below hba).v.reads.2).mono ?_
  rintro e w5 ⟨v0, rfl, o0, hb⟩
  obtain ⟨G0, G0c, rfl, hd⟩ := BK.of2 o0 (below_step HB.out hba)
  clear o0
  replace X := Aside0.mk (blk_below (blk_below X.out hba) hb)
  replace DW := Aside0.mk ((DW.out.below hba).below hb)
  replace DX := Aside0.mk ((DX.out.below hba).below hb)
  replace HB := Aside0.mk (below_step (below_step HB.out hba) hb)
  have Z := Aside0.mk (blk_below NB.out hb)
  clear NB
  have s5 := hb.size
  simp only [World.size_alloc] at s5
  clear hb hba
  (try simp only [World.size_alloc] at hd)
  have DG := Aside0.mk hd
  clear hd
  go_wp2_with fail
  refine (eqByteS_bk 3000000 w w _ _ _ _ G0 G0c r W0 W0c _ DG.out DW.out (by omega) (by omega)).mono ?_
  rintro e w6 ⟨rfl, hb⟩
  replace X := Aside0.mk (blk_below X.out hb)
  replace Z := Aside0.mk (blk_below Z.out hb)
  replace DW := Aside0.mk (DW.out.below hb)
  replace DX := Aside0.mk (DX.out.below hb)
  replace DG := Aside0.mk (DG.out.below hb)
  replace HB := Aside0.mk (below_step HB.out hb)
  have s6 := hb.size
  clear hb
  have z3_l := blk_lt X.out
  have z3_0 := blk_cell X.out 0
  have z3_1 := blk_cell X.out 1
  have z3_2 := blk_cell X.out 2
  have z3_3 := blk_cell X.out 3
  have z3_4 := blk_cell X.out 4
  have z3_5 := blk_cell X.out 5
  have z3_6 := blk_cell X.out 6
  have z4_l := blk_lt Z.out
  have z4_0 := blk_cell Z.out 0
  have z4_1 := blk_cell Z.out 1
  have z4_2 := blk_cell Z.out 2
  have z4_3 := blk_cell Z.out 3
  have z4_4 := blk_cell Z.out 4
  have z4_5 := blk_cell Z.out 5
  have z4_6 := blk_cell Z.out 6
  simp only [List.getElem?_toArray, List.getElem?_cons_zero, List.getElem?_cons_succ] at z3_0 z3_1 z3_2 z3_3 z3_4 z3_5 z3_6 z4_0 z4_1 z4_2 z4_3 z4_4 z4_5 z4_6
  go_wp2_with fail
  go_region_held3 (fun w' => w'.cell? ⟨w.heap.size, 0, none⟩ = some (.int .i64 n) ∧ w'.cell? ⟨w.heap.size, 1, none⟩ = some (.int .u64 s) ∧ w'.cell? ⟨w.heap.size, 2, none⟩ = some ((.slice A2 l2.length c2)) ∧ w'.cell? ⟨w.heap.size, 3, none⟩ = some (.int .i64 f) ∧ w'.cell? ⟨w.heap.size, 4, none⟩ = some ((.slice A4 l4.length c4)) ∧ w'.cell? ⟨w.heap.size, 5, none⟩ = some (.int .u64 e) ∧ w'.cell? ⟨w.heap.size, 6, none⟩ = some (.int .u64 g) ∧ w'.cell? ⟨w4.heap.size, 0, none⟩ = some (.int .i64 n) ∧ w'.cell? ⟨w4.heap.size, 1, none⟩ = some (.int .u64 s) ∧ w'.cell? ⟨w4.heap.size, 2, none⟩ = some ((.slice X0 l2.length xc)) ∧ w'.cell? ⟨w4.heap.size, 3, none⟩ = some (.int .i64 f) ∧ w'.cell? ⟨w4.heap.size, 4, none⟩ = some ((.slice Y0 l4.length yc)) ∧ w'.cell? ⟨w4.heap.size, 5, none⟩ = some (.int .u64 e) ∧ w'.cell? ⟨w4.heap.size, 6, none⟩ = some (.int .u64 g)) (first | exact ⟨z3_0, z3_1, z3_2, z3_3, z3_4, z3_5, z3_6, z4_0, z4_1, z4_2, z4_3, z4_4, z4_5, z4_6⟩ | exact ⟨z5_0, z5_1, z5_2, z5_3, z5_4, z5_5, z5_6, z6_0, z6_1, z6_2, z6_3, z6_4, z6_5, z6_6⟩ | exact ⟨z7_0, z7_1, z7_2, z7_3, z7_4, z7_5, z7_6, z8_0, z8_1, z8_2, z8_3, z8_4, z8_5, z8_6⟩) (first | (go_at_call 7; refine (toOp_ok 3000000 w n s A2 c2 l2 f A4 c4 l4 e g _ (by with_reducible repeat (first | exact HB.out | apply below_drew1)) (by repeat (first | exact Kd.C_below R2.out HB.out | refine Kd.C_drew ?_)) HC.out.1 (by repeat (first | exact Kd.C_below R4.out HB.out | refine Kd.C_drew ?_)) HC.out.2 (by omega) (by omega) (by omega)).mono ?_; rintro e w7 ⟨V0, vc, V1, vd, rfl, hd, hb0⟩; have hb : Below w6.heap.size w6 w7 := (by first | exact hb0 | exact (below_drew1 (Below.refl w6.heap.size w6)).trans hb0); clear hb0; replace X := Aside0.mk (blk_below X.out hb); replace Z := Aside0.mk (blk_below Z.out hb); replace DW := Aside0.mk (DW.out.below hb); replace DX := Aside0.mk (DX.out.below hb); replace DG := Aside0.mk (DG.out.below hb); replace HB := Aside0.mk (below_step HB.out hb); have s7 := hb.size; clear hb; (try simp only [World.size_alloc] at hd); have DV := Aside0.mk hd; clear hd; clear z3_l z3_0 z3_1 z3_2 z3_3 z3_4 z3_5 z3_6 z4_l z4_0 z4_1 z4_2 z4_3 z4_4 z4_5 z4_6; have z5_l := blk_lt X.out; have z5_0 := blk_cell X.out 0; have z5_1 := blk_cell X.out 1; have z5_2 := blk_cell X.out 2; have z5_3 := blk_cell X.out 3; have z5_4 := blk_cell X.out 4; have z5_5 := blk_cell X.out 5; have z5_6 := blk_cell X.out 6; have z6_l := blk_lt Z.out; have z6_0 := blk_cell Z.out 0; have z6_1 := blk_cell Z.out 1; have z6_2 := blk_cell Z.out 2; have z6_3 := blk_cell Z.out 3; have z6_4 := blk_cell Z.out 4; have z6_5 := blk_cell Z.out 5; have z6_6 := blk_cell Z.out 6; simp only [List.getElem?_toArray, List.getElem?_cons_zero, List.getElem?_cons_succ] at z5_0 z5_1 z5_2 z5_3 z5_4 z5_5 z5_6 z6_0 z6_1 z6_2 z6_3 z6_4 z6_5 z6_6) | (go_at_call 10; refine (eqOp_ok 3000000 w w _ _ _ _ n s X0 xc l2 f Y0 yc l4 e g V0 vc V1 vd _ (by repeat (first | exact DX.out | refine OPK.below ?_ (below_drew1 (Below.refl _ _)))) (by repeat (first | exact DV.out | refine OPK.below ?_ (below_drew1 (Below.refl _ _)))) (by omega) (by omega) (by omega)).mono ?_; rintro e w8 ⟨rfl, hb0⟩; have hb : Below w7.heap.size w7 w8 := (by first | exact hb0 | exact (below_drew1 (Below.refl w7.heap.size w7)).trans hb0); clear hb0; clear DV; replace X := Aside0.mk (blk_below X.out hb); replace Z := Aside0.mk (blk_below Z.out hb); replace DW := Aside0.mk (DW.out.below hb); replace DX := Aside0.mk (DX.out.below hb); replace DG := Aside0.mk (DG.out.below hb); replace HB := Aside0.mk (below_step HB.out hb); have s8 := hb.size; clear hb; clear z5_l z5_0 z5_1 z5_2 z5_3 z5_4 z5_5 z5_6 z6_l z6_0 z6_1 z6_2 z6_3 z6_4 z6_5 z6_6; have z7_l := blk_lt X.out; have z7_0 := blk_cell X.out 0; have z7_1 := blk_cell X.out 1; have z7_2 := blk_cell X.out 2; have z7_3 := blk_cell X.out 3; have z7_4 := blk_cell X.out 4; have z7_5 := blk_cell X.out 5; have z7_6 := blk_cell X.out 6; have z8_l := blk_lt Z.out; have z8_0 := blk_cell Z.out 0; have z8_1 := blk_cell Z.out 1; have z8_2 := blk_cell Z.out 2; have z8_3 := blk_cell Z.out 3; have z8_4 := blk_cell Z.out 4; have z8_5 := blk_cell Z.out 5; have z8_6 := blk_cell Z.out 6; simp only [List.getElem?_toArray, List.getElem?_cons_zero, List.getElem?_cons_succ] at z7_0 z7_1 z7_2 z7_3 z7_4 z7_5 z7_6 z8_0 z8_1 z8_2 z8_3 z8_4 z8_5 z8_6))
  clear z7_l z7_0 z7_1 z7_2 z7_3 z7_4 z7_5 z7_6 z8_l z8_0 z8_1 z8_2 z8_3 z8_4 z8_5 z8_6
  have b4 := blk_lt Z.out
  have b7 := blk_lt X.out
  have z9_l := blk_lt Z.out
  have z9_0 := blk_cell Z.out 0
  have z9_1 := blk_cell Z.out 1
  have z9_2 := blk_cell Z.out 2
  have z9_3 := blk_cell Z.out 3
  have z9_4 := blk_cell Z.out 4
  have z9_5 := blk_cell Z.out 5
  have z9_6 := blk_cell Z.out 6
  simp only [List.getElem?_toArray, List.getElem?_cons_zero, List.getElem?_cons_succ] at z9_0 z9_1 z9_2 z9_3 z9_4 z9_5 z9_6
  go_wp2_with fail
  refine (markOp_ok 3000000 1 w _ _ n s X0 xc l2 f Y0 yc l4 e g _ HB.out DX.out (by omega) (by omega) (by omega) (by omega)).mono ?_
  rintro e w9 ⟨rfl, hd, hb, hk⟩
  replace X := Aside0.mk (blk_kept X.out hk (by intro h; omega))
  replace Z := Aside0.mk (blk_kept Z.out hk (by intro h; omega))
  replace DW := Aside0.mk (DW.out.kept hk (by intro k h1 h2 h3; omega))
  replace DG := Aside0.mk (DG.out.kept hk (by intro k h1 h2 h3; omega))
  replace HB := Aside0.mk hb
  have s9 := hk.1
  replace DX := Aside0.mk hd
  clear hb hk hd
  clear z9_l z9_0 z9_1 z9_2 z9_3 z9_4 z9_5 z9_6
  generalize hm2 : 1 + l2.length + l4.length = m2
  have hneg : decide ((m2 : Int) < 0) = false := decide_eq_false (by omega)
  clear DX Z
  go_wp2_with fail
  refine (eqByteS_bk 3000000 w w _ _ _ _ G0 G0c r W0 W0c _ DG.out DW.out (by omega) (by omega)).mono ?_
  rintro e w10 ⟨rfl, hb⟩
  replace X := Aside0.mk (blk_below X.out hb)
  replace DW := Aside0.mk (DW.out.below hb)
  replace DG := Aside0.mk (DG.out.below hb)
  replace HB := Aside0.mk (below_step HB.out hb)
  have s10 := hb.size
  clear hb
  go_wp2_with fail
  refine (markByteS_bk 3000000 1 w _ _ G0 G0c r _ HB.out DG.out (by omega) (by omega) (by omega)).mono ?_
  rintro e w11 ⟨rfl, hd, hb, hk⟩
  replace X := Aside0.mk (blk_kept X.out hk (by intro h; omega))
  replace DW := Aside0.mk (DW.out.kept hk (by intro k h1 h2 h3; omega))
  replace HB := Aside0.mk hb
  have s11 := hk.1
  replace DG := Aside0.mk hd
  clear hb hk hd
  generalize hm3 : 1 + r.length = m3
  go_wp2_with fail
  refine (heldByteS_bk 3000000 1 r.length w _ _ G0 G0c _ DG.out (by omega) (by omega) (by omega)).mono ?_
  rintro e w12 ⟨rfl, hb⟩
  replace X := Aside0.mk (blk_below X.out hb)
  replace DW := Aside0.mk (DW.out.below hb)
  replace DG := Aside0.mk (DG.out.below hb)
  replace HB := Aside0.mk (below_step HB.out hb)
  have s12 := hb.size
  clear hb
  rw [hm3]
  have hneg3 : decide ((m3 : Int) < 0) = false := decide_eq_false (by omega)
  have z10_l := blk_lt X.out
  have z10_0 := blk_cell X.out 0
  have z10_1 := blk_cell X.out 1
  have z10_2 := blk_cell X.out 2
  have z10_3 := blk_cell X.out 3
  have z10_4 := blk_cell X.out 4
  have z10_5 := blk_cell X.out 5
  have z10_6 := blk_cell X.out 6
  simp only [List.getElem?_toArray, List.getElem?_cons_zero, List.getElem?_cons_succ] at z10_0 z10_1 z10_2 z10_3 z10_4 z10_5 z10_6
  go_wp2_with fail
  refine (toOp_ok 3000000 w n s A2 c2 l2 f A4 c4 l4 e g _ HB.out (Kd.C_below R2.out HB.out) HC.out.1 (Kd.C_below R4.out HB.out) HC.out.2 (by omega) (by omega) (by omega)).mono ?_
  rintro e w13 ⟨T, tc, U, uc, rfl, hd, hb⟩
  replace X := Aside0.mk (blk_below X.out hb)
  replace DW := Aside0.mk (DW.out.below hb)
  replace DG := Aside0.mk (DG.out.below hb)
  replace HB := Aside0.mk (below_step HB.out hb)
  have s13 := hb.size
  clear hb
  clear z10_l z10_0 z10_1 z10_2 z10_3 z10_4 z10_5 z10_6
  (try simp only [World.size_alloc] at hd)
  have DT := Aside0.mk hd
  clear hd
  go_wp2_with fail
  refine (IM.out T tc U uc _ DT.out.p.reads.1 DT.out.p.reads.2 DT.out.v.reads.1 DT.out.v.reads.2).mono ?_
  rintro e w14 ⟨v0, rfl, o0, hb⟩
  obtain ⟨H0, H0c, rfl, hd⟩ := BK.of2 o0 HB.out
  clear o0
  clear DT
  replace X := Aside0.mk (blk_below X.out hb)
  replace DW := Aside0.mk (DW.out.below hb)
  replace DG := Aside0.mk (DG.out.below hb)
  replace HB := Aside0.mk (below_step HB.out hb)
  have s14 := hb.size
  clear hb
  (try simp only [World.size_alloc] at hd)
  have DH := Aside0.mk hd
  clear hd
  go_wp2_with fail
  refine (eqByteS_bk 3000000 w w _ _ _ _ H0 H0c r W0 W0c _ DH.out DW.out (by omega) (by omega)).mono ?_
  rintro e w15 ⟨rfl, hb⟩
  replace X := Aside0.mk (blk_below X.out hb)
  replace DW := Aside0.mk (DW.out.below hb)
  replace DG := Aside0.mk (DG.out.below hb)
  replace DH := Aside0.mk (DH.out.below hb)
  replace HB := Aside0.mk (below_step HB.out hb)
  have s15 := hb.size
  clear hb
  go_wp2_with fail
  refine (heldByteS_bk 3000000 1 r.length w _ _ G0 G0c _ DG.out (by omega) (by omega) (by omega)).mono ?_
  rintro e w16 ⟨rfl, hb⟩
  replace X := Aside0.mk (blk_below X.out hb)
  replace DW := Aside0.mk (DW.out.below hb)
  replace DG := Aside0.mk (DG.out.below hb)
  replace DH := Aside0.mk (DH.out.below hb)
  replace HB := Aside0.mk (below_step HB.out hb)
  have s16 := hb.size
  clear hb
  rw [hm3]
  go_wp2_with fail
  go_ret
  exact ⟨rfl, HB.out⟩
end Go.Proofs.Ytbgbocdohadhoaa.Print
namespace Go.Proofs.Ytbgbocdohadhoaa.fnExactEncodeOp
open Go.ChangeShapes Go.WideShapes Go.ChangeAt Go.RowKit Print
open Go.ChangeMaps (open_string shut_string)
open Go.Proofs.YtbgbocdohadhoaaW.PrintWords Go.Proofs.YtbgbocdohadhoaaW.PrintLast Go.Proofs.YtbgbocdohadhoaaW.PrintMore
set_option linter.unusedVariables false
theorem own : ownKnob Try.prog.godebug = none := by kernel_rfl
theorem laidOut : laidOutB Try.prog = true := by kernel_rfl
set_option maxRecDepth 100000 in
theorem lifted (os : Os) (started : os.Started) (H : Type) (enc : TypeId × Value → H) :
    ReturnsInHanded {} Try.checked os 3 .any (Rows.fnExactEncodeOpSpec.pre6 enc Try.prog Try.f3 Rows.fnExactEncodeOpRow.domain false) (Rows.fnExactEncodeOpSpec.post enc Try.prog Try.f3 false true false false) := by
  refine returnsInHanded_of_change_sized (C := Try.checked) own started (by kernel_rfl) Try.func3
    (ChangeSpec.witness6 (enc := enc) (C := Try.checked) false ⟨#[], #[.agg #[.int .i64 0, .int .u64 0, .slice none 0 0, .int .i64 0, .slice none 0 0, .int .u64 0, .int .u64 0]], []⟩ 8 (by kernel_rfl) (by kernel_rfl) (by kernel_rfl) (by kernel_rfl)) ?_
  intro W base args ds gs before hval0 hW hcnd hsz0 _
  have hsz : (DataW.weightsEach Try.prog (Try.f3.params.toList ++ Rows.fnExactEncodeOpSpec.plain.varTypes Try.prog) (ds ++ gs)).all (· ≤ reachBytes) = true := hsz0
  have hval : ∀ (j : Nat) t v, Try.f3.params[j]? = some t → args[j]? = some v → Value.okWide Try.prog W .any base t v := hval0
  have hW' := hW
  obtain ⟨p, q, hA0, hV, rfl, hfz, hnd⟩ := hW
  have hA : DataW.TrodAll enc Try.prog W 0 (fun _ => true) true Try.f3.params.toList args.toList ds p := hA0
  rw [Try.params3] at hA hval hsz
  obtain ⟨v0, vs0, d0, ds0, p0, q0, hargs, rfl, rfl, h0, r0⟩ := trodAll_cons hA
  obtain ⟨rfl, rfl, rfl⟩ := trodAll_nil r0
  obtain rfl : args = #[v0] := by cases args; simp_all
  obtain ⟨rfl, rfl⟩ := trodVars_none hV
  have k0 := h0
  have lt0 : ∀ x ∈ p0, x.block < W.heap.size := by obtain ⟨m, hm⟩ := k0; exact DataW.trod_lt m _ _ _ hm
  obtain ⟨n0, s0, A2_0, c2_0, l2_0, f0, A4_0, c4_0, l4_0, e0, g0, rfl, hd2_0, hc2_0, hd4_0, hc4_0, g2_0, g4_0, w2_0, w4_0, wn0, ws0, wf0, we0, wg0⟩ := op_open hsz (j := 0) rfl rfl (hval 0 25 v0 rfl rfl) h0
  clear hA0 hval0 hsz0 hsz
  refine (FnExactEncodeOp_walk n0 s0 A2_0 c2_0 l2_0 f0 A4_0 c4_0 l4_0 e0 g0 W hd2_0 hc2_0 hd4_0 hc4_0 g2_0 g4_0 (u64_range ws0).1 (u64_range ws0).2).mono fun e W' ⟨he, bel⟩ => ?_
  subst he
  exact ⟨_, rfl, _, _, _, [], _, [], hW', trodAll_mk1 (shut_bool Try.underlying4 _), (trodAll_cons_mk (Below.trod laidOut (by kernel_rfl) (of_decide_eq_true (by kernel_rfl)) k0 bel lt0) trodAll_mk0), rfl, bel.frame _, fun h => by cases h⟩
theorem over : Rows.fnExactEncodeOpRow.holds Try.pinned (OpenSpec.ofChange Rows.fnExactEncodeOpSpec) :=
  OpenClaim.holds_of_wide 3 Try.f3 rfl rfl rfl rfl rfl rfl rfl ⟨rfl, rfl, rfl, rfl, rfl⟩ rfl rfl rfl rfl rfl (by kernel_rfl) Try.func3 (by kernel_rfl)
    (of_decide_eq_true (by kernel_rfl)) (by unfold Func.isWrapper; first | (rw [if_pos (by decide +kernel)]; kernel_rfl) | (rw [if_neg (by decide +kernel)]; exact ⟨rfl, rfl⟩))
    (fun os started H enc _ => lifted os started H enc)
theorem proved : Rows.FnExactEncodeOpSaid := over
end Go.Proofs.Ytbgbocdohadhoaa.fnExactEncodeOp
namespace Go.Proofs.Ytbgbocdohadhoaa
theorem fnExactEncodeOp_holds : Rows.FnExactEncodeOpSaid := fnExactEncodeOp.proved
end Go.Proofs.Ytbgbocdohadhoaa
