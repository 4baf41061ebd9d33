/- Texts of this session, joined by its own program. -/
import Derived.Test.YtbapokpkgonjkaaCLG0
import Derived.Test.YtbapokpkgonjkaaCLG5
import Derived.Test.YtbapokpkgonjkaaCLG1
import Derived.Test.YtbapokpkgonjkaaCLG2
import Derived.Test.YtbapokpkgonjkaaCLG3
import Derived.WalkSpells
import Derived.Lib.Bytes
namespace Go.Proofs.Ytbapokpkgonjkaa.Print
open Go.RowKit Go.Proofs.YtbapokpkgonjkaaW.PrintWords Go.Proofs.YtbapokpkgonjkaaW.PrintLast Go.Proofs.YtbapokpkgonjkaaW.PrintMore
attribute [local go_sem] max2_int min2_int max_two min_two max_three min_three max_four min_four
set_option linter.unusedVariables false
set_option linter.unusedSimpArgs false
end Go.Proofs.Ytbapokpkgonjkaa.Print
namespace Go.Proofs.Ytbapokpkgonjkaa.Print
open Go.RowKit Go.Proofs.YtbapokpkgonjkaaW.PrintWords Go.Proofs.YtbapokpkgonjkaaW.PrintLast Go.Proofs.YtbapokpkgonjkaaW.PrintMore
set_option linter.unusedVariables false
set_option linter.unusedSimpArgs false
end Go.Proofs.Ytbapokpkgonjkaa.Print
namespace Go.Proofs.Ytbapokpkgonjkaa.Print
open Go.RowKit Go.Proofs.YtbapokpkgonjkaaW.PrintWords Go.Proofs.YtbapokpkgonjkaaW.PrintLast Go.Proofs.YtbapokpkgonjkaaW.PrintMore
attribute [local go_sem] max2_int min2_int max_two min_two max_three min_three max_four min_four
set_option linter.unusedVariables false
set_option linter.unusedSimpArgs false
end Go.Proofs.Ytbapokpkgonjkaa.Print
namespace Go.Proofs.Ytbapokpkgonjkaa.Print
open Go.RowKit Go.Proofs.YtbapokpkgonjkaaW.PrintWords Go.Proofs.YtbapokpkgonjkaaW.PrintLast Go.Proofs.YtbapokpkgonjkaaW.PrintMore
attribute [local go_sem] max2_int min2_int max_two min_two max_three min_three max_four min_four
set_option linter.unusedVariables false
set_option linter.unusedSimpArgs false
def spec_l2number.f : Nat → List Int → Option (Int)
  | 0, _ => none
  | k + 1, l0 => if (l0.length : Int) = 0 then (some 0) else (if 0 < (l0.length : Int) then (if 1 ≤ (l0.length : Int) then ((spec_l2number.f k (l0.drop 1)).bind fun t376 => (some (IntKind.u64.wrap ((IntKind.u64.wrap (rd l0 0)) + (IntKind.u64.wrap (256 * t376)))))) else (none)) else (none))
def spec_l2number.T3 : Bool × List (List Nat × List Nat) := (true, [([], []), ([0], [0]), ([1], [1]), ([2], [2]), ([], []), ([4], [4]), ([5], [5]), ([6], [6]), ([3, 7], [3, 7]), ([8, 6, 0, 1, 2, 3, 4, 5, 6, 7, 8], [8])])
def spec_l2number.B3 : List Nat := [0, 1, 3, 7, 0, 16, 48, 112, 255, 511]
theorem spec_l2number.tab3 : rtab .any (opsOf Try.f67 3) = spec_l2number.T3 := by kernel_rfl
theorem spec_l2number.bits3 : waitsOk spec_l2number.T3.2 spec_l2number.B3 = true := by kernel_rfl
set_option maxHeartbeats 8000000 in
set_option maxRecDepth 100000 in
theorem spec_l2number.calls (k : Nat) : ∀ (A0 : Option Addr) (c0 : Nat) (l0 : List Int) (r : Int) (w : World) (hr0 : Kd.C (Kd.int .u8) w A0 l0.length l0) (hc0 : l0.length ≤ c0) (h : spec_l2number.f k l0 = some r),
    Calls Try.prog 67 #[.slice A0 l0.length c0] w fun e w' => e = .returned (.int .u64 r) ∧ Below w.heap.size w w' := by
  induction k using Nat.strongRecOn with
  | _ k ih =>
  intro A0 c0 l0 r w hr0 hc0 h
  cases k with
  | zero => exact absurd h (by simp [spec_l2number.f])
  | succ k =>
  simp only [spec_l2number.f] at h
  have HR0 := Aside0.mk hr0
  have HC0 := Aside0.mk hc0
  clear hr0 hc0
  have HB := Aside0.mk (Below.refl w.heap.size w)
  have H : (if (l0.length : Int) = 0 then (some 0) else (if 0 < (l0.length : Int) then (if 1 ≤ (l0.length : Int) then ((spec_l2number.f k (l0.drop 1)).bind fun t376 => (some (IntKind.u64.wrap ((IntKind.u64.wrap (rd l0 0)) + (IntKind.u64.wrap (256 * t376)))))) else (none)) else (none))) = some r := h
  clear h
  by_cases c2 : (l0.length : Int) = 0
  · rw [if_pos c2] at H
    have c2b0 : ((l0.length : Int) == 0) = true := beq_iff_eq.mpr c2
    have c2b1 : ((l0.length : Int) != 0) = false := bne_eq_false_iff_eq.mpr c2
    clear c2
    obtain rfl := Option.some.inj H
    go_enter Try.func67, Try.ntmps67
    go_wp2
    go_ret
    exact ⟨by first | rfl | (simp [errW_none, errW_some] <;> rfl) | (simp [*, errW_none, errW_some] <;> rfl), by repeat (first | (with_reducible first | exact HB.out | apply below_alloc | apply pw_below_drewN | apply below_drew1) | exact HB.out)⟩
  · rw [if_neg c2] at H
    have c2b0 : ((l0.length : Int) == 0) = false := beq_eq_false_iff_ne.mpr c2
    have c2b1 : ((l0.length : Int) != 0) = true := bne_iff_ne.mpr c2
    have c2b2 : ¬ (l0 = []) := fun h_ => c2 (by rw [h_]; rfl)
    by_cases c3 : 0 < (l0.length : Int)
    · rw [if_pos c3] at H
      have c3b0 : decide (0 < (l0.length : Int)) = true := decide_eq_true c3
      have c3b1 : decide (0 < l0.length) = true := decide_eq_true (by omega)
      clear c3
      by_cases c4 : 1 ≤ (l0.length : Int)
      · rw [if_pos c4] at H
        have c4b0 := eq_true c4
        have c4b1 : decide (1 ≤ (l0.length : Int)) = true := decide_eq_true c4
        clear c4
        replace H := Option.bind_eq_some_iff.mp H
        obtain ⟨t376, A50, H⟩ := H
        replace H : (some (IntKind.u64.wrap ((IntKind.u64.wrap (rd l0 0)) + (IntKind.u64.wrap (256 * t376))))) = some r := H
        have A5 := Aside0.mk A50
        clear A50
        obtain rfl := Option.some.inj H
        go_enter Try.func67, Try.ntmps67
        try go_wp2
        have n0_ := Aside0.mk (below_drew1 HB.out)
        clear HB
        have HB := n0_
        clear n0_
        have p374 : 0 ≤ (0 : Int) := (by omega)
        have q374 : 0 < (l0.length : Int) := of_decide_eq_true (by first | (with_reducible assumption) | assumption)
        obtain ⟨ad374, e374, hx374_0⟩ := Kd.at_int HR0.out 0 p374 q374
        have hw374_0 := hx374_0
        (try rw [show ((0 : Int)).toNat = 0 from rfl] at hw374_0)
        (try rw [show 0 * 1 = 0 from rfl] at hw374_0)
        (try rw [Addr.add_zero'] at hw374_0)
        cases e374
        have qi374 : (0 < l0.length) = True := eq_true (by omega)
        (try rw [show ((0 : Int)).toNat = 0 from rfl] at hx374_0)
        (try rw [Addr.add_zero'] at hx374_0)
        replace hx374_0 := (HB.out.cell (World.block_lt_of_cell? w _ hx374_0)).trans hx374_0
        replace p374 := eq_true p374
        replace q374 := eq_true q374
        obtain ⟨i07, hi07, _, hsz7, _⟩ := info_parts info5
        obtain ⟨A7, hcut7, hA7, hC7⟩ := print_drop_of (P := Try.prog) (Value.int .u8) 0 22 5 .i64 Try.underlying22 hi07 hsz7 (some ad374) c0 l0 1 (by omega) (of_decide_eq_true (by first | (with_reducible assumption) | assumption)) HC0.out
        have HR375 := Aside0.mk (Kd.C_of_reads (h1 := fun _ => rfl) (hA7 _ (Kd.reads_of_C HR0.out)))
        have HC375 := Aside0.mk hC7
        clear hA7 hC7 hi07 hsz7
        refine start_ (n := 10) (S := fun w' => w'.cell? ad374 = some (.int .u8 (rd l0 0))) (ds := []) #[false, false, false, false, false, false, false, false, false, false] (by kernel_rfl) rfl rfl (((HB.out.cell (World.block_lt_of_cell? w _ hw374_0)).trans hw374_0)) (fun hHeld => ?_); refine with_tabW spec_l2number.tab3 spec_l2number.bits3 (fun HT_ HW_ => ?_)
        generalize w.drew = w6 at HB HR375 hx374_0 hHeld ⊢
        refine pure_ (i := 0) (N := some 6) (v := ?_) (a' := ?_) #[true, false, false, false, false, false, false, false, false, false] rfl rfl (any_of HT_.out (by kernel_rfl)) (fun _ _ _ h => h) (Or.inl ⟨by rfl, ?_⟩) ?_ ?_
        rotate_left
        · intro w'
          go_simp
          with_reducible rfl
        rotate_left
        · simp only [Act.put, List.setIfInBounds_toArray, List.set_cons_zero, List.set_cons_succ, i64_w, i32_w]
          rfl
        refine pure_ (i := 1) (N := some 7) (v := ?_) (a' := ?_) #[true, true, false, false, false, false, false, false, false, false] rfl rfl (any_of HT_.out (by kernel_rfl)) (fun _ _ _ h => h) (Or.inl ⟨by rfl, ?_⟩) ?_ ?_
        rotate_left
        · intro w'
          go_simp
          with_reducible rfl
        rotate_left
        · simp only [Act.put, List.setIfInBounds_toArray, List.set_cons_zero, List.set_cons_succ, i64_w, i32_w]
          rfl
        refine pure_ (i := 4) (N := some 10) (v := ?_) (a' := ?_) #[true, true, false, false, true, false, false, false, false, false] rfl rfl (any_of HT_.out (by kernel_rfl)) (fun _ _ _ h => h) (Or.inl ⟨by rfl, ?_⟩) ?_ ?_
        rotate_left
        · intro w'
          go_simp
          with_reducible rfl
        rotate_left
        · simp only [Act.put, List.setIfInBounds_toArray, List.set_cons_zero, List.set_cons_succ, i64_w, i32_w]
          rfl
        refine pure_ (i := 5) (N := some 11) (v := ?_) (a' := ?_) #[true, true, false, false, true, true, false, false, false, false] rfl rfl (any_of HT_.out (by kernel_rfl)) (fun _ _ _ h => h) (Or.inl ⟨by rfl, ?_⟩) ?_ ?_
        rotate_left
        · intro w'
          go_simp
          with_reducible rfl
        rotate_left
        · simp only [Act.put, List.setIfInBounds_toArray, List.set_cons_zero, List.set_cons_succ, i64_w, i32_w]
          rfl
        refine take_ (i := 2) (N := some 8) (v := ?_) (a' := ?_) #[true, true, true, false, true, true, false, false, false, false] rfl rfl (take_ofW HT_.out HW_.out (by kernel_rfl)) (fun _ _ _ h => h) (Or.inl ⟨by rfl, ?_⟩) hHeld ?_ ?_
        rotate_left
        · intro w' s0
          go_simp
          with_reducible rfl
        rotate_left
        · simp only [Act.put, List.setIfInBounds_toArray, List.set_cons_zero, List.set_cons_succ, i64_w, i32_w]
          rfl
        refine pure_ (i := 3) (N := some 9) (v := ?_) (a' := ?_) #[true, true, true, true, true, true, false, false, false, false] rfl rfl (any_of HT_.out (by kernel_rfl)) (fun _ _ _ h => h) (Or.inl ⟨by rfl, ?_⟩) ?_ ?_
        rotate_left
        · intro w'
          go_simp
          with_reducible rfl
        rotate_left
        · simp only [Act.put, List.setIfInBounds_toArray, List.set_cons_zero, List.set_cons_succ, i64_w, i32_w]
          rfl
        refine one_ (i := 6) (N := some 12) #[true, true, true, true, true, true, true, false, false, false] rfl rfl (one_of HT_.out (by kernel_rfl)) (by decide) (fun K hK => ?_)
        refine goes_ Try.func67 (by kernel_rfl) rfl #[.slice A7 (l0.drop 1).length (c0 - 1)] (by rfl) rfl rfl (by (try simp only [List.map_toArray, List.map_cons, List.map_nil]); first | done | (rw [show (l0.drop 1).length = (l0.length - 1) from List.length_drop] <;> rfl) | rfl | (simp only [List.length_drop, List.length_take]; rfl)) ?_
        with_reducible refine (ih k (by omega) _ _ (l0.drop 1) t376 _ ?side1 ?side2 A5.out).mono ?_
        (case side1 => repeat (first | exact (Kd.C_below HR375.out HB.out) | (with_reducible refine Kd.C_alloc ?_ _) | (with_reducible refine Kd.C_drewN ?_ _) | (with_reducible refine Kd.C_drew ?_)))
        (case side2 => exact HC375.out)
        rintro e w8 ⟨rfl, hb⟩
        refine ⟨_, rfl, ?_⟩
        have n0_ := Aside0.mk (below_step (by repeat (first | (with_reducible first | exact HB.out | apply below_alloc | apply pw_below_drewN | apply below_drew1) | exact HB.out)) hb)
        clear HB
        have HB := n0_
        clear n0_
        (try clear hb)
        (try clear hb2)
        (try clear hk)
        (try clear hi)
        refine hK.out _ _ (((HB.out.cell (World.block_lt_of_cell? w _ hw374_0)).trans hw374_0)) (fun hHeld => ?_)
        clear hK K
        refine norm_ (a' := ?_) ?_ ?_
        rotate_left
        · show Act.put _ (some 12) _ = _
          simp only [Act.put, List.setIfInBounds_toArray, List.set_cons_zero, List.set_cons_succ, i64_w, i32_w]
          rfl
        refine pure_ (i := 7) (N := some 13) (v := ?_) (a' := ?_) #[true, true, true, true, true, true, true, true, false, false] rfl rfl (any_of HT_.out (by kernel_rfl)) (fun _ _ _ h => h) (Or.inl ⟨by rfl, ?_⟩) ?_ ?_
        rotate_left
        · intro w'
          go_simp
          with_reducible rfl
        rotate_left
        · simp only [Act.put, List.setIfInBounds_toArray, List.set_cons_zero, List.set_cons_succ, i64_w, i32_w]
          rfl
        refine pure_ (i := 8) (N := some 14) (v := ?_) (a' := ?_) #[true, true, true, true, true, true, true, true, true, false] rfl rfl (any_of HT_.out (by kernel_rfl)) (fun _ _ _ h => h) (Or.inl ⟨by rfl, ?_⟩) ?_ ?_
        rotate_left
        · intro w'
          go_simp
          with_reducible rfl
        rotate_left
        · simp only [Act.put, List.setIfInBounds_toArray, List.set_cons_zero, List.set_cons_succ, i64_w, i32_w]
          rfl
        refine pure_ (i := 9) (N := some 2) (v := ?_) (a' := ?_) #[true, true, true, true, true, true, true, true, true, true] rfl rfl (any_of HT_.out (by kernel_rfl)) (fun _ _ _ h => h) (Or.inl ⟨by rfl, ?_⟩) ?_ ?_
        rotate_left
        · intro w'
          go_simp
          with_reducible rfl
        rotate_left
        · simp only [Act.put, List.setIfInBounds_toArray, List.set_cons_zero, List.set_cons_succ, i64_w, i32_w]
          rfl
        refine done_ (done_of HT_.out (by kernel_rfl)) ?_
        try go_wp2
        go_ret
        exact ⟨by first | rfl | (simp [errW_none, errW_some] <;> rfl) | (simp [*, errW_none, errW_some] <;> rfl), by repeat (first | (with_reducible first | exact HB.out | apply below_alloc | apply pw_below_drewN | apply below_drew1) | exact HB.out)⟩
      · rw [if_neg c4] at H
        exact absurd H (by simp)
    · rw [if_neg c3] at H
      exact absurd H (by simp)
end Go.Proofs.Ytbapokpkgonjkaa.Print
namespace Go.Proofs.Ytbapokpkgonjkaa.Print
open Go.RowKit Go.Proofs.YtbapokpkgonjkaaW.PrintWords Go.Proofs.YtbapokpkgonjkaaW.PrintLast Go.Proofs.YtbapokpkgonjkaaW.PrintMore
set_option linter.unusedVariables false
set_option linter.unusedSimpArgs false
theorem readsNone {α : Type} {R : α → List Value → Prop} {size : Nat} {w : World} {n : Nat} {l : List α} (h : ReadsRow R size w none n l) : l = [] := by
  rcases Nat.eq_zero_or_pos n with h0 | h0
  · exact List.eq_nil_of_length_eq_zero (by rw [h.1, h0])
  · obtain ⟨ad, e, _⟩ := h.2.2 h0
    cases e
theorem lit_empty (w : World) : Kd.R (Kd.int .u8) 5 (w.alloc (.cells #[] 5)) w.heap.size (fun _ => True) (.slice (some ⟨w.heap.size, 0, none⟩) 0 0) [] :=
  ⟨fun _ _ => trivial, [], own_lit w w.heap.size 5 .u8 [] (Nat.le_refl _) (by decide), ⟨rfl, fun j p h => by simp at h⟩⟩
def bytes_Clone.f (l0 : List Int) : Option (List Int) := if l0.length < 140737488355328 then some l0 else none
set_option maxHeartbeats 400000 in
set_option maxRecDepth 100000 in
theorem bytes_Clone.calls (A0 : Option Addr) (c0 : Nat) (l0 : List Int) (r : List Int) (w : World) (hr0 : Kd.C (Kd.int .u8) w A0 l0.length l0) (hc0 : l0.length ≤ c0) (h : bytes_Clone.f l0 = some r) :
    Calls Try.prog 71 #[.slice A0 l0.length c0] w fun e w' => ∃ v0_ : Value, e = .returned (v0_) ∧ Kd.R (Kd.int .u8) 5 w' w.heap.size (fun _ => True) v0_ r ∧ Below w.heap.size w w' := by
  unfold bytes_Clone.f at h
  split at h
  case isFalse => cases h
  rename_i hl0
  have HL := Aside0.mk hl0
  clear hl0
  obtain rfl := Option.some.inj h
  clear h
  have HR := Aside0.mk hr0
  clear hr0
  have ke : ∀ (a : Option Addr) (n c : Nat) (W : World), (binOp .eql 22 (.slice a n c) (.slice none 0 0)).run Try.prog W = .ok (.bool a.isNone) W := fun a n c W => Lib.run_eql_slice_nil W 22 5 a n c 0 0 Try.underlying22
  rcases A0 with _ | ad
  · obtain rfl := readsNone HR.out
    go_enter Try.func71, Try.ntmps71
    go_wp2_with fail
    go_ret
    exact ⟨_, rfl, Kd.R_nil _ _ _ _ _, Below.refl _ _⟩
  · go_enter Try.func71, Try.ntmps71
    go_wp2_with ((with_reducible refine gate_builtin (b := .append) (xs := #[.tmp 5, .tmp 6]) rfl ?_); at_builtin; refine Kd.R_append_rows (Kd.int .u8) (w0 := w) w.heap.size rfl (.tmp 5) (.tmp 6) 22 5 (.int .u8 0) 1 rfl Try.underlying22 info5 rfl (by decide) (by omega) (.slice (some ⟨w.heap.size, 0, none⟩) 0 0) ([] : List Int) l0 _ _ _ (fun _ => True) (fun _ => False) rfl rfl (lit_empty w) (Kd.C_alloc HR.out _) (fun _ _ h => h) (fun _ h => h.elim) (fun _ _ => trivial) (below_alloc (Below.refl _ _) _) (below_size (below_alloc (Below.refl _ _) _)) (by have := HL.out; simp only [List.length_nil]; omega) ?_; intro v1 w1 ho hb hg hat)
    go_ret
    exact ⟨_, rfl, ho, hb⟩
end Go.Proofs.Ytbapokpkgonjkaa.Print
namespace Go.Proofs.Ytbapokpkgonjkaa.Print
open Go.RowKit Go.Proofs.YtbapokpkgonjkaaW.PrintWords Go.Proofs.YtbapokpkgonjkaaW.PrintLast Go.Proofs.YtbapokpkgonjkaaW.PrintMore
set_option linter.unusedVariables false
set_option linter.unusedSimpArgs false
theorem bytesOf_inj {l m : List Int} (hl : ∀ x ∈ l, 0 ≤ x ∧ x < 256) (hm : ∀ x ∈ m, 0 ≤ x ∧ x < 256) (h : Lib.bytesOf l = Lib.bytesOf m) : l = m := by
  unfold Lib.bytesOf at h
  induction l generalizing m with
  | nil => cases m with
    | nil => rfl
    | cons y m => simp at h
  | cons x l ih => cases m with
    | nil => simp at h
    | cons y m =>
      simp only [List.map_cons, List.cons.injEq] at h
      have hx := hl x List.mem_cons_self
      have hy := hm y List.mem_cons_self
      have e : x = y := by
        have := congrArg UInt8.toNat h.1
        simp only [UInt8.toNat_ofNat'] at this
        omega
      rw [e, ih (fun z hz => hl z (List.mem_cons_of_mem _ hz)) (fun z hz => hm z (List.mem_cons_of_mem _ hz)) h.2]
theorem spec_l1copy_f (l : List Int) (h : l.length ≤ 2097152) : spec_l1copy.f l = some l := by
  unfold spec_l1copy.f
  rw [if_pos (by simp; omega)]
  simp
theorem number_f (l : List Int) : ∀ (k : Nat), l.length ≤ 8 → (∀ x ∈ l, 0 ≤ x ∧ x < 256) → l.length < k → spec_l2number.f k l = some (leN l) := by
  induction l with
  | nil =>
    intro k _ _ hk
    obtain ⟨k, rfl⟩ : ∃ m, k = m + 1 := ⟨k - 1, by omega⟩
    simp [spec_l2number.f, leN]
  | cons x l ih =>
    intro k hl hr hk
    obtain ⟨k, rfl⟩ : ∃ m, k = m + 1 := ⟨k - 1, by omega⟩
    simp only [List.length_cons] at hl hk
    have hx := hr x List.mem_cons_self
    have hr' : ∀ y ∈ l, 0 ≤ y ∧ y < 256 := fun y hy => hr y (List.mem_cons_of_mem _ hy)
    have rg := leN_range l hr'
    obtain ⟨v0, v1⟩ : 0 ≤ leN l ∧ leN l < 72057594037927936 := by
      refine ⟨rg.1, Int.lt_of_lt_of_le rg.2 ?_⟩
      have h7 : l.length ≤ 7 := by omega
      have this : 256 ^ l.length ≤ 72057594037927936 := Nat.le_trans (Nat.pow_le_pow_right (n := 256) (by decide) h7) (by decide)
      rw [show (256 : Int) ^ l.length = ((256 ^ l.length : Nat) : Int) by rw [Int.natCast_pow]; rfl]
      generalize 256 ^ l.length = z at this
      omega
    have ih' := ih k (by omega) hr' (by omega)
    clear rg hr hr' ih
    simp only [spec_l2number.f]
    rw [if_neg (by simp only [List.length_cons]; omega), if_pos (by simp only [List.length_cons]; omega), if_pos (by simp only [List.length_cons]; omega), List.drop_succ_cons, List.drop_zero, ih', Option.bind_some]
    have e0 : rd (x :: l) 0 = x := rfl
    rw [e0, u64_of x hx.1 (by omega), u64_of (256 * leN l) (by omega) (by omega), u64_of _ (by omega) (by omega)]
    rfl
end Go.Proofs.Ytbapokpkgonjkaa.Print
namespace Go.Proofs.Ytbapokpkgonjkaa.Print
open Go.RowKit Go.Proofs.YtbapokpkgonjkaaW.PrintWords Go.Proofs.YtbapokpkgonjkaaW.PrintLast Go.Proofs.YtbapokpkgonjkaaW.PrintMore
set_option linter.unusedVariables false
set_option linter.unusedSimpArgs false
def cutL (b : List Int) (lo hi : Nat) : List Int := (b.take hi).drop lo
def recN (b : List Int) (p : Nat) : Nat := (leN (cutL b p (p + 2))).toNat
def recOf (b : List Int) (p : Nat) : S45 := ⟨leN (cutL b (p + 2) (p + 10)), cutL b (p + 10) (p + 10 + recN b p)⟩
def recOk (b : List Int) (p : Nat) : Bool := decide (p + 14 ≤ b.length) && (decide (recN b p ≤ 1000) && (decide (p + 14 + recN b p ≤ b.length) && decide (recB (recOf b p).f0 (recOf b p).f1 = cutL b p (p + 14 + recN b p))))
def goesOn (out : List S45) (r : S45) : Bool := match out.getLast? with
  | none => true
  | some x => !decide (x.f0 = 18446744073709551615) && decide (r.f0 = x.f0 + 1)
def logL : Nat → List Int → Nat → List S45 → List S45 × Nat
  | 0, _, p, out => (out, p)
  | k + 1, b, p, out => if recOk b p && goesOn out (recOf b p) then logL k b (p + (14 + recN b p)) (out ++ [recOf b p]) else (out, p)
def logF (b : List Int) : List S45 × Nat := logL (b.length + 1) b 0 []
theorem recOk_room {b : List Int} {p : Nat} (h : recOk b p = true) : p + 14 + recN b p ≤ b.length := by
  simp only [recOk, Bool.and_eq_true, decide_eq_true_eq] at h
  exact h.2.2.1
theorem logL_bounds (b : List Int) : ∀ (k p : Nat) (out : List S45), p ≤ b.length → (∀ x ∈ out, x.f1.length ≤ 1000) → 14 * out.length ≤ p → (logL k b p out).2 ≤ b.length ∧ (∀ x ∈ (logL k b p out).1, x.f1.length ≤ 1000) ∧ 14 * (logL k b p out).1.length ≤ (logL k b p out).2 := by
  intro k
  induction k with
  | zero => intro p out hp ho hl; exact ⟨hp, ho, hl⟩
  | succ k ih =>
    intro p out hp ho hl
    simp only [logL]
    split
    · rename_i h
      simp only [Bool.and_eq_true] at h
      have hr := recOk_room h.1
      have h' := h.1
      simp only [recOk, Bool.and_eq_true, decide_eq_true_eq] at h'
      refine ih _ _ (by omega) ?_ (by simp only [List.length_append, List.length_singleton]; omega)
      intro x hx
      rcases List.mem_append.1 hx with hx | hx
      · exact ho x hx
      · rw [List.mem_singleton.1 hx]
        simp only [recOf, cutL, List.length_drop, List.length_take]
        omega
    · exact ⟨hp, ho, hl⟩
theorem logF_bounds (b : List Int) : (logF b).2 ≤ b.length ∧ (∀ x ∈ (logF b).1, x.f1.length ≤ 1000) ∧ 14 * (logF b).1.length ≤ (logF b).2 :=
  logL_bounds b _ 0 [] (by omega) (by simp) (by simp)
end Go.Proofs.Ytbapokpkgonjkaa.Print
namespace Go.Proofs.Ytbapokpkgonjkaa.Print
open Go.RowKit Go.Proofs.YtbapokpkgonjkaaW.PrintWords Go.Proofs.YtbapokpkgonjkaaW.PrintLast Go.Proofs.YtbapokpkgonjkaaW.PrintMore
set_option linter.unusedVariables false
set_option linter.unusedSimpArgs false
theorem leB_leN : ∀ (x : List Int), (∀ y ∈ x, 0 ≤ y ∧ y < 256) → leB (leN x) x.length = x := by
  intro x
  induction x with
  | nil => intro _; rfl
  | cons a r ih =>
    intro h
    have ha := h a List.mem_cons_self
    have hr : ∀ y ∈ r, 0 ≤ y ∧ y < 256 := fun y hy => h y (List.mem_cons_of_mem _ hy)
    have rg := leN_range r hr
    have e : leN (a :: r) = a + 256 * leN r := rfl
    rw [List.length_cons, e, leB_cons _ _ (by omega), show (a + 256 * leN r) % 256 = a by omega, show (a + 256 * leN r) / 256 = leN r by omega, ih hr]
theorem leN_leB : ∀ (n : Nat) (v : Int), 0 ≤ v → v < 256 ^ n → leN (leB v n) = v := by
  intro n
  induction n with
  | zero => intro v h0 h1; simp at h1; simp [leB, leN]; omega
  | succ n ih =>
    intro v h0 h1
    have e : leN (v % 256 :: leB (v / 256) n) = v % 256 + 256 * leN (leB (v / 256) n) := rfl
    rw [leB_cons _ _ h0, e, ih (v / 256) (by omega) (by rw [Int.pow_succ] at h1; generalize (256 : Int) ^ n = z at *; omega)]
    omega
theorem cutL_cutL (l : List Int) (a b c : Nat) (h : a ≤ b) (h2 : b ≤ c) : cutL l a b ++ cutL l b c = cutL l a c := by
  unfold cutL
  have e : (l.take b) = (l.take c).take b := by rw [List.take_take, Nat.min_eq_left h2]
  rw [e]
  generalize l.take c = m
  rw [show m.drop b = (m.drop a).drop (b - a) by rw [List.drop_drop]; congr 1; omega, show (m.take b).drop a = (m.drop a).take (b - a) by rw [List.drop_take]]
  exact List.take_append_drop _ _
theorem sumB_range (l : List Int) (hl : l.length ≤ 140737488351232) (hb : ∀ x ∈ l, 0 ≤ x ∧ x < 256) : 0 ≤ sumB l ∧ sumB l < 4294967296 := (sum_f l hl hb (l.length + 1) (by omega)).2.2
theorem rec_same (l : List Int) (p n : Nat) (hr : ∀ x ∈ l, 0 ≤ x ∧ x < 256) (hn : leN (cutL l p (p + 2)) = (n : Int)) (hn1 : n ≤ 1000) (hp : p + 14 + n ≤ l.length) :
    (sumB (cutL l p (p + 10 + n)) = leN (cutL l (p + 10 + n) (p + 14 + n))) ↔ recB (leN (cutL l (p + 2) (p + 10))) (cutL l (p + 10) (p + 10 + n)) = cutL l p (p + 14 + n) := by
  have rg : ∀ a b, ∀ x ∈ cutL l a b, 0 ≤ x ∧ x < 256 := fun a b x hx => hr x (List.mem_of_mem_take (List.mem_of_mem_drop hx))
  have len : ∀ a b, b ≤ l.length → (cutL l a b).length = b - a := fun a b h => by simp only [cutL, List.length_drop, List.length_take]; omega
  have l3 : (cutL l (p + 10) (p + 10 + n)).length = n := by rw [len _ _ (by omega)]; omega
  have e1 : leB (n : Int) 2 = cutL l p (p + 2) := by
    have := leB_leN _ (rg p (p + 2))
    rwa [hn, len _ _ (by omega), show p + 2 - p = 2 by omega] at this
  have e2 : leB (leN (cutL l (p + 2) (p + 10))) 8 = cutL l (p + 2) (p + 10) := by
    have := leB_leN _ (rg (p + 2) (p + 10))
    rwa [len _ _ (by omega), show p + 10 - (p + 2) = 8 by omega] at this
  have e4 : leB (leN (cutL l (p + 10 + n) (p + 14 + n))) 4 = cutL l (p + 10 + n) (p + 14 + n) := by
    have := leB_leN _ (rg (p + 10 + n) (p + 14 + n))
    rwa [len _ _ (by omega), show p + 14 + n - (p + 10 + n) = 4 by omega] at this
  unfold recB
  rw [l3, if_neg (by omega), e1, e2, cutL_cutL l p (p + 2) (p + 10) (by omega) (by omega), cutL_cutL l p (p + 10) (p + 10 + n) (by omega) (by omega), ← cutL_cutL l p (p + 10 + n) (p + 14 + n) (by omega) (by omega)]
  have sr := sumB_range (cutL l p (p + 10 + n)) (by rw [len _ _ (by omega)]; omega) (rg _ _)
  constructor
  · intro h
    rw [h, e4]
  · intro h
    have h' := List.append_cancel_left h
    rw [← h', leN_leB 4 _ sr.1 (by have := sr.2; omega)]
end Go.Proofs.Ytbapokpkgonjkaa.Print
namespace Go.Proofs.Ytbapokpkgonjkaa.Print
open Go.RowKit Go.Proofs.YtbapokpkgonjkaaW.PrintWords Go.Proofs.YtbapokpkgonjkaaW.PrintLast Go.Proofs.YtbapokpkgonjkaaW.PrintMore
set_option linter.unusedVariables false
set_option linter.unusedSimpArgs false
theorem cutL_mid (a b c : List Int) (p q : Nat) (hp : p = a.length) (hq : q = a.length + b.length) : cutL (a ++ (b ++ c)) p q = b := by
  subst hp hq
  simp [cutL, List.take_append, List.drop_append, List.take_of_length_le]
theorem recB_split (s : Int) (b : List Int) (h : b.length ≤ 1000) : recB s b = leB (b.length : Int) 2 ++ (leB s 8 ++ (b ++ leB (sumB (leB (b.length : Int) 2 ++ leB s 8 ++ b)) 4)) := by
  unfold recB
  rw [if_neg (by omega)]
  simp
theorem recB_len (s : Int) (b : List Int) (h : b.length ≤ 1000) : (recB s b).length = 14 + b.length := by
  rw [recB_split s b h]
  simp [leB_length]
  omega
theorem p2_ : (256 : Int) ^ 2 = 65536 := rfl
theorem p8_ : (256 : Int) ^ 8 = 18446744073709551616 := rfl
theorem recN_at (pre r : List Int) (b : List Int) (h : b.length ≤ 1000) : recN (pre ++ (leB (b.length : Int) 2 ++ r)) pre.length = b.length := by
  unfold recN
  rw [cutL_mid pre (leB (b.length : Int) 2) r _ _ rfl (by rw [leB_length]), leN_leB 2 _ (by omega) (by rw [p2_]; omega)]
  omega
theorem at_rec (pre t : List Int) (s : Int) (b : List Int) (h0 : 0 ≤ s) (h1 : s < 18446744073709551616) (h : b.length ≤ 1000) :
    recN (pre ++ (recB s b ++ t)) pre.length = b.length ∧ recOf (pre ++ (recB s b ++ t)) pre.length = ⟨s, b⟩ ∧ recOk (pre ++ (recB s b ++ t)) pre.length = true := by
  have hN : recN (pre ++ (recB s b ++ t)) pre.length = b.length := by
    rw [recB_split s b h, List.append_assoc]
    exact recN_at pre _ b h
  have hO : recOf (pre ++ (recB s b ++ t)) pre.length = ⟨s, b⟩ := by
    unfold recOf
    rw [hN, recB_split s b h]
    have e1 : cutL (pre ++ ((leB (b.length : Int) 2 ++ (leB s 8 ++ (b ++ leB (sumB (leB (b.length : Int) 2 ++ leB s 8 ++ b)) 4))) ++ t)) (pre.length + 2) (pre.length + 10) = leB s 8 := by
      have := cutL_mid (pre ++ leB (b.length : Int) 2) (leB s 8) ((b ++ leB (sumB (leB (b.length : Int) 2 ++ leB s 8 ++ b)) 4) ++ t) (pre.length + 2) (pre.length + 10) (by simp [leB_length]) (by simp [leB_length])
      simpa [List.append_assoc] using this
    have e2 : cutL (pre ++ ((leB (b.length : Int) 2 ++ (leB s 8 ++ (b ++ leB (sumB (leB (b.length : Int) 2 ++ leB s 8 ++ b)) 4))) ++ t)) (pre.length + 10) (pre.length + 10 + b.length) = b := by
      have := cutL_mid (pre ++ leB (b.length : Int) 2 ++ leB s 8) b (leB (sumB (leB (b.length : Int) 2 ++ leB s 8 ++ b)) 4 ++ t) (pre.length + 10) (pre.length + 10 + b.length) (by simp [leB_length]) (by simp [leB_length])
      simpa [List.append_assoc] using this
    rw [e1, e2, leN_leB 8 s h0 (by rw [p8_]; exact h1)]
  refine ⟨hN, hO, ?_⟩
  have hl := recB_len s b h
  unfold recOk
  rw [hN, hO, cutL_mid pre (recB s b) t pre.length (pre.length + 14 + b.length) rfl (by omega)]
  simp only [List.length_append, decide_true, Bool.and_true, Bool.and_eq_true, decide_eq_true_eq]
  omega
theorem torn_rec (pre : List Int) (s : Int) (b : List Int) (h : b.length ≤ 1000) (j : Nat) (hj : j < 14 + b.length) : recOk (pre ++ (recB s b).take j) pre.length = false := by
  have hl := recB_len s b h
  have hlt : ((recB s b).take j).length = j := by rw [List.length_take]; omega
  unfold recOk
  by_cases h14 : j < 14
  · rw [decide_eq_false (p := pre.length + 14 ≤ (pre ++ (recB s b).take j).length) (by rw [List.length_append, hlt]; omega)]
    rfl
  · have hN : recN (pre ++ (recB s b).take j) pre.length = b.length := by
      have e : (recB s b).take j = leB (b.length : Int) 2 ++ (leB s 8 ++ (b ++ leB (sumB (leB (b.length : Int) 2 ++ leB s 8 ++ b)) 4)).take (j - 2) := by
        rw [recB_split s b h, List.take_append, leB_length, List.take_of_length_le (by rw [leB_length]; omega)]
      rw [e]
      exact recN_at pre _ b h
    rw [hN, decide_eq_false (p := pre.length + 14 + b.length ≤ (pre ++ (recB s b).take j).length) (by rw [List.length_append, hlt]; omega)]
    simp
def flatR (rs : List S45) : List Int := rs.flatMap fun r => recB r.f0 r.f1
theorem flatR_cons (x : S45) (r : List S45) : flatR (x :: r) = recB x.f0 x.f1 ++ flatR r := rfl
theorem flatR_snoc (x : S45) (r : List S45) : flatR (r ++ [x]) = flatR r ++ recB x.f0 x.f1 := by simp [flatR]
def chainR : List S45 → List S45 → Prop
  | _, [] => True
  | out, x :: r => goesOn out x = true ∧ chainR (out ++ [x]) r
theorem logL_recs : ∀ (rs : List S45) (k : Nat) (pre t : List Int) (out : List S45), (∀ x ∈ rs, 0 ≤ x.f0 ∧ x.f0 < 18446744073709551616 ∧ x.f1.length ≤ 1000) → chainR out rs → recOk (pre ++ (flatR rs ++ t)) (pre.length + (flatR rs).length) = false → rs.length < k →
    logL k (pre ++ (flatR rs ++ t)) pre.length out = (out ++ rs, pre.length + (flatR rs).length) := by
  intro rs
  induction rs with
  | nil =>
    intro k pre t out _ _ hno hk
    obtain ⟨k, rfl⟩ : ∃ j, k = j + 1 := ⟨k - 1, by omega⟩
    have hno' : recOk (pre ++ (flatR [] ++ t)) pre.length = false := by simpa [flatR] using hno
    simp only [logL]
    rw [hno']
    simp [flatR]
  | cons x r ih =>
    intro k pre t out hx hc hno hk
    obtain ⟨k, rfl⟩ : ∃ j, k = j + 1 := ⟨k - 1, by omega⟩
    obtain ⟨g0, g1, g2⟩ := hx x List.mem_cons_self
    obtain ⟨a1, a2, a3⟩ := at_rec pre (flatR r ++ t) x.f0 x.f1 g0 g1 g2
    have e : pre ++ (flatR (x :: r) ++ t) = pre ++ (recB x.f0 x.f1 ++ (flatR r ++ t)) := by rw [flatR_cons, List.append_assoc]
    rw [e] at hno ⊢
    simp only [logL]
    have a2' : recOf (pre ++ (recB x.f0 x.f1 ++ (flatR r ++ t))) pre.length = x := a2
    rw [a1, a2', a3, hc.1]
    simp only [Bool.and_true, if_true]
    have hl := recB_len x.f0 x.f1 g2
    have ih' := ih k (pre ++ recB x.f0 x.f1) t (out ++ [x]) (fun y hy => hx y (List.mem_cons_of_mem _ hy)) hc.2
      (by rw [List.append_assoc, List.length_append, hl]; rw [flatR_cons, List.length_append, hl] at hno; rw [← hno]; congr 1; omega) (by simp at hk; omega)
    rw [List.append_assoc, List.length_append, hl] at ih'
    rw [ih', flatR_cons, List.length_append, hl]
    simp only [List.append_assoc, List.singleton_append, Prod.mk.injEq, true_and]
    omega
theorem flatR_len (rs : List S45) (h : ∀ x ∈ rs, x.f1.length ≤ 1000) : 14 * rs.length ≤ (flatR rs).length := by
  induction rs with
  | nil => simp [flatR]
  | cons x r ih =>
    rw [flatR_cons, List.length_append, recB_len _ _ (h x List.mem_cons_self), List.length_cons]
    have := ih (fun y hy => h y (List.mem_cons_of_mem _ hy))
    omega
theorem logF_recs (rs : List S45) (t : List Int) (hx : ∀ x ∈ rs, 0 ≤ x.f0 ∧ x.f0 < 18446744073709551616 ∧ x.f1.length ≤ 1000) (hc : chainR [] rs) (hno : recOk (flatR rs ++ t) (flatR rs).length = false) : logF (flatR rs ++ t) = (rs, (flatR rs).length) := by
  have h := logL_recs rs ((flatR rs ++ t).length + 1) [] t [] hx hc (by simpa using hno) (by have := flatR_len rs (fun x h => (hx x h).2.2); rw [List.length_append]; omega)
  simpa [logF] using h
theorem logL_bytes (b : List Int) (hb : ∀ x ∈ b, 0 ≤ x ∧ x < 256) : ∀ (k p : Nat) (out : List S45), p ≤ b.length → flatR out = b.take p → (∀ x ∈ out, 0 ≤ x.f0 ∧ x.f0 < 18446744073709551616 ∧ ∀ y ∈ x.f1, 0 ≤ y ∧ y < 256) →
    flatR (logL k b p out).1 = b.take (logL k b p out).2 ∧ ∀ x ∈ (logL k b p out).1, 0 ≤ x.f0 ∧ x.f0 < 18446744073709551616 ∧ ∀ y ∈ x.f1, 0 ≤ y ∧ y < 256 := by
  intro k
  induction k with
  | zero => intro p out hp ho hx; exact ⟨ho, hx⟩
  | succ k ih =>
    intro p out hp ho hx
    simp only [logL]
    split
    · rename_i h
      simp only [Bool.and_eq_true] at h
      have hr := recOk_room h.1
      have h' := h.1
      simp only [recOk, Bool.and_eq_true, decide_eq_true_eq] at h'
      refine ih _ _ (by omega) ?_ ?_
      · rw [flatR_snoc, ho, h'.2.2.2]
        unfold cutL
        rw [show p + (14 + recN b p) = p + 14 + recN b p by omega]
        have := List.take_append_drop p (b.take (p + 14 + recN b p))
        rw [List.take_take, Nat.min_eq_left (by omega)] at this
        exact this
      · intro x hxm
        rcases List.mem_append.1 hxm with hxm | hxm
        · exact hx x hxm
        · rw [List.mem_singleton.1 hxm]
          have rg := leN_range (cutL b (p + 2) (p + 10)) (fun y hy => hb y (List.mem_of_mem_take (List.mem_of_mem_drop hy)))
          have h8 : (cutL b (p + 2) (p + 10)).length = 8 := by simp only [cutL, List.length_drop, List.length_take]; omega
          rw [h8] at rg
          have h9 := rg.2
          simp only [Nat.reducePow, Int.reducePow] at h9
          exact ⟨rg.1, h9, fun y hy => hb y (List.mem_of_mem_take (List.mem_of_mem_drop hy))⟩
    · exact ⟨ho, hx⟩
theorem logF_bytes (b : List Int) (hb : ∀ x ∈ b, 0 ≤ x ∧ x < 256) : flatR (logF b).1 = b.take (logF b).2 ∧ ∀ x ∈ (logF b).1, 0 ≤ x.f0 ∧ x.f0 < 18446744073709551616 ∧ ∀ y ∈ x.f1, 0 ≤ y ∧ y < 256 :=
  logL_bytes b hb _ 0 [] (by omega) (by simp [flatR]) (by simp)
end Go.Proofs.Ytbapokpkgonjkaa.Print
