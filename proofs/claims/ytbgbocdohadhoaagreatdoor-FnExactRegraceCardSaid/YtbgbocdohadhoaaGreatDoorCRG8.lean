/- Texts of this session, joined by its own program. -/
import Derived.Test.YtbgbocdohadhoaaGreatDoorCRG7
namespace Go.Proofs.YtbgbocdohadhoaaGreatDoor.Print
open Go Go.RowKit Go.Proofs.YtbgbocdohadhoaaGreatDoorW.PrintWords Go.Proofs.YtbgbocdohadhoaaGreatDoorW.PrintLast Go.Proofs.YtbgbocdohadhoaaGreatDoorW.PrintMore
set_option linter.unusedVariables false
set_option linter.unusedSimpArgs false
theorem bl_cons (a b : UInt8) (x y : List UInt8) : Op.bytesLess (a :: x) (b :: y) = true ↔ a.toNat < b.toNat ∨ (a = b ∧ Op.bytesLess x y = true) := by
 rw [Op.bytesLess]
 simp only [Bool.or_eq_true, Bool.and_eq_true, decide_eq_true_eq, beq_iff_eq, UInt8.lt_iff_toNat_lt]
theorem bl_trans : ∀ (x y z : List UInt8), Op.bytesLess x y = true → Op.bytesLess y z = true → Op.bytesLess x z = true
 | _, [], z, h, _ => by cases ‹List UInt8› <;> simp [Op.bytesLess] at h
 | _, _ :: _, [], _, h => by simp [Op.bytesLess] at h
 | [], _ :: _, _ :: _, _, _ => by simp [Op.bytesLess]
 | a :: x, b :: y, c :: z, h1, h2 => by
  rw [bl_cons] at h1 h2 ⊢
  rcases h1 with h1 | ⟨rfl, h1⟩
  ·
   rcases h2 with h2 | ⟨rfl, h2⟩
   ·
    exact Or.inl (by omega)
   ·
    exact Or.inl h1
  ·
   rcases h2 with h2 | ⟨rfl, h2⟩
   ·
    exact Or.inl h2
   ·
    exact Or.inr ⟨rfl, bl_trans x y z h1 h2⟩
theorem bl_irrefl : ∀ x : List UInt8, Op.bytesLess x x = false
 | [] => rfl
 | a :: x => by
  rw [Bool.eq_false_iff, ne_eq, bl_cons, not_or, not_and]
  exact ⟨by omega, fun _ => by rw [bl_irrefl x]; exact Bool.false_ne_true⟩
theorem bl_tri : ∀ x y : List UInt8, Op.bytesLess x y = false → Op.bytesLess y x = false → x = y
 | [], [], _, _ => rfl
 | [], _ :: _, h, _ => by simp [Op.bytesLess] at h
 | _ :: _, [], _, h => by simp [Op.bytesLess] at h
 | a :: x, b :: y, h1, h2 => by
  rw [Bool.eq_false_iff, ne_eq, bl_cons, not_or, not_and] at h1 h2
  have e : a = b := UInt8.toNat_inj.1 (by omega)
  subst e
  rw [bl_tri x y (Bool.eq_false_iff.2 (h1.2 rfl)) (Bool.eq_false_iff.2 (h2.2 rfl))]
theorem bl_prefix : ∀ (x r : List UInt8), r ≠ [] → Op.bytesLess x (x ++ r) = true
 | [], [], h => absurd rfl h
 | [], _ :: _, _ => by simp [Op.bytesLess]
 | a :: x, r, h => by rw [List.cons_append, bl_cons]; exact Or.inr ⟨rfl, bl_prefix x r h⟩
def ltL (a b : List Int) : Prop := Op.bytesLess (Lib.bytesOf a) (Lib.bytesOf b) = true
theorem leB_false {a b : List Int} : leB b a = false ↔ ltL a b := by
 unfold leB ltL
 rw [Bool.or_eq_false_iff, beq_eq_false_iff_ne]
 constructor
 ·
  rintro ⟨h1, h2⟩
  cases h : Op.bytesLess (Lib.bytesOf a) (Lib.bytesOf b) with
  | true => rfl
  | false => exact absurd (bl_tri _ _ h1 h) h2
 ·
  intro h
  constructor
  ·
   cases h2 : Op.bytesLess (Lib.bytesOf b) (Lib.bytesOf a) with
   | false => rfl
   | true => exact absurd (bl_trans _ _ _ h h2) (by rw [bl_irrefl]; exact Bool.false_ne_true)
  ·
   intro e
   rw [e, bl_irrefl] at h
   exact absurd h Bool.false_ne_true
theorem ltL_ne {a b : List Int} (h : ltL a b) : a ≠ b := by
 rintro rfl
 unfold ltL at h
 rw [bl_irrefl] at h
 exact absurd h Bool.false_ne_true
theorem ltL_trans {a b c : List Int} (h1 : ltL a b) (h2 : ltL b c) : ltL a c := bl_trans _ _ _ h1 h2
theorem lastFrom_lt : ∀ (l : List Int) (i a m : Nat), a < m → i + l.length ≤ m → lastFrom l i a < m
 | [], _, _, _, h, _ => h
 | c :: r, i, a, m, h, hm => by
  rw [lastFrom]
  rw [List.length_cons] at hm
  exact lastFrom_lt r (i + 1) _ m (by split <;> omega) (by omega)
theorem parent_lt {p : List Int} (h : lastFrom p 0 0 ≠ 0) : ltL (p.take (lastFrom p 0 0)) p := by
 have hm : lastFrom p 0 0 < p.length := by
  cases p with
  | nil => exact absurd rfl h
  | cons c r => exact lastFrom_lt (c :: r) 0 0 _ (by simp) (by simp)
 obtain ⟨m, hmm⟩ : ∃ m, lastFrom p 0 0 = m := ⟨_, rfl⟩
 rw [hmm] at hm ⊢
 unfold ltL
 have e : Lib.bytesOf p = Lib.bytesOf (p.take m) ++ Lib.bytesOf (p.drop m) := by
  unfold Lib.bytesOf
  rw [← List.map_append, List.take_append_drop]
 rw [e]
 refine bl_prefix _ _ (fun e2 => ?_)
 have := congrArg List.length e2
 unfold Lib.bytesOf at this
 rw [List.length_map, List.length_drop, List.length_nil] at this
 omega
theorem asc_all (ns : List No) (h : ∀ k (hk : k < ns.length), 0 < k → leB ns[k].f0 (ns.getD (k - 1) zNo).f0 = false) (i : Nat) : ∀ (d : Nat) (hk : i + d < ns.length), d ≠ 0 → ltL (ns[i]'(by omega)).f0 ns[i + d].f0 := by
 intro d
 induction d with
 | zero => intro _ h0; exact absurd rfl h0
 | succ d ih =>
  intro hk _
  have h1 := leB_false.1 (h (i + (d + 1)) hk (by omega))
  have e : (ns.getD (i + (d + 1) - 1) zNo) = ns[i + d]'(by omega) := by
   rw [show i + (d + 1) - 1 = i + d by omega, List.getD_eq_getElem?_getD, List.getElem?_eq_getElem (by omega)]
   rfl
  rw [e] at h1
  by_cases d0 : d = 0
  ·
   subst d0
   exact h1
  ·
   exact ltL_trans (ih (by omega) d0) h1
theorem find_take (ns : List No) (i : Nat) (hi : i < ns.length) (q : List Int) (h : ∀ k (hk : k < ns.length), i ≤ k → ns[k].f0 ≠ q) : ns.find? (fun n => n.f0 == q) = (ns.take i).find? (fun n => n.f0 == q) := by
 conv => lhs; rw [← List.take_append_drop i ns]
 rw [List.find?_append]
 have : (ns.drop i).find? (fun n => n.f0 == q) = none := by
  rw [List.find?_eq_none]
  intro x hx
  obtain ⟨j, hj, rfl⟩ := List.mem_iff_getElem.1 hx
  rw [List.getElem_drop]
  rw [List.length_drop] at hj
  simpa using h (i + j) (by omega) (by omega)
 rw [this, Option.or_none]
theorem canPar_take (ns : List No) (h : ∀ k (hk : k < ns.length), 0 < k → leB ns[k].f0 (ns.getD (k - 1) zNo).f0 = false) (i : Nat) (hi : i < ns.length) : canParB ns (parentL ns[i].f0) = canParB (ns.take i) (parentL ns[i].f0) := by
 unfold canParB
 by_cases h0 : lastFrom ns[i].f0 0 0 = 0
 ·
  rw [show parentL ns[i].f0 = [47] by unfold parentL; rw [if_pos h0]]
  rfl
 ·
  rw [show parentL ns[i].f0 = ns[i].f0.take (lastFrom ns[i].f0 0 0) by unfold parentL; rw [if_neg h0]]
  have hp := parent_lt h0
  rw [find_take ns i hi _ ?_]
  intro k hk hik e
  by_cases hki : k = i
  ·
   subst hki
   exact ltL_ne hp e.symm
  ·
   have := asc_all ns h i (k - i) (by omega) (by omega)
   simp only [show i + (k - i) = k by omega] at this
   exact ltL_ne (ltL_trans hp this) e.symm
def ascB (l : List Int) : Bool := allI (fun i x => i == 0 || decide (l.getD (i - 1) 0 < x)) 0 l
theorem idsB_split (xs : List Se) (l : List Int) : idsB xs l = (ascB l && l.all (liveB xs)) := by
 rw [Bool.eq_iff_iff, Bool.and_eq_true]
 unfold idsB ascB
 rw [allI_iff, allI_iff, List.all_eq_true]
 constructor
 ·
  intro h
  refine ⟨fun j hj => (Bool.and_eq_true _ _ ▸ h j hj).2, fun x hx => ?_⟩
  obtain ⟨j, hj, rfl⟩ := List.mem_iff_getElem.1 hx
  exact (Bool.and_eq_true _ _ ▸ h j hj).1
 ·
  rintro ⟨h1, h2⟩ j hj
  rw [Bool.and_eq_true]
  exact ⟨h2 _ (List.getElem_mem hj), h1 j hj⟩
def nodeI (epoch gen : Int) (xs : List Se) (ns : List No) (i : Nat) (n : No) : Bool :=
 (pathB n.f0 && (i == 0 || !leB n.f0 (ns.getD (i - 1) zNo).f0) && decide (n.f1.length ≤ 40) && (n.f2 == 0 || liveB xs n.f2)) &&
  (ascB n.f4 && ascB n.f7 && n.f4.all (liveB xs) && n.f7.all (liveB xs) && lockB epoch gen n) && canParB (ns.take i) (parentL n.f0)
def validI (epoch gen next now : Int) (xs : List Se) (ns : List No) : Bool :=
 headB epoch gen next now xs.length ns.length && allI (sesB next xs) 0 xs && allI (nodeI epoch gen xs ns) 0 ns
theorem nodes_eq (e g : Int) (xs : List Se) (ns : List No) : allI (nodeI e g xs ns) 0 ns = allI (nodeB e g xs ns) 0 ns := by
 rw [Bool.eq_iff_iff, allI_iff, allI_iff]
 have asc : ∀ f : Nat → No → Bool, (∀ k n, f k n = true → (k == 0 || !leB n.f0 (ns.getD (k - 1) zNo).f0) = true) → (∀ j (h : j < ns.length), f (0 + j) ns[j] = true) → ∀ k (hk : k < ns.length), 0 < k → leB ns[k].f0 (ns.getD (k - 1) zNo).f0 = false := by
  intro f hf h k hk h0
  have := hf _ _ (h k hk)
  rw [Nat.zero_add, show (k == 0) = false from beq_eq_false_iff_ne.2 (by omega), Bool.false_or, Bool.not_eq_true'] at this
  exact this
 constructor
 ·
  intro h j hj
  have ha := asc _ (fun k n hk => by unfold nodeI at hk; simp only [Bool.and_eq_true] at hk; exact hk.1.1.1.1.2) h
  have hc := canPar_take ns ha j hj
  have hh := h j hj
  unfold nodeI at hh
  unfold nodeB
  rw [Nat.zero_add] at hh ⊢
  rw [idsB_split, idsB_split, hc]
  simp only [Bool.and_eq_true] at hh ⊢
  obtain ⟨⟨⟨⟨⟨a, b⟩, c⟩, d⟩, ⟨⟨⟨e1, e2⟩, e3⟩, e4⟩, e5⟩, e6⟩ := hh
  exact ⟨⟨⟨⟨⟨⟨⟨a, b⟩, e6⟩, c⟩, d⟩, e1, e3⟩, e2, e4⟩, e5⟩
 ·
  intro h j hj
  have ha := asc _ (fun k n hk => by unfold nodeB at hk; simp only [Bool.and_eq_true] at hk; exact hk.1.1.1.1.1.1.2) h
  have hc := canPar_take ns ha j hj
  have hh := h j hj
  unfold nodeB at hh
  unfold nodeI
  rw [Nat.zero_add] at hh ⊢
  rw [idsB_split, idsB_split, hc] at hh
  simp only [Bool.and_eq_true] at hh ⊢
  obtain ⟨⟨⟨⟨⟨⟨⟨a, b⟩, e6⟩, c⟩, d⟩, e1, e3⟩, e2, e4⟩, e5⟩ := hh
  exact ⟨⟨⟨⟨⟨a, b⟩, c⟩, d⟩, ⟨⟨⟨e1, e2⟩, e3⟩, e4⟩, e5⟩, e6⟩
theorem valid_eq (e g n t : Int) (xs : List Se) (ns : List No) : validI e g n t xs ns = validB e g n t xs ns := by unfold validI validB; rw [nodes_eq]
def smallQ (q : List Ev) : Bool := decide (q.length ≤ 2097152) && q.all fun e => decide (e.f1.length ≤ 2097152)
def spec_l3queueOK.f (q : List Ev) : Option Bool := if smallQ q then some (queueB q) else none
set_option maxHeartbeats 4000000 in
set_option maxRecDepth 100000 in
theorem spec_queueOK_calls (A : Option Addr) (c : Nat) (q : List Ev) (w : World) (h : Kd.C kEv w A q.length q) (hc : q.length ≤ c) (hs : ∀ e ∈ q, e.f1.length ≤ 2097152) :
  Calls Tryz.prog 117 #[.slice A q.length c] w fun e w' => e = .returned (.bool (queueB q)) ∧ Below w.heap.size w w' := by
 by_cases h8 : 8 < q.length
 ·
  have e : queueB q = false := by unfold queueB; rw [decide_eq_false (by omega)]; rfl
  have d1 : decide ((8 : Int) < (q.length : Int)) = true := decide_eq_true (by omega)
  rw [e]
  clear e
  go_enter Tryz.func117, Tryz.ntmps117
  go_wp2_with fail
  go_ret
  exact ⟨rfl, Below.refl _ _⟩
 have hQ : queueB q = allI evB 0 q := by unfold queueB; rw [decide_eq_true (by omega)]; rfl
 rw [hQ]
 have d1 : decide ((8 : Int) < (q.length : Int)) = false := decide_eq_false (by omega)
 have HR := Aside0.mk h
 have HS := Aside0.mk hs
 have HL := Aside0.mk (And.intro hc (show q.length ≤ 8 by omega))
 clear h hs hQ h8 hc
 go_enter Tryz.func117, Tryz.ntmps117
 go_wp2_with fail
 clear d1
 go_loopg [3] (q.length + 1) (fun kq v3 w' => ∃ i : Nat, v3 = .int .i64 i ∧ Aside0 (kq + i = q.length + 1 ∧ i ≤ q.length) ∧ Aside0 (allI evB 0 q = allI evB i (q.drop i)) ∧ Aside0 (Below w.heap.size w w'))
 case atStart => exact ⟨0, rfl, ⟨⟨by omega, by omega⟩⟩, ⟨rfl⟩, ⟨Below.refl _ _⟩⟩
 case round =>
  obtain ⟨i, rfl, HJ, HV, HB⟩ := hrel
  have hj0 := HJ.out
  have hl8 := HL.out.2
  by_cases hj : i < q.length
  ·
   have c1 : decide ((i : Int) < (q.length : Int)) = true := decide_eq_true (by omega)
   have ci : (0 : Int) ≤ (i : Int) := by omega
   have ci2 : (i : Int) < (q.length : Int) := by omega
   obtain ⟨ad, A1, c1_, eA, hx0, hx1, hl1, hi1⟩ := at_T153 HR.out (i : Int) (by omega) (by omega)
   have ex : rd_T153 q (i : Int) = q[i] := by unfold rd_T153; rw [Int.toNat_natCast, List.getD_eq_getElem?_getD, List.getElem?_eq_getElem hj]; rfl
   rw [ex] at hx0 hx1 hl1 hi1
   cases eA
   replace hx0 := (HB.out.cell (World.block_lt_of_cell? w _ hx0)).trans hx0
   replace hx1 := (HB.out.cell (World.block_lt_of_cell? w _ hx1)).trans hx1
   rw [Int.toNat_natCast] at hx0 hx1
   have HI := Aside0.mk (And.intro (Kd.C_below hi1 HB.out) hl1)
   have hsx := HS.out q[i] (List.getElem_mem hj)
   have HE := HV.out
   rw [allI_drop evB q i hj] at HE
   have HN := Aside0.mk (show ∀ b, evB i q[i] = b → allI evB 0 q = (b && allI evB (i + 1) (q.drop (i + 1))) from fun b hb => by rw [HE, hb])
   have HVP := Aside0.mk (spec_ValidPath.calls 10000000 A1 c1_ q[i].f1 _ wr HI.out.1 HI.out.2 (validPath_f q[i].f1 hsx _ (by omega)))
   obtain ⟨x, hx⟩ : ∃ x, q[i].f0 = x := ⟨_, rfl⟩
   obtain ⟨m, hm⟩ : ∃ m, q[i].f1.length = m := ⟨_, rfl⟩
   obtain ⟨vp, hvp⟩ : ∃ vp, pathB q[i].f1 = vp := ⟨_, rfl⟩
   have hev : evB i q[i] = if i = 7 then x == 4 && m == 0 else x != 4 && decide (1 ≤ x) && decide (x ≤ 3) && vp := by unfold evB; rw [hx, hm, hvp]
   rw [hev] at HN
   rw [hm, hvp] at HVP
   rw [hm] at hx1
   rw [hx] at hx0
   have hm2 : m ≤ 2097152 := by rw [← hm]; exact hsx
   clear hev hx hm hvp HE HV hi1 hl1 hsx ex
   obtain ⟨k1, rfl⟩ : ∃ k1, gk = k1 + 1 := ⟨gk - 1, by omega⟩
   by_cases h7 : i = 7
   ·
    have d7 : decide ((i : Int) = 7) = true := decide_eq_true (by omega)
    have d7b : ((i : Int) == 7) = true := by rw [beq_iff_eq]; omega
    have HN := Aside0.mk (fun b hb => HN.out b (by rw [if_pos h7]; exact hb))
    have hx0' : wr.cell? ⟨ad.block, ad.off + 14, none⟩ = some (.int .i64 x) := by have := hx0; rw [h7] at this; simpa [Addr.add] using this
    have hx1' : wr.cell? ⟨ad.block, ad.off + 14 + 1, none⟩ = some (.slice A1 m c1_) := by have := hx1; rw [h7] at this; simpa [Addr.add] using this
    have c77 : (7 : Int) < (q.length : Int) := by omega
    by_cases h4 : x = 4
    ·
     subst h4
     by_cases hm0 : m = 0
     ·
      subst hm0
      go_wp2_with fail
      go_roundg k1
      case measure => omega
      case rel => exact ⟨i + 1, by go_num, ⟨⟨by omega, by omega⟩⟩, ⟨by rw [HN.out true rfl, Bool.true_and]⟩, HB⟩
     ·
      have d2 : decide (m = 0) = false := decide_eq_false hm0
      have d3 : decide ((m : Int) = 0) = false := decide_eq_false (by omega)
      have d4 : ((m : Int) != 0) = true := by rw [bne_iff_ne]; omega
      have d5 : ((m : Int) == 0) = false := by rw [beq_eq_false_iff_ne]; omega
      go_wp2_with fail
      go_ret
      rw [HN.out false (by simp [hm0])]
      exact ⟨rfl, HB.out⟩
    ·
     have d2 : decide (x = 4) = false := decide_eq_false h4
     have d3 : (x == 4) = false := by rw [beq_eq_false_iff_ne]; exact h4
     go_wp2_with fail
     go_ret
     rw [HN.out false (by simp [h4])]
     exact ⟨rfl, HB.out⟩
   ·
    have d7 : decide ((i : Int) = 7) = false := decide_eq_false (by omega)
    have d7b : ((i : Int) == 7) = false := by rw [beq_eq_false_iff_ne]; omega
    have HN := Aside0.mk (fun b hb => HN.out b (by rw [if_neg h7]; exact hb))
    by_cases h4 : x = 4
    ·
     subst h4
     go_wp2_with fail
     go_ret
     rw [HN.out false rfl]
     exact ⟨rfl, HB.out⟩
    ·
     have d2 : decide (x = 4) = false := decide_eq_false h4
     have d3 : (x == 4) = false := by rw [beq_eq_false_iff_ne]; exact h4
     by_cases hl : x < 1
     ·
      have d4 : decide (x < 1) = true := decide_eq_true hl
      go_wp2_with fail
      go_ret
      rw [HN.out false (by rw [decide_eq_false (show ¬ 1 ≤ x by omega)]; simp)]
      exact ⟨rfl, HB.out⟩
     ·
      have d4 : decide (x < 1) = false := decide_eq_false hl
      by_cases hg : 3 < x
      ·
       have d5 : decide (3 < x) = true := decide_eq_true hg
       go_wp2_with fail
       go_ret
       rw [HN.out false (by rw [decide_eq_false (show ¬ x ≤ 3 by omega)]; simp)]
       exact ⟨rfl, HB.out⟩
      ·
       have d5 : decide (3 < x) = false := decide_eq_false hg
       have HX := Aside0.mk (show (x != 4 && decide (1 ≤ x) && decide (x ≤ 3)) = true by simp only [Bool.and_eq_true, decide_eq_true_eq, bne_iff_ne]; omega)
       clear h4 hl hg
       go_wp2_with fail
       refine HVP.out.mono ?_
       rintro e w2 ⟨rfl, hb⟩
       have HB2 := Aside0.mk (below_step HB.out hb)
       clear HVP hb HB
       cases vp with
       | false =>
        go_wp2_with fail
        go_ret
        rw [HN.out false (by simp)]
        exact ⟨rfl, HB2.out⟩
       | true =>
        go_wp2_with fail
        go_roundg k1
        case measure => omega
        case rel => exact ⟨i + 1, by go_num, ⟨⟨by omega, by omega⟩⟩, ⟨by rw [HN.out true (by rw [HX.out]; rfl), Bool.true_and]⟩, HB2⟩
  ·
   have c1 : decide ((i : Int) < (q.length : Int)) = false := decide_eq_false (by omega)
   go_wp2_with fail
   go_ret
   rw [HV.out, allI_end evB q i (by omega)]
   exact ⟨rfl, HB.out⟩
theorem spec_l3queueOK.calls (A0 : Option Addr) (c0 : Nat) (l0 : List Ev) (r : Bool) (w : World) (hr0 : Kd.C kEv w A0 l0.length l0) (hc0 : l0.length ≤ c0) (h : spec_l3queueOK.f l0 = some r) :
  Calls Tryz.prog 117 #[.slice A0 l0.length c0] w fun e w' => e = .returned (.bool r) ∧ Below w.heap.size w w' := by
 unfold spec_l3queueOK.f at h
 split at h
 ·
  rename_i hb
  have := Option.some.inj h
  subst this
  unfold smallQ at hb
  simp only [Bool.and_eq_true, List.all_eq_true, decide_eq_true_eq] at hb
  exact spec_queueOK_calls A0 c0 l0 w hr0 hc0 hb.2
 ·
  cases h
section
attribute [local go_sem] max2_int max_two
set_option linter.unusedVariables false
set_option linter.unusedSimpArgs false
def spec_l3sessionOK.j0 : Nat → Bool → Int → Int → List (S153) → Option (Bool)
 | 0, _, _, _, _ => none
 | k + 1, x36, x122000, x122001, x122002 => if x36 = true then (some false) else (if x122001 < 0 then (some false) else (if x122001 > 1000015 then (some false) else ((spec_l3queueOK.f x122002).bind fun t123 => (some t123))))
def spec_l3sessionOK.f (k : Nat) (a0_0 : Int) (a0_1 : Int) (a0_2 : Int) (a0_3 : Int) (l0_4 : List (S90)) (l0_5 : List (S93)) (a1 : Int) : Option (Bool) := if 0 ≤ a1 then (if a1 < (l0_4.length : Int) then (if ((rd_T90 l0_4 a1).f0) < 1 then (spec_l3sessionOK.j0 k true ((rd_T90 l0_4 a1).f0) ((rd_T90 l0_4 a1).f1) ((rd_T90 l0_4 a1).f2)) else (if ((rd_T90 l0_4 a1).f0) > a0_2 then (spec_l3sessionOK.j0 k true ((rd_T90 l0_4 a1).f0) ((rd_T90 l0_4 a1).f1) ((rd_T90 l0_4 a1).f2)) else (if a1 > 0 then (if 0 ≤ (wrap64 (a1 - 1)) then (if (wrap64 (a1 - 1)) < (l0_4.length : Int) then (spec_l3sessionOK.j0 k (decide (((rd_T90 l0_4 a1).f0) ≤ ((rd_T90 l0_4 (wrap64 (a1 - 1))).f0))) ((rd_T90 l0_4 a1).f0) ((rd_T90 l0_4 a1).f1) ((rd_T90 l0_4 a1).f2)) else (none)) else (none)) else (spec_l3sessionOK.j0 k false ((rd_T90 l0_4 a1).f0) ((rd_T90 l0_4 a1).f1) ((rd_T90 l0_4 a1).f2))))) else (none)) else (none)
set_option maxHeartbeats 8000000 in
set_option maxRecDepth 100000 in
theorem spec_l3sessionOK.calls (k : Nat) (a0_0 : Int) (a0_1 : Int) (a0_2 : Int) (a0_3 : Int) (A0_4 : Option Addr) (c0_4 : Nat) (l0_4 : List (S90)) (A0_5 : Option Addr) (c0_5 : Nat) (l0_5 : List (S93)) (a1 : Int) (r : Bool) (w : World) (hr0_4 : Kd.C k90 w A0_4 l0_4.length l0_4) (hc0_4 : l0_4.length ≤ c0_4) (hr0_5 : Kd.C k93 w A0_5 l0_5.length l0_5) (hc0_5 : l0_5.length ≤ c0_5) (h : spec_l3sessionOK.f k a0_0 a0_1 a0_2 a0_3 l0_4 l0_5 a1 = some r) :
  Calls Tryz.prog 69 #[.agg #[.int .u64 a0_0, .int .u64 a0_1, .int .u64 a0_2, .int .i64 a0_3, .slice A0_4 l0_4.length c0_4, .slice A0_5 l0_5.length c0_5], .int .i64 a1] w fun e w' => e = .returned (.bool r) ∧ Below w.heap.size w w' := by
 have hu31 := Tryz.underlying31
 have hu90 := Tryz.underlying90
 have HR0_4 := Aside0.mk hr0_4
 have HC0_4 := Aside0.mk hc0_4
 clear hr0_4 hc0_4
 have HR0_5 := Aside0.mk hr0_5
 have HC0_5 := Aside0.mk hc0_5
 clear hr0_5 hc0_5
 have HB := Aside0.mk (Below.refl w.heap.size w)
 have H : (if 0 ≤ a1 then (if a1 < (l0_4.length : Int) then (if ((rd_T90 l0_4 a1).f0) < 1 then (spec_l3sessionOK.j0 k true ((rd_T90 l0_4 a1).f0) ((rd_T90 l0_4 a1).f1) ((rd_T90 l0_4 a1).f2)) else (if ((rd_T90 l0_4 a1).f0) > a0_2 then (spec_l3sessionOK.j0 k true ((rd_T90 l0_4 a1).f0) ((rd_T90 l0_4 a1).f1) ((rd_T90 l0_4 a1).f2)) else (if a1 > 0 then (if 0 ≤ (wrap64 (a1 - 1)) then (if (wrap64 (a1 - 1)) < (l0_4.length : Int) then (spec_l3sessionOK.j0 k (decide (((rd_T90 l0_4 a1).f0) ≤ ((rd_T90 l0_4 (wrap64 (a1 - 1))).f0))) ((rd_T90 l0_4 a1).f0) ((rd_T90 l0_4 a1).f1) ((rd_T90 l0_4 a1).f2)) else (none)) else (none)) else (spec_l3sessionOK.j0 k false ((rd_T90 l0_4 a1).f0) ((rd_T90 l0_4 a1).f1) ((rd_T90 l0_4 a1).f2))))) else (none)) else (none)) = some r := h
 clear h
 by_cases c3 : 0 ≤ a1
 ·
  rw [if_pos c3] at H
  have c3b0 : decide (0 ≤ a1) = true := decide_eq_true c3
  clear c3
  by_cases c4 : a1 < (l0_4.length : Int)
  ·
   rw [if_pos c4] at H
   have c4b0 : decide (a1 < (l0_4.length : Int)) = true := decide_eq_true c4
   clear c4
   have HC5 := Aside0.mk H
   clear H
   go_enter Tryz.func69, Tryz.ntmps69
   go_upto_region 2 with (first | ((with_reducible refine gate_dst (N := 2) rfl ?_); refine box_event ?hg (N := 2) ?hd (cs := #[.int .u64 a0_0, .int .u64 a0_1, .int .u64 a0_2, .int .i64 a0_3, .slice A0_4 l0_4.length c0_4, .slice A0_5 l0_5.length c0_5]) (t := 31) ?hr ?_; (case hd => rfl); (case hg => rfl); (case hr => first | (go_simp; done) | (go_simp; rfl)); intro gb119 hg w6 hbox hb; have n0_ := Aside0.mk (below_step (by repeat (first | (with_reducible first | exact HB.out | apply below_alloc | apply pw_below_drewN | apply below_drew1) | exact HB.out)) hb); have n1_ := Aside0.mk (hbox); have n2_ := Aside0.mk ((by rw [hg]; exact (below_size (by repeat (first | (with_reducible first | exact HB.out | apply below_alloc | apply pw_below_drewN | apply below_drew1) | exact HB.out))) : w.heap.size ≤ gb119)); have n3_ := Aside0.mk ((by rw [hg]; exact (below_size (by repeat (first | (with_reducible first | exact HB.out | apply below_alloc | apply pw_below_drewN | apply below_drew1) | exact HB.out))) : w.heap.size ≤ gb119)); clear HB; have HB := n0_; have BK119 := n1_; have GW119 := n2_; have GE119 := n3_; clear n0_ n1_ n2_ n3_; clear hb hbox hg; have hcz7_0 : w6.cell? ⟨gb119, 0, none⟩ = some (.int .u64 a0_0) := (blk_cell BK119.out 0).trans rfl; have hcz7_1 : w6.cell? ⟨gb119, 1, none⟩ = some (.int .u64 a0_1) := (blk_cell BK119.out 1).trans rfl; have hcz7_2 : w6.cell? ⟨gb119, 2, none⟩ = some (.int .u64 a0_2) := (blk_cell BK119.out 2).trans rfl; have hcz7_3 : w6.cell? ⟨gb119, 3, none⟩ = some (.int .i64 a0_3) := (blk_cell BK119.out 3).trans rfl; have hcz7_4 : w6.cell? ⟨gb119, 4, none⟩ = some (.slice A0_4 l0_4.length c0_4) := (blk_cell BK119.out 4).trans rfl; have hcz7_5 : w6.cell? ⟨gb119, 5, none⟩ = some (.slice A0_5 l0_5.length c0_5) := (blk_cell BK119.out 5).trans rfl; have hfz7_0 := blk_frozen BK119.out 0; have hfz7_1 := blk_frozen BK119.out 1; have hfz7_2 := blk_frozen BK119.out 2; have hfz7_3 := blk_frozen BK119.out 3; have hfz7_4 := blk_frozen BK119.out 4; have hfz7_5 := blk_frozen BK119.out 5; have p120 : 0 ≤ (a1 : Int) := of_decide_eq_true (by first | (with_reducible assumption) | assumption); have q120 : a1 < (l0_4.length : Int) := of_decide_eq_true (by first | (with_reducible assumption) | assumption); obtain ⟨ad120, A120_2, c120_2, e120, hx120_0, hx120_1, hx120_2, hl120_2, hi120_2⟩ := at_T90 HR0_4.out a1 p120 q120; cases e120; replace hx120_0 := (HB.out.cell (World.block_lt_of_cell? w _ hx120_0)).trans hx120_0; replace hx120_1 := (HB.out.cell (World.block_lt_of_cell? w _ hx120_1)).trans hx120_1; replace hx120_2 := (HB.out.cell (World.block_lt_of_cell? w _ hx120_2)).trans hx120_2; have HR120_2 := Aside0.mk hi120_2; have HC120_2 := Aside0.mk hl120_2; clear hi120_2 hl120_2; replace p120 := eq_true p120; replace q120 := eq_true q120) | ((with_reducible refine gate_dst (N := 5) rfl ?_); refine box_event ?hg (N := 5) ?hd (cs := #[.int .u64 0, .int .i64 0, .slice none 0 0]) (t := 90) ?hr ?_; (case hd => rfl); (case hg => rfl); (case hr => first | (go_simp; done) | (go_simp; rfl)); intro gb121 hg w8 hbox hb; have n0_ := Aside0.mk (blk_below (g := gb119) (o := .cells #[.int .u64 a0_0, .int .u64 a0_1, .int .u64 a0_2, .int .i64 a0_3, .slice (some ad120) l0_4.length c0_4, .slice A0_5 l0_5.length c0_5] 31 (0, 0)) (by (with_reducible repeat (first | refine blk_drewN ?_ _ | refine blk_drew ?_ | refine blk_alloc ?_ _)); exact BK119.out) hb); have n1_ := Aside0.mk (below_step (by repeat (first | (with_reducible first | exact HB.out | apply below_alloc | apply pw_below_drewN | apply below_drew1 | refine below_set ?_ GE119.out) | exact HB.out)) hb); have n2_ := Aside0.mk (hbox); have n3_ := Aside0.mk ((by rw [hg]; exact (below_size (by repeat (first | (with_reducible first | exact HB.out | apply below_alloc | apply pw_below_drewN | apply below_drew1 | refine below_set ?_ GE119.out) | exact HB.out))) : w.heap.size ≤ gb121)); have n4_ := Aside0.mk ((by rw [hg]; exact (below_size (by repeat (first | (with_reducible first | exact HB.out | apply below_alloc | apply pw_below_drewN | apply below_drew1 | refine below_set ?_ GE119.out) | exact HB.out))) : w.heap.size ≤ gb121)); have n5_ := Aside0.mk ((by rw [hg]; exact Nat.ne_of_lt (blk_lt (g := gb119) (o := .cells #[.int .u64 a0_0, .int .u64 a0_1, .int .u64 a0_2, .int .i64 a0_3, .slice (some ad120) l0_4.length c0_4, .slice A0_5 l0_5.length c0_5] 31 (0, 0)) (by (with_reducible repeat (first | refine blk_drewN ?_ _ | refine blk_drew ?_ | refine blk_alloc ?_ _)); exact BK119.out)) : gb119 ≠ gb121)); have n6_ := Aside0.mk ((by rw [hg]; exact Nat.ne_of_gt (blk_lt (g := gb119) (o := .cells #[.int .u64 a0_0, .int .u64 a0_1, .int .u64 a0_2, .int .i64 a0_3, .slice (some ad120) l0_4.length c0_4, .slice A0_5 l0_5.length c0_5] 31 (0, 0)) (by (with_reducible repeat (first | refine blk_drewN ?_ _ | refine blk_drew ?_ | refine blk_alloc ?_ _)); exact BK119.out)) : gb121 ≠ gb119)); clear BK119; clear HB; have BK119 := n0_; have HB := n1_; have BK121 := n2_; have GW121 := n3_; have GE121 := n4_; have NB119_121 := n5_; have NB121_119 := n6_; clear n0_ n1_ n2_ n3_ n4_ n5_ n6_; clear hb hbox hg; have hnb9 := NB121_119.out; have hnc9 := NB119_121.out; have hcz10_0 : w8.cell? ⟨gb121, 0, none⟩ = some (.int .u64 0) := (blk_cell BK121.out 0).trans rfl; have hcz10_1 : w8.cell? ⟨gb121, 1, none⟩ = some (.int .i64 0) := (blk_cell BK121.out 1).trans rfl; have hcz10_2 : w8.cell? ⟨gb121, 2, none⟩ = some (.slice none 0 0) := (blk_cell BK121.out 2).trans rfl; have hfz10_0 := blk_frozen BK121.out 0; have hfz10_1 := blk_frozen BK121.out 1; have hfz10_2 := blk_frozen BK121.out 2))
   repeat (go_quiet (first | ((with_reducible refine gate_dst (N := 2) rfl ?_); refine box_event ?hg (N := 2) ?hd (cs := #[.int .u64 a0_0, .int .u64 a0_1, .int .u64 a0_2, .int .i64 a0_3, .slice A0_4 l0_4.length c0_4, .slice A0_5 l0_5.length c0_5]) (t := 31) ?hr ?_; (case hd => rfl); (case hg => rfl); (case hr => first | (go_simp; done) | (go_simp; rfl)); intro gb119 hg w6 hbox hb; have n0_ := Aside0.mk (below_step (by repeat (first | (with_reducible first | exact HB.out | apply below_alloc | apply pw_below_drewN | apply below_drew1) | exact HB.out)) hb); have n1_ := Aside0.mk (hbox); have n2_ := Aside0.mk ((by rw [hg]; exact (below_size (by repeat (first | (with_reducible first | exact HB.out | apply below_alloc | apply pw_below_drewN | apply below_drew1) | exact HB.out))) : w.heap.size ≤ gb119)); have n3_ := Aside0.mk ((by rw [hg]; exact (below_size (by repeat (first | (with_reducible first | exact HB.out | apply below_alloc | apply pw_below_drewN | apply below_drew1) | exact HB.out))) : w.heap.size ≤ gb119)); clear HB; have HB := n0_; have BK119 := n1_; have GW119 := n2_; have GE119 := n3_; clear n0_ n1_ n2_ n3_; clear hb hbox hg; have hcz7_0 : w6.cell? ⟨gb119, 0, none⟩ = some (.int .u64 a0_0) := (blk_cell BK119.out 0).trans rfl; have hcz7_1 : w6.cell? ⟨gb119, 1, none⟩ = some (.int .u64 a0_1) := (blk_cell BK119.out 1).trans rfl; have hcz7_2 : w6.cell? ⟨gb119, 2, none⟩ = some (.int .u64 a0_2) := (blk_cell BK119.out 2).trans rfl; have hcz7_3 : w6.cell? ⟨gb119, 3, none⟩ = some (.int .i64 a0_3) := (blk_cell BK119.out 3).trans rfl; have hcz7_4 : w6.cell? ⟨gb119, 4, none⟩ = some (.slice A0_4 l0_4.length c0_4) := (blk_cell BK119.out 4).trans rfl; have hcz7_5 : w6.cell? ⟨gb119, 5, none⟩ = some (.slice A0_5 l0_5.length c0_5) := (blk_cell BK119.out 5).trans rfl; have hfz7_0 := blk_frozen BK119.out 0; have hfz7_1 := blk_frozen BK119.out 1; have hfz7_2 := blk_frozen BK119.out 2; have hfz7_3 := blk_frozen BK119.out 3; have hfz7_4 := blk_frozen BK119.out 4; have hfz7_5 := blk_frozen BK119.out 5; have p120 : 0 ≤ (a1 : Int) := of_decide_eq_true (by first | (with_reducible assumption) | assumption); have q120 : a1 < (l0_4.length : Int) := of_decide_eq_true (by first | (with_reducible assumption) | assumption); obtain ⟨ad120, A120_2, c120_2, e120, hx120_0, hx120_1, hx120_2, hl120_2, hi120_2⟩ := at_T90 HR0_4.out a1 p120 q120; cases e120; replace hx120_0 := (HB.out.cell (World.block_lt_of_cell? w _ hx120_0)).trans hx120_0; replace hx120_1 := (HB.out.cell (World.block_lt_of_cell? w _ hx120_1)).trans hx120_1; replace hx120_2 := (HB.out.cell (World.block_lt_of_cell? w _ hx120_2)).trans hx120_2; have HR120_2 := Aside0.mk hi120_2; have HC120_2 := Aside0.mk hl120_2; clear hi120_2 hl120_2; replace p120 := eq_true p120; replace q120 := eq_true q120) | ((with_reducible refine gate_dst (N := 5) rfl ?_); refine box_event ?hg (N := 5) ?hd (cs := #[.int .u64 0, .int .i64 0, .slice none 0 0]) (t := 90) ?hr ?_; (case hd => rfl); (case hg => rfl); (case hr => first | (go_simp; done) | (go_simp; rfl)); intro gb121 hg w8 hbox hb; have n0_ := Aside0.mk (blk_below (g := gb119) (o := .cells #[.int .u64 a0_0, .int .u64 a0_1, .int .u64 a0_2, .int .i64 a0_3, .slice (some ad120) l0_4.length c0_4, .slice A0_5 l0_5.length c0_5] 31 (0, 0)) (by (with_reducible repeat (first | refine blk_drewN ?_ _ | refine blk_drew ?_ | refine blk_alloc ?_ _)); exact BK119.out) hb); have n1_ := Aside0.mk (below_step (by repeat (first | (with_reducible first | exact HB.out | apply below_alloc | apply pw_below_drewN | apply below_drew1 | refine below_set ?_ GE119.out) | exact HB.out)) hb); have n2_ := Aside0.mk (hbox); have n3_ := Aside0.mk ((by rw [hg]; exact (below_size (by repeat (first | (with_reducible first | exact HB.out | apply below_alloc | apply pw_below_drewN | apply below_drew1 | refine below_set ?_ GE119.out) | exact HB.out))) : w.heap.size ≤ gb121)); have n4_ := Aside0.mk ((by rw [hg]; exact (below_size (by repeat (first | (with_reducible first | exact HB.out | apply below_alloc | apply pw_below_drewN | apply below_drew1 | refine below_set ?_ GE119.out) | exact HB.out))) : w.heap.size ≤ gb121)); have n5_ := Aside0.mk ((by rw [hg]; exact Nat.ne_of_lt (blk_lt (g := gb119) (o := .cells #[.int .u64 a0_0, .int .u64 a0_1, .int .u64 a0_2, .int .i64 a0_3, .slice (some ad120) l0_4.length c0_4, .slice A0_5 l0_5.length c0_5] 31 (0, 0)) (by (with_reducible repeat (first | refine blk_drewN ?_ _ | refine blk_drew ?_ | refine blk_alloc ?_ _)); exact BK119.out)) : gb119 ≠ gb121)); have n6_ := Aside0.mk ((by rw [hg]; exact Nat.ne_of_gt (blk_lt (g := gb119) (o := .cells #[.int .u64 a0_0, .int .u64 a0_1, .int .u64 a0_2, .int .i64 a0_3, .slice (some ad120) l0_4.length c0_4, .slice A0_5 l0_5.length c0_5] 31 (0, 0)) (by (with_reducible repeat (first | refine blk_drewN ?_ _ | refine blk_drew ?_ | refine blk_alloc ?_ _)); exact BK119.out)) : gb121 ≠ gb119)); clear BK119; clear HB; have BK119 := n0_; have HB := n1_; have BK121 := n2_; have GW121 := n3_; have GE121 := n4_; have NB119_121 := n5_; have NB121_119 := n6_; clear n0_ n1_ n2_ n3_ n4_ n5_ n6_; clear hb hbox hg; have hnb9 := NB121_119.out; have hnc9 := NB119_121.out; have hcz10_0 : w8.cell? ⟨gb121, 0, none⟩ = some (.int .u64 0) := (blk_cell BK121.out 0).trans rfl; have hcz10_1 : w8.cell? ⟨gb121, 1, none⟩ = some (.int .i64 0) := (blk_cell BK121.out 1).trans rfl; have hcz10_2 : w8.cell? ⟨gb121, 2, none⟩ = some (.slice none 0 0) := (blk_cell BK121.out 2).trans rfl; have hfz10_0 := blk_frozen BK121.out 0; have hfz10_1 := blk_frozen BK121.out 1; have hfz10_2 := blk_frozen BK121.out 2)); go_upto_region 2 with (first | ((with_reducible refine gate_dst (N := 2) rfl ?_); refine box_event ?hg (N := 2) ?hd (cs := #[.int .u64 a0_0, .int .u64 a0_1, .int .u64 a0_2, .int .i64 a0_3, .slice A0_4 l0_4.length c0_4, .slice A0_5 l0_5.length c0_5]) (t := 31) ?hr ?_; (case hd => rfl); (case hg => rfl); (case hr => first | (go_simp; done) | (go_simp; rfl)); intro gb119 hg w6 hbox hb; have n0_ := Aside0.mk (below_step (by repeat (first | (with_reducible first | exact HB.out | apply below_alloc | apply pw_below_drewN | apply below_drew1) | exact HB.out)) hb); have n1_ := Aside0.mk (hbox); have n2_ := Aside0.mk ((by rw [hg]; exact (below_size (by repeat (first | (with_reducible first | exact HB.out | apply below_alloc | apply pw_below_drewN | apply below_drew1) | exact HB.out))) : w.heap.size ≤ gb119)); have n3_ := Aside0.mk ((by rw [hg]; exact (below_size (by repeat (first | (with_reducible first | exact HB.out | apply below_alloc | apply pw_below_drewN | apply below_drew1) | exact HB.out))) : w.heap.size ≤ gb119)); clear HB; have HB := n0_; have BK119 := n1_; have GW119 := n2_; have GE119 := n3_; clear n0_ n1_ n2_ n3_; clear hb hbox hg; have hcz7_0 : w6.cell? ⟨gb119, 0, none⟩ = some (.int .u64 a0_0) := (blk_cell BK119.out 0).trans rfl; have hcz7_1 : w6.cell? ⟨gb119, 1, none⟩ = some (.int .u64 a0_1) := (blk_cell BK119.out 1).trans rfl; have hcz7_2 : w6.cell? ⟨gb119, 2, none⟩ = some (.int .u64 a0_2) := (blk_cell BK119.out 2).trans rfl; have hcz7_3 : w6.cell? ⟨gb119, 3, none⟩ = some (.int .i64 a0_3) := (blk_cell BK119.out 3).trans rfl; have hcz7_4 : w6.cell? ⟨gb119, 4, none⟩ = some (.slice A0_4 l0_4.length c0_4) := (blk_cell BK119.out 4).trans rfl; have hcz7_5 : w6.cell? ⟨gb119, 5, none⟩ = some (.slice A0_5 l0_5.length c0_5) := (blk_cell BK119.out 5).trans rfl; have hfz7_0 := blk_frozen BK119.out 0; have hfz7_1 := blk_frozen BK119.out 1; have hfz7_2 := blk_frozen BK119.out 2; have hfz7_3 := blk_frozen BK119.out 3; have hfz7_4 := blk_frozen BK119.out 4; have hfz7_5 := blk_frozen BK119.out 5; have p120 : 0 ≤ (a1 : Int) := of_decide_eq_true (by first | (with_reducible assumption) | assumption); have q120 : a1 < (l0_4.length : Int) := of_decide_eq_true (by first | (with_reducible assumption) | assumption); obtain ⟨ad120, A120_2, c120_2, e120, hx120_0, hx120_1, hx120_2, hl120_2, hi120_2⟩ := at_T90 HR0_4.out a1 p120 q120; cases e120; replace hx120_0 := (HB.out.cell (World.block_lt_of_cell? w _ hx120_0)).trans hx120_0; replace hx120_1 := (HB.out.cell (World.block_lt_of_cell? w _ hx120_1)).trans hx120_1; replace hx120_2 := (HB.out.cell (World.block_lt_of_cell? w _ hx120_2)).trans hx120_2; have HR120_2 := Aside0.mk hi120_2; have HC120_2 := Aside0.mk hl120_2; clear hi120_2 hl120_2; replace p120 := eq_true p120; replace q120 := eq_true q120) | ((with_reducible refine gate_dst (N := 5) rfl ?_); refine box_event ?hg (N := 5) ?hd (cs := #[.int .u64 0, .int .i64 0, .slice none 0 0]) (t := 90) ?hr ?_; (case hd => rfl); (case hg => rfl); (case hr => first | (go_simp; done) | (go_simp; rfl)); intro gb121 hg w8 hbox hb; have n0_ := Aside0.mk (blk_below (g := gb119) (o := .cells #[.int .u64 a0_0, .int .u64 a0_1, .int .u64 a0_2, .int .i64 a0_3, .slice (some ad120) l0_4.length c0_4, .slice A0_5 l0_5.length c0_5] 31 (0, 0)) (by (with_reducible repeat (first | refine blk_drewN ?_ _ | refine blk_drew ?_ | refine blk_alloc ?_ _)); exact BK119.out) hb); have n1_ := Aside0.mk (below_step (by repeat (first | (with_reducible first | exact HB.out | apply below_alloc | apply pw_below_drewN | apply below_drew1 | refine below_set ?_ GE119.out) | exact HB.out)) hb); have n2_ := Aside0.mk (hbox); have n3_ := Aside0.mk ((by rw [hg]; exact (below_size (by repeat (first | (with_reducible first | exact HB.out | apply below_alloc | apply pw_below_drewN | apply below_drew1 | refine below_set ?_ GE119.out) | exact HB.out))) : w.heap.size ≤ gb121)); have n4_ := Aside0.mk ((by rw [hg]; exact (below_size (by repeat (first | (with_reducible first | exact HB.out | apply below_alloc | apply pw_below_drewN | apply below_drew1 | refine below_set ?_ GE119.out) | exact HB.out))) : w.heap.size ≤ gb121)); have n5_ := Aside0.mk ((by rw [hg]; exact Nat.ne_of_lt (blk_lt (g := gb119) (o := .cells #[.int .u64 a0_0, .int .u64 a0_1, .int .u64 a0_2, .int .i64 a0_3, .slice (some ad120) l0_4.length c0_4, .slice A0_5 l0_5.length c0_5] 31 (0, 0)) (by (with_reducible repeat (first | refine blk_drewN ?_ _ | refine blk_drew ?_ | refine blk_alloc ?_ _)); exact BK119.out)) : gb119 ≠ gb121)); have n6_ := Aside0.mk ((by rw [hg]; exact Nat.ne_of_gt (blk_lt (g := gb119) (o := .cells #[.int .u64 a0_0, .int .u64 a0_1, .int .u64 a0_2, .int .i64 a0_3, .slice (some ad120) l0_4.length c0_4, .slice A0_5 l0_5.length c0_5] 31 (0, 0)) (by (with_reducible repeat (first | refine blk_drewN ?_ _ | refine blk_drew ?_ | refine blk_alloc ?_ _)); exact BK119.out)) : gb121 ≠ gb119)); clear BK119; clear HB; have BK119 := n0_; have HB := n1_; have BK121 := n2_; have GW121 := n3_; have GE121 := n4_; have NB119_121 := n5_; have NB121_119 := n6_; clear n0_ n1_ n2_ n3_ n4_ n5_ n6_; clear hb hbox hg; have hnb9 := NB121_119.out; have hnc9 := NB119_121.out; have hcz10_0 : w8.cell? ⟨gb121, 0, none⟩ = some (.int .u64 0) := (blk_cell BK121.out 0).trans rfl; have hcz10_1 : w8.cell? ⟨gb121, 1, none⟩ = some (.int .i64 0) := (blk_cell BK121.out 1).trans rfl; have hcz10_2 : w8.cell? ⟨gb121, 2, none⟩ = some (.slice none 0 0) := (blk_cell BK121.out 2).trans rfl; have hfz10_0 := blk_frozen BK121.out 0; have hfz10_1 := blk_frozen BK121.out 1; have hfz10_2 := blk_frozen BK121.out 2)))
   (try simp only [Act.put, List.setIfInBounds_toArray, List.set_cons_zero, List.set_cons_succ])
   go_cut [36] (fun v36 wc => ∃ (kq : Nat) (x36_4 : Bool), v36 = .bool x36_4 ∧ Aside0 (spec_l3sessionOK.j0 kq x36_4 ((rd_T90 l0_4 a1).f0) ((rd_T90 l0_4 a1).f1) ((rd_T90 l0_4 a1).f2) = some r) ∧ Aside0 (kq ≤ k) ∧ Aside0 (wc.heap[gb119]? = some (.cells #[.int .u64 a0_0, .int .u64 a0_1, .int .u64 a0_2, .int .i64 a0_3, (.slice (some ad120) l0_4.length c0_4), (.slice A0_5 l0_5.length c0_5)] 31 (0, 0))) ∧ Aside0 (wc.heap[gb121]? = some (.cells #[.int .u64 ((rd_T90 l0_4 a1).f0), .int .i64 ((rd_T90 l0_4 a1).f1), (.slice A120_2 ((rd_T90 l0_4 a1).f2).length c120_2)] 90 (0, 0))) ∧ Aside0 (Below w.heap.size w wc))
   case first =>
    have H := HC5.out
    clear HC5
    by_cases c11 : ((rd_T90 l0_4 a1).f0) < 1
    ·
     rw [if_pos c11] at H
     have c11b0 : decide (((rd_T90 l0_4 a1).f0) < 1) = true := decide_eq_true c11
     clear c11
     (first | rw [c11b0] | (simp only [i64_w, i32_w]; rw [c11b0]) | skip)
     have H' := Aside0.mk H
     clear H
     have hnb12 := NB121_119.out
     have hnc12 := NB119_121.out
     have hcz13_0 : w8.cell? ⟨gb121, 0, none⟩ = some (.int .u64 0) := (blk_cell BK121.out 0).trans rfl
     have hcz13_1 : w8.cell? ⟨gb121, 1, none⟩ = some (.int .i64 0) := (blk_cell BK121.out 1).trans rfl
     have hcz13_2 : w8.cell? ⟨gb121, 2, none⟩ = some (.slice none 0 0) := (blk_cell BK121.out 2).trans rfl
     have hfz13_0 := blk_frozen BK121.out 0
     have hfz13_1 := blk_frozen BK121.out 1
     have hfz13_2 := blk_frozen BK121.out 2
     go_wp2
     repeat (go_quiet (fail); try go_wp2)
     go_meet
     case rel => exact ⟨_, (true), (by first | rfl | (simp; done) | (simp [*]; done)), H', ⟨by first | omega | exact Nat.le_refl _⟩, ⟨by (with_reducible repeat (first | refine blk_drewN ?_ _ | refine blk_drew ?_ | refine blk_alloc ?_ _)); refine blk_far ?_ NB119_121.out _; (with_reducible repeat (first | refine blk_drewN ?_ _ | refine blk_drew ?_ | refine blk_alloc ?_ _)); refine blk_far ?_ NB119_121.out _; (with_reducible repeat (first | refine blk_drewN ?_ _ | refine blk_drew ?_ | refine blk_alloc ?_ _)); refine blk_far ?_ NB119_121.out _; (with_reducible repeat (first | refine blk_drewN ?_ _ | refine blk_drew ?_ | refine blk_alloc ?_ _)); exact BK119.out⟩, ⟨by (with_reducible repeat (first | refine blk_drewN ?_ _ | refine blk_drew ?_ | refine blk_alloc ?_ _)); refine blk_put (cs := #[.int .u64 ((rd_T90 l0_4 a1).f0), .int .i64 ((rd_T90 l0_4 a1).f1), .slice none 0 0]) ?_ 2 _ rfl; (with_reducible repeat (first | refine blk_drewN ?_ _ | refine blk_drew ?_ | refine blk_alloc ?_ _)); refine blk_put (cs := #[.int .u64 ((rd_T90 l0_4 a1).f0), .int .i64 0, .slice none 0 0]) ?_ 1 _ rfl; (with_reducible repeat (first | refine blk_drewN ?_ _ | refine blk_drew ?_ | refine blk_alloc ?_ _)); refine blk_put (cs := #[.int .u64 0, .int .i64 0, .slice none 0 0]) ?_ 0 _ rfl; (with_reducible repeat (first | refine blk_drewN ?_ _ | refine blk_drew ?_ | refine blk_alloc ?_ _)); exact BK121.out⟩, ⟨by repeat (first | (with_reducible first | exact HB.out | apply below_alloc | apply pw_below_drewN | apply below_drew1 | refine below_set ?_ GE119.out | refine below_set ?_ GE121.out) | exact HB.out)⟩⟩
    ·
     rw [if_neg c11] at H
     have c11b0 : decide (((rd_T90 l0_4 a1).f0) < 1) = false := decide_eq_false c11
     clear c11
     (first | rw [c11b0] | (simp only [i64_w, i32_w]; rw [c11b0]) | skip)
     by_cases c14 : ((rd_T90 l0_4 a1).f0) > a0_2
     ·
      rw [if_pos c14] at H
      have c14b0 : decide (a0_2 < ((rd_T90 l0_4 a1).f0)) = true := decide_eq_true c14
      clear c14
      have H' := Aside0.mk H
      clear H
      have hnb15 := NB121_119.out
      have hnc15 := NB119_121.out
      have hcz16_0 : w8.cell? ⟨gb121, 0, none⟩ = some (.int .u64 0) := (blk_cell BK121.out 0).trans rfl
      have hcz16_1 : w8.cell? ⟨gb121, 1, none⟩ = some (.int .i64 0) := (blk_cell BK121.out 1).trans rfl
      have hcz16_2 : w8.cell? ⟨gb121, 2, none⟩ = some (.slice none 0 0) := (blk_cell BK121.out 2).trans rfl
      have hfz16_0 := blk_frozen BK121.out 0
      have hfz16_1 := blk_frozen BK121.out 1
      have hfz16_2 := blk_frozen BK121.out 2
      have hcz17_0 : w8.cell? ⟨gb119, 0, none⟩ = some (.int .u64 a0_0) := (blk_cell BK119.out 0).trans rfl
      have hcz17_1 : w8.cell? ⟨gb119, 1, none⟩ = some (.int .u64 a0_1) := (blk_cell BK119.out 1).trans rfl
      have hcz17_2 : w8.cell? ⟨gb119, 2, none⟩ = some (.int .u64 a0_2) := (blk_cell BK119.out 2).trans rfl
      have hcz17_3 : w8.cell? ⟨gb119, 3, none⟩ = some (.int .i64 a0_3) := (blk_cell BK119.out 3).trans rfl
      have hcz17_4 : w8.cell? ⟨gb119, 4, none⟩ = some (.slice (some ad120) l0_4.length c0_4) := (blk_cell BK119.out 4).trans rfl
      have hcz17_5 : w8.cell? ⟨gb119, 5, none⟩ = some (.slice A0_5 l0_5.length c0_5) := (blk_cell BK119.out 5).trans rfl
      have hfz17_0 := blk_frozen BK119.out 0
      have hfz17_1 := blk_frozen BK119.out 1
      have hfz17_2 := blk_frozen BK119.out 2
      have hfz17_3 := blk_frozen BK119.out 3
      have hfz17_4 := blk_frozen BK119.out 4
      have hfz17_5 := blk_frozen BK119.out 5
      go_wp2
      repeat (go_quiet (fail); try go_wp2)
      go_meet
      case rel => exact ⟨_, (true), (by first | rfl | (simp; done) | (simp [*]; done)), H', ⟨by first | omega | exact Nat.le_refl _⟩, ⟨by (with_reducible repeat (first | refine blk_drewN ?_ _ | refine blk_drew ?_ | refine blk_alloc ?_ _)); refine blk_far ?_ NB119_121.out _; (with_reducible repeat (first | refine blk_drewN ?_ _ | refine blk_drew ?_ | refine blk_alloc ?_ _)); refine blk_far ?_ NB119_121.out _; (with_reducible repeat (first | refine blk_drewN ?_ _ | refine blk_drew ?_ | refine blk_alloc ?_ _)); refine blk_far ?_ NB119_121.out _; (with_reducible repeat (first | refine blk_drewN ?_ _ | refine blk_drew ?_ | refine blk_alloc ?_ _)); exact BK119.out⟩, ⟨by (with_reducible repeat (first | refine blk_drewN ?_ _ | refine blk_drew ?_ | refine blk_alloc ?_ _)); refine blk_put (cs := #[.int .u64 ((rd_T90 l0_4 a1).f0), .int .i64 ((rd_T90 l0_4 a1).f1), .slice none 0 0]) ?_ 2 _ rfl; (with_reducible repeat (first | refine blk_drewN ?_ _ | refine blk_drew ?_ | refine blk_alloc ?_ _)); refine blk_put (cs := #[.int .u64 ((rd_T90 l0_4 a1).f0), .int .i64 0, .slice none 0 0]) ?_ 1 _ rfl; (with_reducible repeat (first | refine blk_drewN ?_ _ | refine blk_drew ?_ | refine blk_alloc ?_ _)); refine blk_put (cs := #[.int .u64 0, .int .i64 0, .slice none 0 0]) ?_ 0 _ rfl; (with_reducible repeat (first | refine blk_drewN ?_ _ | refine blk_drew ?_ | refine blk_alloc ?_ _)); exact BK121.out⟩, ⟨by repeat (first | (with_reducible first | exact HB.out | apply below_alloc | apply pw_below_drewN | apply below_drew1 | refine below_set ?_ GE119.out | refine below_set ?_ GE121.out) | exact HB.out)⟩⟩
     ·
      rw [if_neg c14] at H
      have c14b0 : decide (a0_2 < ((rd_T90 l0_4 a1).f0)) = false := decide_eq_false c14
      clear c14
      by_cases c18 : a1 > 0
      ·
       rw [if_pos c18] at H
       have c18b0 : decide (0 < a1) = true := decide_eq_true c18
       clear c18
       obtain ⟨ji19, hji19⟩ : ∃ j_ : Int, (wrap64 (a1 - 1)) = j_ := ⟨_, rfl⟩
       replace H : (if 0 ≤ (ji19) then (if (ji19) < (l0_4.length : Int) then (spec_l3sessionOK.j0 k (decide (((rd_T90 l0_4 a1).f0) ≤ ((rd_T90 l0_4 (ji19)).f0))) ((rd_T90 l0_4 a1).f0) ((rd_T90 l0_4 a1).f1) ((rd_T90 l0_4 a1).f2)) else (none)) else (none)) = some r := by first | (rw [hji19] at H; exact H) | (simp only [hji19] at H ⊢; exact H)
       have hji19w : (IntKind.i64.wrap (a1 - 1)) = ji19 := (i64_w _).trans hji19
       by_cases c20 : 0 ≤ (ji19)
       ·
        rw [if_pos c20] at H
        have c20b0 : decide (0 ≤ (ji19)) = true := decide_eq_true c20
        clear c20
        by_cases c21 : (ji19) < (l0_4.length : Int)
        ·
         rw [if_pos c21] at H
         have c21b0 : decide ((ji19) < (l0_4.length : Int)) = true := decide_eq_true c21
         clear c21
         have H' := Aside0.mk H
         clear H
         have hnb22 := NB121_119.out
         have hnc22 := NB119_121.out
         have hcz23_0 : w8.cell? ⟨gb121, 0, none⟩ = some (.int .u64 0) := (blk_cell BK121.out 0).trans rfl
         have hcz23_1 : w8.cell? ⟨gb121, 1, none⟩ = some (.int .i64 0) := (blk_cell BK121.out 1).trans rfl
         have hcz23_2 : w8.cell? ⟨gb121, 2, none⟩ = some (.slice none 0 0) := (blk_cell BK121.out 2).trans rfl
         have hfz23_0 := blk_frozen BK121.out 0
         have hfz23_1 := blk_frozen BK121.out 1
         have hfz23_2 := blk_frozen BK121.out 2
         have hcz24_0 : w8.cell? ⟨gb119, 0, none⟩ = some (.int .u64 a0_0) := (blk_cell BK119.out 0).trans rfl
         have hcz24_1 : w8.cell? ⟨gb119, 1, none⟩ = some (.int .u64 a0_1) := (blk_cell BK119.out 1).trans rfl
         have hcz24_2 : w8.cell? ⟨gb119, 2, none⟩ = some (.int .u64 a0_2) := (blk_cell BK119.out 2).trans rfl
         have hcz24_3 : w8.cell? ⟨gb119, 3, none⟩ = some (.int .i64 a0_3) := (blk_cell BK119.out 3).trans rfl
         have hcz24_4 : w8.cell? ⟨gb119, 4, none⟩ = some (.slice (some ad120) l0_4.length c0_4) := (blk_cell BK119.out 4).trans rfl
         have hcz24_5 : w8.cell? ⟨gb119, 5, none⟩ = some (.slice A0_5 l0_5.length c0_5) := (blk_cell BK119.out 5).trans rfl
         have hfz24_0 := blk_frozen BK119.out 0
         have hfz24_1 := blk_frozen BK119.out 1
         have hfz24_2 := blk_frozen BK119.out 2
         have hfz24_3 := blk_frozen BK119.out 3
         have hfz24_4 := blk_frozen BK119.out 4
         have hfz24_5 := blk_frozen BK119.out 5
         have p122 : 0 ≤ ((ji19) : Int) := of_decide_eq_true (by first | (with_reducible assumption) | assumption)
         have q122 : (ji19) < (l0_4.length : Int) := of_decide_eq_true (by first | (with_reducible assumption) | assumption)
         obtain ⟨ad122, A122_2, c122_2, e122, hx122_0, hx122_1, hx122_2, hl122_2, hi122_2⟩ := at_T90 HR0_4.out (ji19) p122 q122
         obtain rfl : ad120 = ad122 := (by injection e122)
         have hn122_0 : ad120.block ≠ gb121 := Nat.ne_of_lt (Nat.lt_of_lt_of_le (by have := World.block_lt_of_cell? _ _ hx122_0; first | rwa [add_block] at this | exact this) GW121.out)
         have hn122_1 : ad120.block ≠ gb121 := Nat.ne_of_lt (Nat.lt_of_lt_of_le (by have := World.block_lt_of_cell? _ _ hx122_0; first | rwa [add_block] at this | exact this) GW121.out)
         have hn122_2 : ad120.block ≠ gb121 := Nat.ne_of_lt (Nat.lt_of_lt_of_le (by have := World.block_lt_of_cell? _ _ hx122_0; first | rwa [add_block] at this | exact this) GW121.out)
         replace hx122_0 := (HB.out.cell (World.block_lt_of_cell? w _ hx122_0)).trans hx122_0
         replace hx122_1 := (HB.out.cell (World.block_lt_of_cell? w _ hx122_1)).trans hx122_1
         replace hx122_2 := (HB.out.cell (World.block_lt_of_cell? w _ hx122_2)).trans hx122_2
         have HR122_2 := Aside0.mk hi122_2
         have HC122_2 := Aside0.mk hl122_2
         clear hi122_2 hl122_2
         replace hx122_0 := (cell_far (p := ⟨gb121, 0, none⟩) (by first | (rw [add_block]; exact hn122_0) | (show (Addr.add _ _).block ≠ _; rw [add_block]; exact hn122_0) | exact hn122_0) (.int .u64 ((rd_T90 l0_4 a1).f0))).trans hx122_0
         replace hx122_1 := (cell_far (p := ⟨gb121, 0, none⟩) (by first | (rw [add_block]; exact hn122_0) | (show (Addr.add _ _).block ≠ _; rw [add_block]; exact hn122_0) | exact hn122_0) (.int .u64 ((rd_T90 l0_4 a1).f0))).trans hx122_1
         replace hx122_2 := (cell_far (p := ⟨gb121, 0, none⟩) (by first | (rw [add_block]; exact hn122_0) | (show (Addr.add _ _).block ≠ _; rw [add_block]; exact hn122_0) | exact hn122_0) (.int .u64 ((rd_T90 l0_4 a1).f0))).trans hx122_2
         replace hx122_0 := (cell_far (p := ⟨gb121, 1, none⟩) (by first | (rw [add_block]; exact hn122_1) | (show (Addr.add _ _).block ≠ _; rw [add_block]; exact hn122_1) | exact hn122_1) (.int .i64 ((rd_T90 l0_4 a1).f1))).trans hx122_0
         replace hx122_1 := (cell_far (p := ⟨gb121, 1, none⟩) (by first | (rw [add_block]; exact hn122_1) | (show (Addr.add _ _).block ≠ _; rw [add_block]; exact hn122_1) | exact hn122_1) (.int .i64 ((rd_T90 l0_4 a1).f1))).trans hx122_1
         replace hx122_2 := (cell_far (p := ⟨gb121, 1, none⟩) (by first | (rw [add_block]; exact hn122_1) | (show (Addr.add _ _).block ≠ _; rw [add_block]; exact hn122_1) | exact hn122_1) (.int .i64 ((rd_T90 l0_4 a1).f1))).trans hx122_2
         replace hx122_0 := (cell_far (p := ⟨gb121, 2, none⟩) (by first | (rw [add_block]; exact hn122_2) | (show (Addr.add _ _).block ≠ _; rw [add_block]; exact hn122_2) | exact hn122_2) (.slice A120_2 ((rd_T90 l0_4 a1).f2).length c120_2)).trans hx122_0
         replace hx122_1 := (cell_far (p := ⟨gb121, 2, none⟩) (by first | (rw [add_block]; exact hn122_2) | (show (Addr.add _ _).block ≠ _; rw [add_block]; exact hn122_2) | exact hn122_2) (.slice A120_2 ((rd_T90 l0_4 a1).f2).length c120_2)).trans hx122_1
         replace hx122_2 := (cell_far (p := ⟨gb121, 2, none⟩) (by first | (rw [add_block]; exact hn122_2) | (show (Addr.add _ _).block ≠ _; rw [add_block]; exact hn122_2) | exact hn122_2) (.slice A120_2 ((rd_T90 l0_4 a1).f2).length c120_2)).trans hx122_2
         (try have hy122_0 := fun (n_ : Nat) => (show (((((w8.drewN n_).setCell ⟨gb121, 0, none⟩ (.int .u64 ((rd_T90 l0_4 a1).f0))).setCell ⟨gb121, 1, none⟩ (.int .i64 ((rd_T90 l0_4 a1).f1))).setCell ⟨gb121, 2, none⟩ (.slice A120_2 ((rd_T90 l0_4 a1).f2).length c120_2))).cell? _ = some _ from hx122_0))
         (try have hy122_1 := fun (n_ : Nat) => (show (((((w8.drewN n_).setCell ⟨gb121, 0, none⟩ (.int .u64 ((rd_T90 l0_4 a1).f0))).setCell ⟨gb121, 1, none⟩ (.int .i64 ((rd_T90 l0_4 a1).f1))).setCell ⟨gb121, 2, none⟩ (.slice A120_2 ((rd_T90 l0_4 a1).f2).length c120_2))).cell? _ = some _ from hx122_1))
         (try have hy122_2 := fun (n_ : Nat) => (show (((((w8.drewN n_).setCell ⟨gb121, 0, none⟩ (.int .u64 ((rd_T90 l0_4 a1).f0))).setCell ⟨gb121, 1, none⟩ (.int .i64 ((rd_T90 l0_4 a1).f1))).setCell ⟨gb121, 2, none⟩ (.slice A120_2 ((rd_T90 l0_4 a1).f2).length c120_2))).cell? _ = some _ from hx122_2))
         clear hn122_0
         clear hn122_1
         clear hn122_2
         replace p122 := eq_true p122
         replace q122 := eq_true q122
         go_wp2
         repeat (go_quiet (fail); try go_wp2)
         go_meet
         case rel => exact ⟨_, (decide (((rd_T90 l0_4 a1).f0) ≤ ((rd_T90 l0_4 (ji19)).f0))), (by first | rfl | (simp; done) | (simp only [← hji19] <;> (first | rfl | simp)) | (simp [*]; done)), H', ⟨by first | omega | exact Nat.le_refl _⟩, ⟨by (with_reducible repeat (first | refine blk_drewN ?_ _ | refine blk_drew ?_ | refine blk_alloc ?_ _)); refine blk_far ?_ NB119_121.out _; (with_reducible repeat (first | refine blk_drewN ?_ _ | refine blk_drew ?_ | refine blk_alloc ?_ _)); refine blk_far ?_ NB119_121.out _; (with_reducible repeat (first | refine blk_drewN ?_ _ | refine blk_drew ?_ | refine blk_alloc ?_ _)); refine blk_far ?_ NB119_121.out _; (with_reducible repeat (first | refine blk_drewN ?_ _ | refine blk_drew ?_ | refine blk_alloc ?_ _)); exact BK119.out⟩, ⟨by (with_reducible repeat (first | refine blk_drewN ?_ _ | refine blk_drew ?_ | refine blk_alloc ?_ _)); refine blk_put (cs := #[.int .u64 ((rd_T90 l0_4 a1).f0), .int .i64 ((rd_T90 l0_4 a1).f1), .slice none 0 0]) ?_ 2 _ rfl; (with_reducible repeat (first | refine blk_drewN ?_ _ | refine blk_drew ?_ | refine blk_alloc ?_ _)); refine blk_put (cs := #[.int .u64 ((rd_T90 l0_4 a1).f0), .int .i64 0, .slice none 0 0]) ?_ 1 _ rfl; (with_reducible repeat (first | refine blk_drewN ?_ _ | refine blk_drew ?_ | refine blk_alloc ?_ _)); refine blk_put (cs := #[.int .u64 0, .int .i64 0, .slice none 0 0]) ?_ 0 _ rfl; (with_reducible repeat (first | refine blk_drewN ?_ _ | refine blk_drew ?_ | refine blk_alloc ?_ _)); exact BK121.out⟩, ⟨by repeat (first | (with_reducible first | exact HB.out | apply below_alloc | apply pw_below_drewN | apply below_drew1 | refine below_set ?_ GE119.out | refine below_set ?_ GE121.out) | exact HB.out)⟩⟩
        ·
         rw [if_neg c21] at H
         exact absurd H (by simp)
       ·
        rw [if_neg c20] at H
        exact absurd H (by simp)
      ·
       rw [if_neg c18] at H
       have c18b0 : decide (0 < a1) = false := decide_eq_false c18
       clear c18
       have H' := Aside0.mk H
       clear H
       have hnb25 := NB121_119.out
       have hnc25 := NB119_121.out
       have hcz26_0 : w8.cell? ⟨gb121, 0, none⟩ = some (.int .u64 0) := (blk_cell BK121.out 0).trans rfl
       have hcz26_1 : w8.cell? ⟨gb121, 1, none⟩ = some (.int .i64 0) := (blk_cell BK121.out 1).trans rfl
       have hcz26_2 : w8.cell? ⟨gb121, 2, none⟩ = some (.slice none 0 0) := (blk_cell BK121.out 2).trans rfl
       have hfz26_0 := blk_frozen BK121.out 0
       have hfz26_1 := blk_frozen BK121.out 1
       have hfz26_2 := blk_frozen BK121.out 2
       have hcz27_0 : w8.cell? ⟨gb119, 0, none⟩ = some (.int .u64 a0_0) := (blk_cell BK119.out 0).trans rfl
       have hcz27_1 : w8.cell? ⟨gb119, 1, none⟩ = some (.int .u64 a0_1) := (blk_cell BK119.out 1).trans rfl
       have hcz27_2 : w8.cell? ⟨gb119, 2, none⟩ = some (.int .u64 a0_2) := (blk_cell BK119.out 2).trans rfl
       have hcz27_3 : w8.cell? ⟨gb119, 3, none⟩ = some (.int .i64 a0_3) := (blk_cell BK119.out 3).trans rfl
       have hcz27_4 : w8.cell? ⟨gb119, 4, none⟩ = some (.slice (some ad120) l0_4.length c0_4) := (blk_cell BK119.out 4).trans rfl
       have hcz27_5 : w8.cell? ⟨gb119, 5, none⟩ = some (.slice A0_5 l0_5.length c0_5) := (blk_cell BK119.out 5).trans rfl
       have hfz27_0 := blk_frozen BK119.out 0
       have hfz27_1 := blk_frozen BK119.out 1
       have hfz27_2 := blk_frozen BK119.out 2
       have hfz27_3 := blk_frozen BK119.out 3
       have hfz27_4 := blk_frozen BK119.out 4
       have hfz27_5 := blk_frozen BK119.out 5
       go_wp2
       repeat (go_quiet (fail); try go_wp2)
       go_meet
       case rel => exact ⟨_, (false), (by first | rfl | (simp; done) | (simp [*]; done)), H', ⟨by first | omega | exact Nat.le_refl _⟩, ⟨by (with_reducible repeat (first | refine blk_drewN ?_ _ | refine blk_drew ?_ | refine blk_alloc ?_ _)); refine blk_far ?_ NB119_121.out _; (with_reducible repeat (first | refine blk_drewN ?_ _ | refine blk_drew ?_ | refine blk_alloc ?_ _)); refine blk_far ?_ NB119_121.out _; (with_reducible repeat (first | refine blk_drewN ?_ _ | refine blk_drew ?_ | refine blk_alloc ?_ _)); refine blk_far ?_ NB119_121.out _; (with_reducible repeat (first | refine blk_drewN ?_ _ | refine blk_drew ?_ | refine blk_alloc ?_ _)); exact BK119.out⟩, ⟨by (with_reducible repeat (first | refine blk_drewN ?_ _ | refine blk_drew ?_ | refine blk_alloc ?_ _)); refine blk_put (cs := #[.int .u64 ((rd_T90 l0_4 a1).f0), .int .i64 ((rd_T90 l0_4 a1).f1), .slice none 0 0]) ?_ 2 _ rfl; (with_reducible repeat (first | refine blk_drewN ?_ _ | refine blk_drew ?_ | refine blk_alloc ?_ _)); refine blk_put (cs := #[.int .u64 ((rd_T90 l0_4 a1).f0), .int .i64 0, .slice none 0 0]) ?_ 1 _ rfl; (with_reducible repeat (first | refine blk_drewN ?_ _ | refine blk_drew ?_ | refine blk_alloc ?_ _)); refine blk_put (cs := #[.int .u64 0, .int .i64 0, .slice none 0 0]) ?_ 0 _ rfl; (with_reducible repeat (first | refine blk_drewN ?_ _ | refine blk_drew ?_ | refine blk_alloc ?_ _)); exact BK121.out⟩, ⟨by repeat (first | (with_reducible first | exact HB.out | apply below_alloc | apply pw_below_drewN | apply below_drew1 | refine below_set ?_ GE119.out | refine below_set ?_ GE121.out) | exact HB.out)⟩⟩
   case rest =>
    clear HC5
    try clear c1
    try clear p1
    try clear q1
    try clear hx1
    try clear c2
    try clear p2
    try clear c3
    try clear c3b0
    try clear c4
    try clear c4b0
    try clear c6
    try clear p6
    try clear c9
    try clear c11
    try clear c11b0
    try clear c12
    try clear p12
    try clear q12
    try clear hx12
    try clear c14
    try clear c14b0
    try clear c15
    try clear c18
    try clear c18b0
    try clear c20
    try clear c20b0
    try clear c21
    try clear c21b0
    try clear c22
    try clear c25
    try clear hcz10_0
    try clear hcz10_1
    try clear hcz10_2
    try clear hcz13_0
    try clear hcz13_1
    try clear hcz13_2
    try clear hcz16_0
    try clear hcz16_1
    try clear hcz16_2
    try clear hcz17_0
    try clear hcz17_1
    try clear hcz17_2
    try clear hcz17_3
    try clear hcz17_4
    try clear hcz17_5
    try clear hcz23_0
    try clear hcz23_1
    try clear hcz23_2
    try clear hcz24_0
    try clear hcz24_1
    try clear hcz24_2
    try clear hcz24_3
    try clear hcz24_4
    try clear hcz24_5
    try clear hcz26_0
    try clear hcz26_1
    try clear hcz26_2
    try clear hcz27_0
    try clear hcz27_1
    try clear hcz27_2
    try clear hcz27_3
    try clear hcz27_4
    try clear hcz27_5
    try clear hcz7_0
    try clear hcz7_1
    try clear hcz7_2
    try clear hcz7_3
    try clear hcz7_4
    try clear hcz7_5
    try clear hfz10_0
    try clear hfz10_1
    try clear hfz10_2
    try clear hfz13_0
    try clear hfz13_1
    try clear hfz13_2
    try clear hfz16_0
    try clear hfz16_1
    try clear hfz16_2
    try clear hfz17_0
    try clear hfz17_1
    try clear hfz17_2
    try clear hfz17_3
    try clear hfz17_4
    try clear hfz17_5
    try clear hfz23_0
    try clear hfz23_1
    try clear hfz23_2
    try clear hfz24_0
    try clear hfz24_1
    try clear hfz24_2
    try clear hfz24_3
    try clear hfz24_4
    try clear hfz24_5
    try clear hfz26_0
    try clear hfz26_1
    try clear hfz26_2
    try clear hfz27_0
    try clear hfz27_1
    try clear hfz27_2
    try clear hfz27_3
    try clear hfz27_4
    try clear hfz27_5
    try clear hfz7_0
    try clear hfz7_1
    try clear hfz7_2
    try clear hfz7_3
    try clear hfz7_4
    try clear hfz7_5
    try clear hx120_0
    try clear hx120_1
    try clear hx120_2
    try clear hx122_0
    try clear hx122_1
    try clear hx122_2
    try clear p120
    try clear p122
    try clear q120
    try clear q122
    obtain ⟨kq, x36_4, rfl, HA, HJ4, BK119, BK121, HB⟩ := hcut
    cases kq with
    | zero => exact absurd HA.out (by simp [spec_l3sessionOK.j0])
    | succ kj4 =>
     have H := HA.out
     clear HA
     simp only [spec_l3sessionOK.j0] at H
     by_cases c28 : x36_4 = true
     ·
      subst c28
      have H1 : (some false) = some r := by first | rfl | (rw [if_pos rfl] at H; exact H)
      clear H
      have H := H1
      clear H1
      obtain rfl := Option.some.inj H
      go_wp2
      repeat (go_quiet (fail); try go_wp2)
      go_ret
      exact ⟨by first | rfl | (simp [errW_none, errW_some] <;> rfl) | (simp [*, errW_none, errW_some] <;> rfl), by repeat (first | (with_reducible first | exact HB.out | apply below_alloc | apply pw_below_drewN | apply below_drew1 | refine below_set ?_ GE119.out | refine below_set ?_ GE121.out) | exact HB.out)⟩
     ·
      replace c28 := Bool.eq_false_iff.mpr c28
      subst c28
      have H1 : (if ((rd_T90 l0_4 a1).f1) < 0 then (some false) else (if ((rd_T90 l0_4 a1).f1) > 1000015 then (some false) else ((spec_l3queueOK.f ((rd_T90 l0_4 a1).f2)).bind fun t123 => (some t123)))) = some r := by first | rfl | (rw [if_neg (show ¬ (false = true) by decide)] at H; exact H)
      clear H
      have H := H1
      clear H1
      by_cases c29 : ((rd_T90 l0_4 a1).f1) < 0
      ·
       rw [if_pos c29] at H
       have c29b0 : decide (((rd_T90 l0_4 a1).f1) < 0) = true := decide_eq_true c29
       clear c29
       obtain rfl := Option.some.inj H
       have hnb30 := NB121_119.out
       have hnc30 := NB119_121.out
       have hcz31_0 : wc.cell? ⟨gb121, 0, none⟩ = some (.int .u64 ((rd_T90 l0_4 a1).f0)) := (blk_cell BK121.out 0).trans rfl
       have hcz31_1 : wc.cell? ⟨gb121, 1, none⟩ = some (.int .i64 ((rd_T90 l0_4 a1).f1)) := (blk_cell BK121.out 1).trans rfl
       have hcz31_2 : wc.cell? ⟨gb121, 2, none⟩ = some (.slice A120_2 ((rd_T90 l0_4 a1).f2).length c120_2) := (blk_cell BK121.out 2).trans rfl
       have hfz31_0 := blk_frozen BK121.out 0
       have hfz31_1 := blk_frozen BK121.out 1
       have hfz31_2 := blk_frozen BK121.out 2
       go_wp2
       repeat (go_quiet (fail); try go_wp2)
       go_ret
       exact ⟨by first | rfl | (simp [errW_none, errW_some] <;> rfl) | (simp [*, errW_none, errW_some] <;> rfl), by repeat (first | (with_reducible first | exact HB.out | apply below_alloc | apply pw_below_drewN | apply below_drew1 | refine below_set ?_ GE119.out | refine below_set ?_ GE121.out) | exact HB.out)⟩
      ·
       rw [if_neg c29] at H
       have c29b0 : decide (((rd_T90 l0_4 a1).f1) < 0) = false := decide_eq_false c29
       clear c29
       by_cases c32 : ((rd_T90 l0_4 a1).f1) > 1000015
       ·
        rw [if_pos c32] at H
        have c32b0 : decide (1000015 < ((rd_T90 l0_4 a1).f1)) = true := decide_eq_true c32
        clear c32
        obtain rfl := Option.some.inj H
        have hnb33 := NB121_119.out
        have hnc33 := NB119_121.out
        have hcz34_0 : wc.cell? ⟨gb121, 0, none⟩ = some (.int .u64 ((rd_T90 l0_4 a1).f0)) := (blk_cell BK121.out 0).trans rfl
        have hcz34_1 : wc.cell? ⟨gb121, 1, none⟩ = some (.int .i64 ((rd_T90 l0_4 a1).f1)) := (blk_cell BK121.out 1).trans rfl
        have hcz34_2 : wc.cell? ⟨gb121, 2, none⟩ = some (.slice A120_2 ((rd_T90 l0_4 a1).f2).length c120_2) := (blk_cell BK121.out 2).trans rfl
        have hfz34_0 := blk_frozen BK121.out 0
        have hfz34_1 := blk_frozen BK121.out 1
        have hfz34_2 := blk_frozen BK121.out 2
        go_wp2
        repeat (go_quiet (fail); try go_wp2)
        go_ret
        exact ⟨by first | rfl | (simp [errW_none, errW_some] <;> rfl) | (simp [*, errW_none, errW_some] <;> rfl), by repeat (first | (with_reducible first | exact HB.out | apply below_alloc | apply pw_below_drewN | apply below_drew1 | refine below_set ?_ GE119.out | refine below_set ?_ GE121.out) | exact HB.out)⟩
       ·
        rw [if_neg c32] at H
        have c32b0 : decide (1000015 < ((rd_T90 l0_4 a1).f1)) = false := decide_eq_false c32
        clear c32
        replace H := Option.bind_eq_some_iff.mp H
        obtain ⟨t123, A350, H⟩ := H
        replace H : (some t123) = some r := H
        have A35 := Aside0.mk A350
        clear A350
        obtain rfl := Option.some.inj H
        have hnb36 := NB121_119.out
        have hnc36 := NB119_121.out
        have hcz37_0 : wc.cell? ⟨gb121, 0, none⟩ = some (.int .u64 ((rd_T90 l0_4 a1).f0)) := (blk_cell BK121.out 0).trans rfl
        have hcz37_1 : wc.cell? ⟨gb121, 1, none⟩ = some (.int .i64 ((rd_T90 l0_4 a1).f1)) := (blk_cell BK121.out 1).trans rfl
        have hcz37_2 : wc.cell? ⟨gb121, 2, none⟩ = some (.slice A120_2 ((rd_T90 l0_4 a1).f2).length c120_2) := (blk_cell BK121.out 2).trans rfl
        have hfz37_0 := blk_frozen BK121.out 0
        have hfz37_1 := blk_frozen BK121.out 1
        have hfz37_2 := blk_frozen BK121.out 2
        go_wp2_with (first | (go_at_call 117; (with_reducible refine (spec_l3queueOK.calls _ _ ((rd_T90 l0_4 a1).f2) t123 _ ?side1 ?side2 A35.out).mono ?_); (case side1 => repeat (first | exact (Kd.C_below HR120_2.out HB.out) | (with_reducible refine Kd.C_alloc ?_ _) | (with_reducible refine Kd.C_drewN ?_ _) | (with_reducible refine Kd.C_drew ?_))); (case side2 => exact HC120_2.out); rintro e w38 ⟨rfl, hb⟩; have n0_ := Aside0.mk (blk_below (g := gb119) (o := .cells #[.int .u64 a0_0, .int .u64 a0_1, .int .u64 a0_2, .int .i64 a0_3, .slice (some ad120) l0_4.length c0_4, .slice A0_5 l0_5.length c0_5] 31 (0, 0)) (by (with_reducible repeat (first | refine blk_drewN ?_ _ | refine blk_drew ?_ | refine blk_alloc ?_ _)); exact BK119.out) hb); have n1_ := Aside0.mk (blk_below (g := gb121) (o := .cells #[.int .u64 ((rd_T90 l0_4 a1).f0), .int .i64 ((rd_T90 l0_4 a1).f1), .slice A120_2 ((rd_T90 l0_4 a1).f2).length c120_2] 90 (0, 0)) (by (with_reducible repeat (first | refine blk_drewN ?_ _ | refine blk_drew ?_ | refine blk_alloc ?_ _)); exact BK121.out) hb); have n2_ := Aside0.mk (below_step (by repeat (first | (with_reducible first | exact HB.out | apply below_alloc | apply pw_below_drewN | apply below_drew1 | refine below_set ?_ GE119.out | refine below_set ?_ GE121.out) | exact HB.out)) hb); clear BK119; clear BK121; clear HB; have BK119 := n0_; have BK121 := n1_; have HB := n2_; clear n0_ n1_ n2_; (try clear hb); (try clear hb2); (try clear hk); (try clear hi)))
        repeat (go_quiet (first | (go_at_call 117; (with_reducible refine (spec_l3queueOK.calls _ _ ((rd_T90 l0_4 a1).f2) t123 _ ?side1 ?side2 A35.out).mono ?_); (case side1 => repeat (first | exact (Kd.C_below HR120_2.out HB.out) | (with_reducible refine Kd.C_alloc ?_ _) | (with_reducible refine Kd.C_drewN ?_ _) | (with_reducible refine Kd.C_drew ?_))); (case side2 => exact HC120_2.out); rintro e w38 ⟨rfl, hb⟩; have n0_ := Aside0.mk (blk_below (g := gb119) (o := .cells #[.int .u64 a0_0, .int .u64 a0_1, .int .u64 a0_2, .int .i64 a0_3, .slice (some ad120) l0_4.length c0_4, .slice A0_5 l0_5.length c0_5] 31 (0, 0)) (by (with_reducible repeat (first | refine blk_drewN ?_ _ | refine blk_drew ?_ | refine blk_alloc ?_ _)); exact BK119.out) hb); have n1_ := Aside0.mk (blk_below (g := gb121) (o := .cells #[.int .u64 ((rd_T90 l0_4 a1).f0), .int .i64 ((rd_T90 l0_4 a1).f1), .slice A120_2 ((rd_T90 l0_4 a1).f2).length c120_2] 90 (0, 0)) (by (with_reducible repeat (first | refine blk_drewN ?_ _ | refine blk_drew ?_ | refine blk_alloc ?_ _)); exact BK121.out) hb); have n2_ := Aside0.mk (below_step (by repeat (first | (with_reducible first | exact HB.out | apply below_alloc | apply pw_below_drewN | apply below_drew1 | refine below_set ?_ GE119.out | refine below_set ?_ GE121.out) | exact HB.out)) hb); clear BK119; clear BK121; clear HB; have BK119 := n0_; have BK121 := n1_; have HB := n2_; clear n0_ n1_ n2_; (try clear hb); (try clear hb2); (try clear hk); (try clear hi))); try go_wp2_with (first | (go_at_call 117; (with_reducible refine (spec_l3queueOK.calls _ _ ((rd_T90 l0_4 a1).f2) t123 _ ?side1 ?side2 A35.out).mono ?_); (case side1 => repeat (first | exact (Kd.C_below HR120_2.out HB.out) | (with_reducible refine Kd.C_alloc ?_ _) | (with_reducible refine Kd.C_drewN ?_ _) | (with_reducible refine Kd.C_drew ?_))); (case side2 => exact HC120_2.out); rintro e w38 ⟨rfl, hb⟩; have n0_ := Aside0.mk (blk_below (g := gb119) (o := .cells #[.int .u64 a0_0, .int .u64 a0_1, .int .u64 a0_2, .int .i64 a0_3, .slice (some ad120) l0_4.length c0_4, .slice A0_5 l0_5.length c0_5] 31 (0, 0)) (by (with_reducible repeat (first | refine blk_drewN ?_ _ | refine blk_drew ?_ | refine blk_alloc ?_ _)); exact BK119.out) hb); have n1_ := Aside0.mk (blk_below (g := gb121) (o := .cells #[.int .u64 ((rd_T90 l0_4 a1).f0), .int .i64 ((rd_T90 l0_4 a1).f1), .slice A120_2 ((rd_T90 l0_4 a1).f2).length c120_2] 90 (0, 0)) (by (with_reducible repeat (first | refine blk_drewN ?_ _ | refine blk_drew ?_ | refine blk_alloc ?_ _)); exact BK121.out) hb); have n2_ := Aside0.mk (below_step (by repeat (first | (with_reducible first | exact HB.out | apply below_alloc | apply pw_below_drewN | apply below_drew1 | refine below_set ?_ GE119.out | refine below_set ?_ GE121.out) | exact HB.out)) hb); clear BK119; clear BK121; clear HB; have BK119 := n0_; have BK121 := n1_; have HB := n2_; clear n0_ n1_ n2_; (try clear hb); (try clear hb2); (try clear hk); (try clear hi))))
        go_ret
        exact ⟨by first | rfl | (simp [errW_none, errW_some] <;> rfl) | (simp [*, errW_none, errW_some] <;> rfl), by repeat (first | (with_reducible first | exact HB.out | apply below_alloc | apply pw_below_drewN | apply below_drew1 | refine below_set ?_ GE119.out | refine below_set ?_ GE121.out) | exact HB.out)⟩
  ·
   rw [if_neg c4] at H
   exact absurd H (by simp)
 ·
  rw [if_neg c3] at H
  exact absurd H (by simp)
end
def byB (l : List Int) : Bool := l.all fun z => decide (0 ≤ z) && decide (z < 256)
theorem byB_iff (l : List Int) : byB l = true ↔ ∀ z ∈ l, 0 ≤ z ∧ z < 256 := by
 unfold byB
 simp only [List.all_eq_true, Bool.and_eq_true, decide_eq_true_eq]
def smB (xs : List Se) (ns : List No) : Bool :=
 decide (xs.length ≤ 2097152) && decide (ns.length ≤ 2097152) && (xs.all fun x => decide (x.f2.length ≤ 2097152) && x.f2.all fun y => decide (y.f1.length ≤ 2097152) && byB y.f1) &&
  ns.all fun x => decide (x.f0.length ≤ 2097152) && byB x.f0 && decide (x.f1.length ≤ 2097152) && decide (x.f4.length ≤ 2097152) && decide (x.f7.length ≤ 2097152)
theorem smB_iff (xs : List Se) (ns : List No) : smB xs ns = true ↔ SmS xs ns := by
 unfold smB
 simp only [Bool.and_eq_true, List.all_eq_true, decide_eq_true_eq, byB_iff]
 constructor
 ·
  rintro ⟨⟨⟨h1, h2⟩, h3⟩, h4⟩
  exact ⟨h1, h2, fun x hx => ⟨(h3 x hx).1, (h3 x hx).2⟩, fun x hx => by
   obtain ⟨⟨⟨⟨a, b⟩, c⟩, d⟩, e⟩ := h4 x hx
   exact ⟨⟨⟨a, b⟩, c⟩, d, e⟩⟩
 ·
  intro h
  exact ⟨⟨⟨h.x, h.n⟩, fun x hx => h.e x hx⟩, fun x hx => by
   obtain ⟨⟨⟨a, b⟩, c⟩, d, e⟩ := h.m x hx
   exact ⟨⟨⟨⟨a, b⟩, c⟩, d⟩, e⟩⟩
def spec_l3nodeOK.f (a0_0 : Int) (a0_1 : Int) (a0_2 : Int) (a0_3 : Int) (l0_4 : List Se) (l0_5 : List No) (a1 : Int) : Option Bool :=
 if (smB l0_4 l0_5 && decide (0 ≤ a1) && decide (a1 < (l0_5.length : Int))) = true then some (nodeB a0_0 a0_1 l0_4 l0_5 a1.toNat (rd_T93 l0_5 a1)) else none
theorem spec_l3nodeOK.calls (a0_0 : Int) (a0_1 : Int) (a0_2 : Int) (a0_3 : Int) (A0_4 : Option Addr) (c0_4 : Nat) (l0_4 : List Se) (A0_5 : Option Addr) (c0_5 : Nat) (l0_5 : List No) (a1 : Int) (r : Bool) (w : World) (hr0_4 : Kd.C kSe w A0_4 l0_4.length l0_4) (hc0_4 : l0_4.length ≤ c0_4) (hr0_5 : Kd.C kNo w A0_5 l0_5.length l0_5) (hc0_5 : l0_5.length ≤ c0_5) (h : spec_l3nodeOK.f a0_0 a0_1 a0_2 a0_3 l0_4 l0_5 a1 = some r) :
  Calls Tryz.prog 70 #[.agg #[.int .u64 a0_0, .int .u64 a0_1, .int .u64 a0_2, .int .i64 a0_3, .slice A0_4 l0_4.length c0_4, .slice A0_5 l0_5.length c0_5], .int .i64 a1] w fun e w' => e = .returned (.bool r) ∧ Below w.heap.size w w' := by
 unfold spec_l3nodeOK.f at h
 split at h
 ·
  rename_i hb
  have := Option.some.inj h
  subst this
  simp only [Bool.and_eq_true, decide_eq_true_eq, smB_iff] at hb
  obtain ⟨⟨hs, h0⟩, h1⟩ := hb
  obtain ⟨i, rfl⟩ : ∃ i : Nat, a1 = (i : Int) := ⟨a1.toNat, by omega⟩
  have hi : i < l0_5.length := by omega
  rw [rd_no l0_5 i hi, Int.toNat_natCast]
  exact spec_nodeOK_calls a0_0 a0_1 a0_2 a0_3 A0_4 c0_4 l0_4 A0_5 c0_5 l0_5 i w hr0_4 hc0_4 hr0_5 hc0_5 hs hi
 ·
  cases h
end Go.Proofs.YtbgbocdohadhoaaGreatDoor.Print
