/- Texts of this session, joined by its own program. -/
import Derived.Shelf.GgClosure.Gives
import Derived.Test.YtbgbocdohadhoaaDoorProg
import Derived.Ground.SlbSplitProg
import Derived.Ground.SlgfProg
import Derived.Shelf.SlGeneric
import Derived.Shelf.SlLaysP
import Derived.Shelf.SlLaysH
import Derived.Shelf.SlBridgeP
import Derived.Shelf.Bytes.SlIndexAt
import Derived.Shelf.Bytes.SlCountOne
import Derived.Shelf.Bytes.SlCountWhole
import Derived.Lib.SlSplitV
import Derived.Lib.SlBytesConst
import Derived.Deep.OwnRows
import Derived.Deep.LoopGhost
import Derived.Shelf.SlicesE.IndexFunc
import Derived.Maps.OwnSet
import Derived.Test.YtbgbocdohadhoaaDoorCES5
namespace Go.Proofs.YtbgbocdohadhoaaDoor.Print
open Go Go.RowKit Go.Proofs.YtbgbocdohadhoaaDoorW.PrintWords Go.Proofs.YtbgbocdohadhoaaDoorW.PrintLast Go.Proofs.YtbgbocdohadhoaaDoorW.PrintMore
set_option linter.unusedVariables false
set_option linter.unusedSimpArgs false
theorem ses_j0 (k : Nat) (bad : Bool) (id dl : Int) (q : List Ev) (hq : smallQ q = true) : spec_l3sessionOK.j0 (k + 1) bad id dl q = some (!bad && decide (0 ≤ dl) && decide (dl ≤ 1000015) && queueB q) := by
 rw [spec_l3sessionOK.j0]
 cases bad with
 | true => rfl
 | false =>
  rw [if_neg (by decide)]
  by_cases c1 : dl < 0
  ·
   rw [if_pos c1, decide_eq_false (show ¬ 0 ≤ dl by omega)]; rfl
  ·
   rw [if_neg c1, decide_eq_true (show 0 ≤ dl by omega)]
   by_cases c2 : dl > 1000015
   ·
    rw [if_pos c2, decide_eq_false (show ¬ dl ≤ 1000015 by omega)]; rfl
   ·
    rw [if_neg c2, decide_eq_true (show dl ≤ 1000015 by omega)]
    unfold spec_l3queueOK.f
    rw [if_pos hq]
    rfl
theorem sesOK_f (e g n t : Int) (xs : List Se) (ns : List No) (i : Nat) (hi : i < xs.length) (hl : xs.length ≤ 2097152) (hq : smallQ xs[i].f2 = true) (k : Nat) : spec_l3sessionOK.f (k + 1) e g n t xs ns (i : Int) = some (sesB n xs i xs[i]) := by
 unfold spec_l3sessionOK.f sesB
 rw [if_pos (by omega), if_pos (by omega), rd_se xs i hi]
 by_cases c1 : xs[i].f0 < 1
 ·
  rw [if_pos c1, ses_j0 _ _ _ _ _ hq, decide_eq_false (show ¬ 1 ≤ xs[i].f0 by omega)]; rfl
 ·
  rw [if_neg c1, decide_eq_true (show 1 ≤ xs[i].f0 by omega)]
  by_cases c2 : xs[i].f0 > n
  ·
   rw [if_pos c2, ses_j0 _ _ _ _ _ hq, decide_eq_false (show ¬ xs[i].f0 ≤ n by omega)]; rfl
  ·
   rw [if_neg c2, decide_eq_true (show xs[i].f0 ≤ n by omega)]
   by_cases c3 : i = 0
   ·
    subst c3
    rw [if_neg (by omega), ses_j0 _ _ _ _ _ hq]; rfl
   ·
    have e1 : xs.getD (i - 1) zSe = xs[i - 1] := by rw [List.getD_eq_getElem?_getD, List.getElem?_eq_getElem (by omega)]; rfl
    rw [if_pos (by omega), wrap_down i (by omega) (by omega), if_pos (by omega), if_pos (by omega), rd_se xs (i - 1) (by omega), ses_j0 _ _ _ _ _ hq, e1, show (i == 0) = false from beq_eq_false_iff_ne.2 c3]
    have : (!decide (xs[i].f0 ≤ xs[i - 1].f0)) = decide (xs[i - 1].f0 < xs[i].f0) := by
     by_cases c : xs[i].f0 ≤ xs[i - 1].f0
     ·
      rw [decide_eq_true c, decide_eq_false (by omega)]; rfl
     ·
      rw [decide_eq_false c, decide_eq_true (by omega)]; rfl
    rw [this]
    rfl
theorem nodes_loop (e g n t : Int) (xs : List Se) (ns : List No) (hs : SmS xs ns) : ∀ (d k i : Nat), i + d = ns.length → d < k → spec_ValidState.l1 k (i : Int) e g n t xs ns = some (allI (nodeB e g xs ns) i (ns.drop i)) := by
 intro d
 have hn := hs.n
 induction d with
 | zero =>
  intro k i hi hk
  obtain ⟨k, rfl⟩ : ∃ m, k = m + 1 := ⟨k - 1, by omega⟩
  rw [spec_ValidState.l1, if_neg (by omega), allI_end _ ns i (by omega)]
 | succ d ih =>
  intro k i hi hk
  obtain ⟨k, rfl⟩ : ∃ m, k = m + 1 := ⟨k - 1, by omega⟩
  have hlt : i < ns.length := by omega
  have hf : spec_l3nodeOK.f e g n t xs ns (i : Int) = some (nodeB e g xs ns i ns[i]) := by
   unfold spec_l3nodeOK.f
   rw [if_pos (by simp only [Bool.and_eq_true, decide_eq_true_eq]; exact ⟨⟨(smB_iff xs ns).2 hs, by omega⟩, by omega⟩), rd_no ns i hlt, Int.toNat_natCast]
  rw [spec_ValidState.l1, if_pos (by omega), hf, Option.bind_some, allI_drop _ ns i hlt]
  cases nodeB e g xs ns i ns[i] with
  | false => rfl
  | true => rw [if_pos rfl, wrap_up i (by omega), ih k (i + 1) (by omega) (by omega)]; rfl
theorem ses_loop (e g n t : Int) (xs : List Se) (ns : List No) (hs : SmS xs ns) (hx : xs.length ≤ 50) : ∀ (d k i : Nat), i + d = xs.length → d + 2097160 < k → spec_ValidState.l0 k (i : Int) e g n t xs ns = some (allI (sesB n xs) i (xs.drop i) && allI (nodeB e g xs ns) 0 ns) := by
 intro d
 have hn := hs.n
 induction d with
 | zero =>
  intro k i hi hk
  obtain ⟨k, rfl⟩ : ∃ m, k = m + 1 := ⟨k - 1, by omega⟩
  have := nodes_loop e g n t xs ns hs ns.length k 0 (by omega) (by omega)
  rw [List.drop_zero] at this
  rw [spec_ValidState.l0, if_neg (by omega), allI_end _ xs i (by omega), Bool.true_and]
  exact this
 | succ d ih =>
  intro k i hi hk
  obtain ⟨k, rfl⟩ : ∃ m, k = m + 2 := ⟨k - 2, by omega⟩
  have hlt : i < xs.length := by omega
  have hq : smallQ xs[i].f2 = true := by
   have := (hs.e xs[i] (List.getElem_mem hlt))
   unfold smallQ
   simp only [Bool.and_eq_true, List.all_eq_true, decide_eq_true_eq]
   exact ⟨this.1, fun y hy => (this.2 y hy).1⟩
  rw [spec_ValidState.l0, if_pos (by omega), sesOK_f e g n t xs ns i hlt (by omega) hq, Option.bind_some, allI_drop _ xs i hlt]
  cases sesB n xs i xs[i] with
  | false => rfl
  | true => rw [if_pos rfl, wrap_up i (by omega), ih (k + 1) (i + 1) (by omega) (by omega)]; rfl
theorem validState_f (e g n t : Int) (xs : List Se) (ns : List No) (hs : SmS xs ns) : spec_ValidState.f 10000000 e g n t xs ns = some (validB e g n t xs ns) := by
 have L : ∀ k, 3000000 < k → xs.length ≤ 50 → spec_ValidState.l0 k 0 e g n t xs ns = some (allI (sesB n xs) 0 xs && allI (nodeB e g xs ns) 0 ns) := by
  intro k hk h50
  have := ses_loop e g n t xs ns hs h50 xs.length k 0 (by omega) (by omega)
  rw [List.drop_zero] at this
  exact this
 obtain ⟨K, hK⟩ : ∃ K, (10000000 : Nat) = K + 2 := ⟨9999998, rfl⟩
 have hK2 : 3000000 < K := by omega
 rw [hK]
 clear hK
 have J1 : ∀ bad k, spec_ValidState.j1 (k + 1) bad e g n t xs ns = if bad = true then some false else spec_ValidState.l0 k 0 e g n t xs ns := fun bad k => by rw [spec_ValidState.j1]
 have J0 : ∀ bad, spec_ValidState.j0 (K + 2) bad e g n t xs ns = some ((!bad && decide (0 ≤ t) && decide (t ≤ 1000000) && decide (xs.length ≤ 50) && decide (ns.length ≤ 200)) && allI (sesB n xs) 0 xs && allI (nodeB e g xs ns) 0 ns) := by
  intro bad
  rw [spec_ValidState.j0]
  cases bad with
  | true => rfl
  | false =>
   rw [if_neg (by decide)]
   by_cases c4 : t < 0
   ·
    rw [if_pos c4, J1, decide_eq_false (show ¬ 0 ≤ t by omega)]; rfl
   ·
    rw [if_neg c4, decide_eq_true (show 0 ≤ t by omega)]
    by_cases c5 : t > 1000000
    ·
     rw [if_pos c5, J1, decide_eq_false (show ¬ t ≤ 1000000 by omega)]; rfl
    ·
     rw [if_neg c5, decide_eq_true (show t ≤ 1000000 by omega)]
     by_cases c6 : xs.length ≤ 50
     ·
      rw [if_neg (by omega), decide_eq_true c6, J1]
      by_cases c7 : ns.length ≤ 200
      ·
       rw [decide_eq_true c7, decide_eq_false (show ¬ (ns.length : Int) > 200 by omega), if_neg (by decide), L K hK2 c6]; rfl
      ·
       rw [decide_eq_false c7, decide_eq_true (show (ns.length : Int) > 200 by omega)]; rfl
     ·
      rw [if_pos (by omega), decide_eq_false c6, J1]; rfl
 unfold spec_ValidState.f validB headB
 by_cases c1 : e > 4611686018427387904
 ·
  rw [if_pos c1, J0, decide_eq_false (show ¬ e ≤ 4611686018427387904 by omega)]; rfl
 ·
  rw [if_neg c1, decide_eq_true (show e ≤ 4611686018427387904 by omega)]
  by_cases c2 : g > 4611686018427387904
  ·
   rw [if_pos c2, J0, decide_eq_false (show ¬ g ≤ 4611686018427387904 by omega)]; rfl
  ·
   rw [if_neg c2, decide_eq_true (show g ≤ 4611686018427387904 by omega), J0]
   by_cases c3 : n > 4611686018427387904
   ·
    rw [decide_eq_true c3, decide_eq_false (show ¬ n ≤ 4611686018427387904 by omega)]; rfl
   ·
    rw [decide_eq_false c3, decide_eq_true (show n ≤ 4611686018427387904 by omega)]; rfl
structure RgT (xs : List Se) (ns : List No) : Prop where
 x : ∀ x ∈ xs, 0 ≤ x.f0 ∧ x.f0 < 18446744073709551616
 m : ∀ x ∈ ns, (0 ≤ x.f2 ∧ x.f2 < 18446744073709551616) ∧ (∀ z ∈ x.f4, 0 ≤ z ∧ z < 18446744073709551616) ∧ (∀ z ∈ x.f7, 0 ≤ z ∧ z < 18446744073709551616)
 p : ∀ x ∈ ns, (0 ≤ x.f5 ∧ x.f5 < 18446744073709551616) ∧ (0 ≤ x.f6 ∧ x.f6 < 18446744073709551616)
def ValIC : Prop := ∀ (e g n t : Int) (As : Option Addr) (cs : Nat) (xs : List Se) (An : Option Addr) (cn : Nat) (ns : List No) (w : World), Kd.C kSe w As xs.length xs → xs.length ≤ cs → Kd.C kNo w An ns.length ns → ns.length ≤ cn → SmS xs ns →
 (∀ x ∈ xs, 0 ≤ x.f0 ∧ x.f0 < 18446744073709551616) → (∀ x ∈ ns, (0 ≤ x.f2 ∧ x.f2 < 18446744073709551616) ∧ (∀ z ∈ x.f4, 0 ≤ z ∧ z < 18446744073709551616) ∧ (∀ z ∈ x.f7, 0 ≤ z ∧ z < 18446744073709551616)) →
 Calls Tryd.prog 16 #[.agg #[.int .u64 e, .int .u64 g, .int .u64 n, .int .i64 t, .slice As xs.length cs, .slice An ns.length cn]] w fun r w' => r = .returned (.bool (validB e g n t xs ns)) ∧ Below w.heap.size w w'
theorem smS_of {xs : List SeL} {ns : List NoL} (hw : xs.length + pS xs + ns.length + pN ns ≤ 1048576) (gx : ∀ x ∈ xs, gSe x) (gn : ∀ x ∈ ns, gNo x) : SmS (xs.map toSe) (ns.map toNo) := by
 have h1 := smSe_of (xs := xs) (by omega)
 have h2 := smNo_of (ns := ns) (by omega)
 refine ⟨by rw [List.length_map]; omega, by rw [List.length_map]; omega, ?_, ?_⟩
 ·
  intro x hx
  obtain ⟨y, hy, rfl⟩ := List.mem_map.1 hx
  refine ⟨by unfold toSe; simp only [List.length_map]; exact (h1 y hy).1, fun z hz => ?_⟩
  unfold toSe at hz
  obtain ⟨v, hv, rfl⟩ := List.mem_map.1 hz
  exact ⟨(h1 y hy).2 v hv, glue_b1 gx y hy v hv⟩
 ·
  intro x hx
  obtain ⟨y, hy, rfl⟩ := List.mem_map.1 hx
  have := h2 y hy
  exact ⟨⟨⟨this.1.1, glue_b2 gn y hy⟩, this.1.2⟩, this.2.1, this.2.2⟩
theorem rgS_of {xs : List SeL} {ns : List NoL} (gx : ∀ x ∈ xs, gSe x) (gn : ∀ x ∈ ns, gNo x) : RgT (xs.map toSe) (ns.map toNo) := ⟨glue_rx gx, glue_rn gn, glue_rp gn⟩
theorem eqB_of {X : List Se} {N : List No} (h : SmS X N) : (X.length ≤ 2097152 ∧ ∀ x ∈ X, x.f2.length ≤ 2097152 ∧ ∀ y ∈ x.f2, y.f1.length ≤ 2097152) ∧ N.length ≤ 2097152 ∧ ∀ x ∈ N, (x.f0.length ≤ 2097152 ∧ x.f1.length ≤ 2097152) ∧ x.f4.length ≤ 2097152 ∧ x.f7.length ≤ 2097152 :=
 ⟨⟨h.x, fun x hx => ⟨(h.e x hx).1, fun y hy => ((h.e x hx).2 y hy).1⟩⟩, h.n, fun x hx => ⟨⟨(h.m x hx).1.1.1, (h.m x hx).1.2⟩, (h.m x hx).2.1, (h.m x hx).2.2⟩⟩
def impl_headOk.f (a0_0 : Int) (a0_1 : Int) (a0_2 : Int) (a0_3 : Int) (l0_4 : List (S70)) (l0_5 : List (S76)) : Option (Bool) := if a0_0 ≤ 4611686018427387904 then (if a0_1 ≤ 4611686018427387904 then (if a0_2 ≤ 4611686018427387904 then (if a0_3 ≥ 0 then (if a0_3 ≤ 1000000 then (if (l0_4.length : Int) ≤ 50 then (some (decide ((l0_5.length : Int) ≤ 200))) else (some false)) else (some false)) else (some false)) else (some false)) else (some false)) else (some false)
set_option maxHeartbeats 8000000 in
set_option maxRecDepth 100000 in
theorem impl_headOk.calls (a0_0 : Int) (a0_1 : Int) (a0_2 : Int) (a0_3 : Int) (A0_4 : Option Addr) (c0_4 : Nat) (l0_4 : List (S70)) (A0_5 : Option Addr) (c0_5 : Nat) (l0_5 : List (S76)) (r : Bool) (w : World) (hr0_4 : Kd.C k70 w A0_4 l0_4.length l0_4) (hc0_4 : l0_4.length ≤ c0_4) (hr0_5 : Kd.C k76 w A0_5 l0_5.length l0_5) (hc0_5 : l0_5.length ≤ c0_5) (h : impl_headOk.f a0_0 a0_1 a0_2 a0_3 l0_4 l0_5 = some r) :
  Calls Tryd.prog 47 #[.agg #[.int .u64 a0_0, .int .u64 a0_1, .int .u64 a0_2, .int .i64 a0_3, .slice A0_4 l0_4.length c0_4, .slice A0_5 l0_5.length c0_5]] w fun e w' => e = .returned (.bool r) ∧ Below w.heap.size w w' := by
 have hu36 := Tryd.underlying36
 have HR0_4 := Aside0.mk hr0_4
 have HC0_4 := Aside0.mk hc0_4
 clear hr0_4 hc0_4
 have HR0_5 := Aside0.mk hr0_5
 have HC0_5 := Aside0.mk hc0_5
 clear hr0_5 hc0_5
 have HB := Aside0.mk (Below.refl w.heap.size w)
 have H : (if a0_0 ≤ 4611686018427387904 then (if a0_1 ≤ 4611686018427387904 then (if a0_2 ≤ 4611686018427387904 then (if a0_3 ≥ 0 then (if a0_3 ≤ 1000000 then (if (l0_4.length : Int) ≤ 50 then (some (decide ((l0_5.length : Int) ≤ 200))) else (some false)) else (some false)) else (some false)) else (some false)) else (some false)) else (some false)) = some r := h
 clear h
 by_cases c2 : a0_0 ≤ 4611686018427387904
 ·
  rw [if_pos c2] at H
  have c2b0 : decide (a0_0 ≤ 4611686018427387904) = true := decide_eq_true c2
  clear c2
  by_cases c3 : a0_1 ≤ 4611686018427387904
  ·
   rw [if_pos c3] at H
   have c3b0 : decide (a0_1 ≤ 4611686018427387904) = true := decide_eq_true c3
   clear c3
   by_cases c4 : a0_2 ≤ 4611686018427387904
   ·
    rw [if_pos c4] at H
    have c4b0 : decide (a0_2 ≤ 4611686018427387904) = true := decide_eq_true c4
    clear c4
    by_cases c5 : a0_3 ≥ 0
    ·
     rw [if_pos c5] at H
     have c5b0 : decide (0 ≤ a0_3) = true := decide_eq_true c5
     clear c5
     by_cases c6 : a0_3 ≤ 1000000
     ·
      rw [if_pos c6] at H
      have c6b0 : decide (a0_3 ≤ 1000000) = true := decide_eq_true c6
      clear c6
      by_cases c7 : (l0_4.length : Int) ≤ 50
      ·
       rw [if_pos c7] at H
       have c7b0 : decide ((l0_4.length : Int) ≤ 50) = true := decide_eq_true c7
       have c7b1 : decide (l0_4.length ≤ 50) = true := decide_eq_true (by omega)
       clear c7
       obtain rfl := Option.some.inj H
       go_enter Tryd.func47, Tryd.ntmps47
       go_wp2_with (first | ((with_reducible refine gate_dst (N := 1) rfl ?_); (try (refine gate_guard (by rfl) ?_; dsimp only)); refine box_event ?hg (N := 1) ?hd (cs := #[.int .u64 a0_0, .int .u64 a0_1, .int .u64 a0_2, .int .i64 a0_3, .slice A0_4 l0_4.length c0_4, .slice A0_5 l0_5.length c0_5]) (t := 36) ?hr ?_; (case hd => rfl); (case hg => rfl); (case hr => first | (go_simp; done) | (go_simp; rfl)); intro gb242 hg w8 hbox hb; have n0_ := Aside0.mk (below_step (by repeat (first | (with_reducible first | exact HB.out | apply below_alloc | apply pw_below_drewN | apply below_drew1) | exact HB.out)) hb); have n1_ := Aside0.mk (hbox); have n2_ := Aside0.mk ((by rw [hg]; exact (below_size (by repeat (first | (with_reducible first | exact HB.out | apply below_alloc | apply pw_below_drewN | apply below_drew1) | exact HB.out))) : w.heap.size ≤ gb242)); have n3_ := Aside0.mk ((by rw [hg]; exact (below_size (by repeat (first | (with_reducible first | exact HB.out | apply below_alloc | apply pw_below_drewN | apply below_drew1) | exact HB.out))) : w.heap.size ≤ gb242)); clear HB; have HB := n0_; have BK242 := n1_; have GW242 := n2_; have GE242 := n3_; clear n0_ n1_ n2_ n3_; clear hb hbox hg; have hcz9_0 : w8.cell? ⟨gb242, 0, none⟩ = some (.int .u64 a0_0) := (blk_cell BK242.out 0).trans rfl; have hcz9_1 : w8.cell? ⟨gb242, 1, none⟩ = some (.int .u64 a0_1) := (blk_cell BK242.out 1).trans rfl; have hcz9_2 : w8.cell? ⟨gb242, 2, none⟩ = some (.int .u64 a0_2) := (blk_cell BK242.out 2).trans rfl; have hcz9_3 : w8.cell? ⟨gb242, 3, none⟩ = some (.int .i64 a0_3) := (blk_cell BK242.out 3).trans rfl; have hcz9_4 : w8.cell? ⟨gb242, 4, none⟩ = some (.slice A0_4 l0_4.length c0_4) := (blk_cell BK242.out 4).trans rfl; have hcz9_5 : w8.cell? ⟨gb242, 5, none⟩ = some (.slice A0_5 l0_5.length c0_5) := (blk_cell BK242.out 5).trans rfl; have hfz9_0 := blk_frozen BK242.out 0; have hfz9_1 := blk_frozen BK242.out 1; have hfz9_2 := blk_frozen BK242.out 2; have hfz9_3 := blk_frozen BK242.out 3; have hfz9_4 := blk_frozen BK242.out 4; have hfz9_5 := blk_frozen BK242.out 5))
       go_ret
       exact ⟨by first | rfl | (simp [errW_none, errW_some] <;> rfl) | (simp [*, errW_none, errW_some] <;> rfl), by repeat (first | (with_reducible first | exact HB.out | apply below_alloc | apply pw_below_drewN | apply below_drew1 | refine below_set ?_ GE242.out) | exact HB.out)⟩
      ·
       rw [if_neg c7] at H
       have c7b0 : decide ((l0_4.length : Int) ≤ 50) = false := decide_eq_false c7
       have c7b1 : decide (l0_4.length ≤ 50) = false := decide_eq_false (by omega)
       clear c7
       obtain rfl := Option.some.inj H
       go_enter Tryd.func47, Tryd.ntmps47
       go_wp2_with (first | ((with_reducible refine gate_dst (N := 1) rfl ?_); (try (refine gate_guard (by rfl) ?_; dsimp only)); refine box_event ?hg (N := 1) ?hd (cs := #[.int .u64 a0_0, .int .u64 a0_1, .int .u64 a0_2, .int .i64 a0_3, .slice A0_4 l0_4.length c0_4, .slice A0_5 l0_5.length c0_5]) (t := 36) ?hr ?_; (case hd => rfl); (case hg => rfl); (case hr => first | (go_simp; done) | (go_simp; rfl)); intro gb242 hg w10 hbox hb; have n0_ := Aside0.mk (below_step (by repeat (first | (with_reducible first | exact HB.out | apply below_alloc | apply pw_below_drewN | apply below_drew1) | exact HB.out)) hb); have n1_ := Aside0.mk (hbox); have n2_ := Aside0.mk ((by rw [hg]; exact (below_size (by repeat (first | (with_reducible first | exact HB.out | apply below_alloc | apply pw_below_drewN | apply below_drew1) | exact HB.out))) : w.heap.size ≤ gb242)); have n3_ := Aside0.mk ((by rw [hg]; exact (below_size (by repeat (first | (with_reducible first | exact HB.out | apply below_alloc | apply pw_below_drewN | apply below_drew1) | exact HB.out))) : w.heap.size ≤ gb242)); clear HB; have HB := n0_; have BK242 := n1_; have GW242 := n2_; have GE242 := n3_; clear n0_ n1_ n2_ n3_; clear hb hbox hg; have hcz11_0 : w10.cell? ⟨gb242, 0, none⟩ = some (.int .u64 a0_0) := (blk_cell BK242.out 0).trans rfl; have hcz11_1 : w10.cell? ⟨gb242, 1, none⟩ = some (.int .u64 a0_1) := (blk_cell BK242.out 1).trans rfl; have hcz11_2 : w10.cell? ⟨gb242, 2, none⟩ = some (.int .u64 a0_2) := (blk_cell BK242.out 2).trans rfl; have hcz11_3 : w10.cell? ⟨gb242, 3, none⟩ = some (.int .i64 a0_3) := (blk_cell BK242.out 3).trans rfl; have hcz11_4 : w10.cell? ⟨gb242, 4, none⟩ = some (.slice A0_4 l0_4.length c0_4) := (blk_cell BK242.out 4).trans rfl; have hcz11_5 : w10.cell? ⟨gb242, 5, none⟩ = some (.slice A0_5 l0_5.length c0_5) := (blk_cell BK242.out 5).trans rfl; have hfz11_0 := blk_frozen BK242.out 0; have hfz11_1 := blk_frozen BK242.out 1; have hfz11_2 := blk_frozen BK242.out 2; have hfz11_3 := blk_frozen BK242.out 3; have hfz11_4 := blk_frozen BK242.out 4; have hfz11_5 := blk_frozen BK242.out 5))
       go_ret
       exact ⟨by first | rfl | (simp [errW_none, errW_some] <;> rfl) | (simp [*, errW_none, errW_some] <;> rfl), by repeat (first | (with_reducible first | exact HB.out | apply below_alloc | apply pw_below_drewN | apply below_drew1 | refine below_set ?_ GE242.out) | exact HB.out)⟩
     ·
      rw [if_neg c6] at H
      have c6b0 : decide (a0_3 ≤ 1000000) = false := decide_eq_false c6
      clear c6
      obtain rfl := Option.some.inj H
      go_enter Tryd.func47, Tryd.ntmps47
      go_wp2_with (first | ((with_reducible refine gate_dst (N := 1) rfl ?_); (try (refine gate_guard (by rfl) ?_; dsimp only)); refine box_event ?hg (N := 1) ?hd (cs := #[.int .u64 a0_0, .int .u64 a0_1, .int .u64 a0_2, .int .i64 a0_3, .slice A0_4 l0_4.length c0_4, .slice A0_5 l0_5.length c0_5]) (t := 36) ?hr ?_; (case hd => rfl); (case hg => rfl); (case hr => first | (go_simp; done) | (go_simp; rfl)); intro gb242 hg w12 hbox hb; have n0_ := Aside0.mk (below_step (by repeat (first | (with_reducible first | exact HB.out | apply below_alloc | apply pw_below_drewN | apply below_drew1) | exact HB.out)) hb); have n1_ := Aside0.mk (hbox); have n2_ := Aside0.mk ((by rw [hg]; exact (below_size (by repeat (first | (with_reducible first | exact HB.out | apply below_alloc | apply pw_below_drewN | apply below_drew1) | exact HB.out))) : w.heap.size ≤ gb242)); have n3_ := Aside0.mk ((by rw [hg]; exact (below_size (by repeat (first | (with_reducible first | exact HB.out | apply below_alloc | apply pw_below_drewN | apply below_drew1) | exact HB.out))) : w.heap.size ≤ gb242)); clear HB; have HB := n0_; have BK242 := n1_; have GW242 := n2_; have GE242 := n3_; clear n0_ n1_ n2_ n3_; clear hb hbox hg; have hcz13_0 : w12.cell? ⟨gb242, 0, none⟩ = some (.int .u64 a0_0) := (blk_cell BK242.out 0).trans rfl; have hcz13_1 : w12.cell? ⟨gb242, 1, none⟩ = some (.int .u64 a0_1) := (blk_cell BK242.out 1).trans rfl; have hcz13_2 : w12.cell? ⟨gb242, 2, none⟩ = some (.int .u64 a0_2) := (blk_cell BK242.out 2).trans rfl; have hcz13_3 : w12.cell? ⟨gb242, 3, none⟩ = some (.int .i64 a0_3) := (blk_cell BK242.out 3).trans rfl; have hcz13_4 : w12.cell? ⟨gb242, 4, none⟩ = some (.slice A0_4 l0_4.length c0_4) := (blk_cell BK242.out 4).trans rfl; have hcz13_5 : w12.cell? ⟨gb242, 5, none⟩ = some (.slice A0_5 l0_5.length c0_5) := (blk_cell BK242.out 5).trans rfl; have hfz13_0 := blk_frozen BK242.out 0; have hfz13_1 := blk_frozen BK242.out 1; have hfz13_2 := blk_frozen BK242.out 2; have hfz13_3 := blk_frozen BK242.out 3; have hfz13_4 := blk_frozen BK242.out 4; have hfz13_5 := blk_frozen BK242.out 5))
      go_ret
      exact ⟨by first | rfl | (simp [errW_none, errW_some] <;> rfl) | (simp [*, errW_none, errW_some] <;> rfl), by repeat (first | (with_reducible first | exact HB.out | apply below_alloc | apply pw_below_drewN | apply below_drew1 | refine below_set ?_ GE242.out) | exact HB.out)⟩
    ·
     rw [if_neg c5] at H
     have c5b0 : decide (0 ≤ a0_3) = false := decide_eq_false c5
     clear c5
     obtain rfl := Option.some.inj H
     go_enter Tryd.func47, Tryd.ntmps47
     go_wp2_with (first | ((with_reducible refine gate_dst (N := 1) rfl ?_); (try (refine gate_guard (by rfl) ?_; dsimp only)); refine box_event ?hg (N := 1) ?hd (cs := #[.int .u64 a0_0, .int .u64 a0_1, .int .u64 a0_2, .int .i64 a0_3, .slice A0_4 l0_4.length c0_4, .slice A0_5 l0_5.length c0_5]) (t := 36) ?hr ?_; (case hd => rfl); (case hg => rfl); (case hr => first | (go_simp; done) | (go_simp; rfl)); intro gb242 hg w14 hbox hb; have n0_ := Aside0.mk (below_step (by repeat (first | (with_reducible first | exact HB.out | apply below_alloc | apply pw_below_drewN | apply below_drew1) | exact HB.out)) hb); have n1_ := Aside0.mk (hbox); have n2_ := Aside0.mk ((by rw [hg]; exact (below_size (by repeat (first | (with_reducible first | exact HB.out | apply below_alloc | apply pw_below_drewN | apply below_drew1) | exact HB.out))) : w.heap.size ≤ gb242)); have n3_ := Aside0.mk ((by rw [hg]; exact (below_size (by repeat (first | (with_reducible first | exact HB.out | apply below_alloc | apply pw_below_drewN | apply below_drew1) | exact HB.out))) : w.heap.size ≤ gb242)); clear HB; have HB := n0_; have BK242 := n1_; have GW242 := n2_; have GE242 := n3_; clear n0_ n1_ n2_ n3_; clear hb hbox hg; have hcz15_0 : w14.cell? ⟨gb242, 0, none⟩ = some (.int .u64 a0_0) := (blk_cell BK242.out 0).trans rfl; have hcz15_1 : w14.cell? ⟨gb242, 1, none⟩ = some (.int .u64 a0_1) := (blk_cell BK242.out 1).trans rfl; have hcz15_2 : w14.cell? ⟨gb242, 2, none⟩ = some (.int .u64 a0_2) := (blk_cell BK242.out 2).trans rfl; have hcz15_3 : w14.cell? ⟨gb242, 3, none⟩ = some (.int .i64 a0_3) := (blk_cell BK242.out 3).trans rfl; have hcz15_4 : w14.cell? ⟨gb242, 4, none⟩ = some (.slice A0_4 l0_4.length c0_4) := (blk_cell BK242.out 4).trans rfl; have hcz15_5 : w14.cell? ⟨gb242, 5, none⟩ = some (.slice A0_5 l0_5.length c0_5) := (blk_cell BK242.out 5).trans rfl; have hfz15_0 := blk_frozen BK242.out 0; have hfz15_1 := blk_frozen BK242.out 1; have hfz15_2 := blk_frozen BK242.out 2; have hfz15_3 := blk_frozen BK242.out 3; have hfz15_4 := blk_frozen BK242.out 4; have hfz15_5 := blk_frozen BK242.out 5))
     go_ret
     exact ⟨by first | rfl | (simp [errW_none, errW_some] <;> rfl) | (simp [*, errW_none, errW_some] <;> rfl), by repeat (first | (with_reducible first | exact HB.out | apply below_alloc | apply pw_below_drewN | apply below_drew1 | refine below_set ?_ GE242.out) | exact HB.out)⟩
   ·
    rw [if_neg c4] at H
    have c4b0 : decide (a0_2 ≤ 4611686018427387904) = false := decide_eq_false c4
    clear c4
    obtain rfl := Option.some.inj H
    go_enter Tryd.func47, Tryd.ntmps47
    go_wp2_with (first | ((with_reducible refine gate_dst (N := 1) rfl ?_); (try (refine gate_guard (by rfl) ?_; dsimp only)); refine box_event ?hg (N := 1) ?hd (cs := #[.int .u64 a0_0, .int .u64 a0_1, .int .u64 a0_2, .int .i64 a0_3, .slice A0_4 l0_4.length c0_4, .slice A0_5 l0_5.length c0_5]) (t := 36) ?hr ?_; (case hd => rfl); (case hg => rfl); (case hr => first | (go_simp; done) | (go_simp; rfl)); intro gb242 hg w16 hbox hb; have n0_ := Aside0.mk (below_step (by repeat (first | (with_reducible first | exact HB.out | apply below_alloc | apply pw_below_drewN | apply below_drew1) | exact HB.out)) hb); have n1_ := Aside0.mk (hbox); have n2_ := Aside0.mk ((by rw [hg]; exact (below_size (by repeat (first | (with_reducible first | exact HB.out | apply below_alloc | apply pw_below_drewN | apply below_drew1) | exact HB.out))) : w.heap.size ≤ gb242)); have n3_ := Aside0.mk ((by rw [hg]; exact (below_size (by repeat (first | (with_reducible first | exact HB.out | apply below_alloc | apply pw_below_drewN | apply below_drew1) | exact HB.out))) : w.heap.size ≤ gb242)); clear HB; have HB := n0_; have BK242 := n1_; have GW242 := n2_; have GE242 := n3_; clear n0_ n1_ n2_ n3_; clear hb hbox hg; have hcz17_0 : w16.cell? ⟨gb242, 0, none⟩ = some (.int .u64 a0_0) := (blk_cell BK242.out 0).trans rfl; have hcz17_1 : w16.cell? ⟨gb242, 1, none⟩ = some (.int .u64 a0_1) := (blk_cell BK242.out 1).trans rfl; have hcz17_2 : w16.cell? ⟨gb242, 2, none⟩ = some (.int .u64 a0_2) := (blk_cell BK242.out 2).trans rfl; have hcz17_3 : w16.cell? ⟨gb242, 3, none⟩ = some (.int .i64 a0_3) := (blk_cell BK242.out 3).trans rfl; have hcz17_4 : w16.cell? ⟨gb242, 4, none⟩ = some (.slice A0_4 l0_4.length c0_4) := (blk_cell BK242.out 4).trans rfl; have hcz17_5 : w16.cell? ⟨gb242, 5, none⟩ = some (.slice A0_5 l0_5.length c0_5) := (blk_cell BK242.out 5).trans rfl; have hfz17_0 := blk_frozen BK242.out 0; have hfz17_1 := blk_frozen BK242.out 1; have hfz17_2 := blk_frozen BK242.out 2; have hfz17_3 := blk_frozen BK242.out 3; have hfz17_4 := blk_frozen BK242.out 4; have hfz17_5 := blk_frozen BK242.out 5))
    go_ret
    exact ⟨by first | rfl | (simp [errW_none, errW_some] <;> rfl) | (simp [*, errW_none, errW_some] <;> rfl), by repeat (first | (with_reducible first | exact HB.out | apply below_alloc | apply pw_below_drewN | apply below_drew1 | refine below_set ?_ GE242.out) | exact HB.out)⟩
  ·
   rw [if_neg c3] at H
   have c3b0 : decide (a0_1 ≤ 4611686018427387904) = false := decide_eq_false c3
   clear c3
   obtain rfl := Option.some.inj H
   go_enter Tryd.func47, Tryd.ntmps47
   go_wp2_with (first | ((with_reducible refine gate_dst (N := 1) rfl ?_); (try (refine gate_guard (by rfl) ?_; dsimp only)); refine box_event ?hg (N := 1) ?hd (cs := #[.int .u64 a0_0, .int .u64 a0_1, .int .u64 a0_2, .int .i64 a0_3, .slice A0_4 l0_4.length c0_4, .slice A0_5 l0_5.length c0_5]) (t := 36) ?hr ?_; (case hd => rfl); (case hg => rfl); (case hr => first | (go_simp; done) | (go_simp; rfl)); intro gb242 hg w18 hbox hb; have n0_ := Aside0.mk (below_step (by repeat (first | (with_reducible first | exact HB.out | apply below_alloc | apply pw_below_drewN | apply below_drew1) | exact HB.out)) hb); have n1_ := Aside0.mk (hbox); have n2_ := Aside0.mk ((by rw [hg]; exact (below_size (by repeat (first | (with_reducible first | exact HB.out | apply below_alloc | apply pw_below_drewN | apply below_drew1) | exact HB.out))) : w.heap.size ≤ gb242)); have n3_ := Aside0.mk ((by rw [hg]; exact (below_size (by repeat (first | (with_reducible first | exact HB.out | apply below_alloc | apply pw_below_drewN | apply below_drew1) | exact HB.out))) : w.heap.size ≤ gb242)); clear HB; have HB := n0_; have BK242 := n1_; have GW242 := n2_; have GE242 := n3_; clear n0_ n1_ n2_ n3_; clear hb hbox hg; have hcz19_0 : w18.cell? ⟨gb242, 0, none⟩ = some (.int .u64 a0_0) := (blk_cell BK242.out 0).trans rfl; have hcz19_1 : w18.cell? ⟨gb242, 1, none⟩ = some (.int .u64 a0_1) := (blk_cell BK242.out 1).trans rfl; have hcz19_2 : w18.cell? ⟨gb242, 2, none⟩ = some (.int .u64 a0_2) := (blk_cell BK242.out 2).trans rfl; have hcz19_3 : w18.cell? ⟨gb242, 3, none⟩ = some (.int .i64 a0_3) := (blk_cell BK242.out 3).trans rfl; have hcz19_4 : w18.cell? ⟨gb242, 4, none⟩ = some (.slice A0_4 l0_4.length c0_4) := (blk_cell BK242.out 4).trans rfl; have hcz19_5 : w18.cell? ⟨gb242, 5, none⟩ = some (.slice A0_5 l0_5.length c0_5) := (blk_cell BK242.out 5).trans rfl; have hfz19_0 := blk_frozen BK242.out 0; have hfz19_1 := blk_frozen BK242.out 1; have hfz19_2 := blk_frozen BK242.out 2; have hfz19_3 := blk_frozen BK242.out 3; have hfz19_4 := blk_frozen BK242.out 4; have hfz19_5 := blk_frozen BK242.out 5))
   go_ret
   exact ⟨by first | rfl | (simp [errW_none, errW_some] <;> rfl) | (simp [*, errW_none, errW_some] <;> rfl), by repeat (first | (with_reducible first | exact HB.out | apply below_alloc | apply pw_below_drewN | apply below_drew1 | refine below_set ?_ GE242.out) | exact HB.out)⟩
 ·
  rw [if_neg c2] at H
  have c2b0 : decide (a0_0 ≤ 4611686018427387904) = false := decide_eq_false c2
  clear c2
  obtain rfl := Option.some.inj H
  go_enter Tryd.func47, Tryd.ntmps47
  go_wp2_with (first | ((with_reducible refine gate_dst (N := 1) rfl ?_); (try (refine gate_guard (by rfl) ?_; dsimp only)); refine box_event ?hg (N := 1) ?hd (cs := #[.int .u64 a0_0, .int .u64 a0_1, .int .u64 a0_2, .int .i64 a0_3, .slice A0_4 l0_4.length c0_4, .slice A0_5 l0_5.length c0_5]) (t := 36) ?hr ?_; (case hd => rfl); (case hg => rfl); (case hr => first | (go_simp; done) | (go_simp; rfl)); intro gb242 hg w20 hbox hb; have n0_ := Aside0.mk (below_step (by repeat (first | (with_reducible first | exact HB.out | apply below_alloc | apply pw_below_drewN | apply below_drew1) | exact HB.out)) hb); have n1_ := Aside0.mk (hbox); have n2_ := Aside0.mk ((by rw [hg]; exact (below_size (by repeat (first | (with_reducible first | exact HB.out | apply below_alloc | apply pw_below_drewN | apply below_drew1) | exact HB.out))) : w.heap.size ≤ gb242)); have n3_ := Aside0.mk ((by rw [hg]; exact (below_size (by repeat (first | (with_reducible first | exact HB.out | apply below_alloc | apply pw_below_drewN | apply below_drew1) | exact HB.out))) : w.heap.size ≤ gb242)); clear HB; have HB := n0_; have BK242 := n1_; have GW242 := n2_; have GE242 := n3_; clear n0_ n1_ n2_ n3_; clear hb hbox hg; have hcz21_0 : w20.cell? ⟨gb242, 0, none⟩ = some (.int .u64 a0_0) := (blk_cell BK242.out 0).trans rfl; have hcz21_1 : w20.cell? ⟨gb242, 1, none⟩ = some (.int .u64 a0_1) := (blk_cell BK242.out 1).trans rfl; have hcz21_2 : w20.cell? ⟨gb242, 2, none⟩ = some (.int .u64 a0_2) := (blk_cell BK242.out 2).trans rfl; have hcz21_3 : w20.cell? ⟨gb242, 3, none⟩ = some (.int .i64 a0_3) := (blk_cell BK242.out 3).trans rfl; have hcz21_4 : w20.cell? ⟨gb242, 4, none⟩ = some (.slice A0_4 l0_4.length c0_4) := (blk_cell BK242.out 4).trans rfl; have hcz21_5 : w20.cell? ⟨gb242, 5, none⟩ = some (.slice A0_5 l0_5.length c0_5) := (blk_cell BK242.out 5).trans rfl; have hfz21_0 := blk_frozen BK242.out 0; have hfz21_1 := blk_frozen BK242.out 1; have hfz21_2 := blk_frozen BK242.out 2; have hfz21_3 := blk_frozen BK242.out 3; have hfz21_4 := blk_frozen BK242.out 4; have hfz21_5 := blk_frozen BK242.out 5))
  go_ret
  exact ⟨by first | rfl | (simp [errW_none, errW_some] <;> rfl) | (simp [*, errW_none, errW_some] <;> rfl), by repeat (first | (with_reducible first | exact HB.out | apply below_alloc | apply pw_below_drewN | apply below_drew1 | refine below_set ?_ GE242.out) | exact HB.out)⟩
def impl_ascending.l0 : Nat → List Int → Int → Option (Bool)
 | 0, _, _ => none
 | k + 1, x0, x3 => if x3 < (x0.length : Int) then (if 0 ≤ (wrap64 (x3 - 1)) then (if (wrap64 (x3 - 1)) < (x0.length : Int) then (if 0 ≤ x3 then (if (rd x0 (wrap64 (x3 - 1))) ≥ (rd x0 x3) then (some false) else (impl_ascending.l0 k x0 (wrap64 (x3 + 1)))) else (none)) else (none)) else (none)) else (some true)
def impl_ascending.f (k : Nat) (l0 : List Int) : Option (Bool) := impl_ascending.l0 k l0 1
set_option maxHeartbeats 8000000 in
set_option maxRecDepth 100000 in
theorem impl_ascending.calls (k : Nat) (A0 : Option Addr) (c0 : Nat) (l0 : List Int) (r : Bool) (w : World) (hr0 : Kd.C (Kd.int .u64) w A0 l0.length l0) (hc0 : l0.length ≤ c0) (h : impl_ascending.f k l0 = some r) :
  Calls Tryd.prog 51 #[.slice A0 l0.length c0] w fun e w' => e = .returned (.bool r) ∧ Drawn0 w w' := by
 have HR0 := Aside0.mk hr0
 have HC0 := Aside0.mk hc0
 clear hr0 hc0
 have H : (impl_ascending.l0 k l0 1) = some r := h
 clear h
 have H' := Aside0.mk H
 clear H
 go_enter Tryd.func51, Tryd.ntmps51
 go_wp2
 repeat (go_quiet (fail); try go_wp2)
 go_loopg [3] k (fun kq v3 w' => ∃ (x3_1 : Int), v3 = .int .i64 x3_1 ∧ Aside0 (impl_ascending.l0 kq l0 x3_1 = some r) ∧ Aside0 (kq ≤ k) ∧ Drawn0 w w')
 case atStart => exact ⟨(1), (by first | rfl | (simp; done) | (simp [*]; done)), H', ⟨Nat.le_refl _⟩, by repeat (first | exact Drawn0.refl _ | apply Drawn0.step)⟩
 case round =>
  clear H'
  obtain ⟨x3_1, rfl, HA, HK1, ⟨m1, rfl⟩⟩ := hrel
  cases gk with
  | zero => exact absurd HA.out (by simp [impl_ascending.l0])
  | succ k1 =>
   have H := HA.out
   clear HA
   simp only [impl_ascending.l0] at H
   by_cases c2 : x3_1 < (l0.length : Int)
   ·
    rw [if_pos c2] at H
    have c2b0 : decide (x3_1 < (l0.length : Int)) = true := decide_eq_true c2
    clear c2
    obtain ⟨ji3, hji3⟩ : ∃ j_ : Int, (wrap64 (x3_1 - 1)) = j_ := ⟨_, rfl⟩
    replace H : (if 0 ≤ (ji3) then (if (ji3) < (l0.length : Int) then (if 0 ≤ x3_1 then (if (rd l0 (ji3)) ≥ (rd l0 x3_1) then (some false) else (impl_ascending.l0 k1 l0 (wrap64 (x3_1 + 1)))) else (none)) else (none)) else (none)) = some r := by first | (rw [hji3] at H; exact H) | (simp only [hji3] at H ⊢; exact H)
    have hji3w : (IntKind.i64.wrap (x3_1 - 1)) = ji3 := (i64_w _).trans hji3
    by_cases c4 : 0 ≤ (ji3)
    ·
     rw [if_pos c4] at H
     have c4b0 : decide (0 ≤ (ji3)) = true := decide_eq_true c4
     clear c4
     by_cases c5 : (ji3) < (l0.length : Int)
     ·
      rw [if_pos c5] at H
      have c5b0 : decide ((ji3) < (l0.length : Int)) = true := decide_eq_true c5
      clear c5
      by_cases c6 : 0 ≤ x3_1
      ·
       rw [if_pos c6] at H
       have c6b0 : decide (0 ≤ x3_1) = true := decide_eq_true c6
       clear c6
       by_cases c7 : (rd l0 (ji3)) ≥ (rd l0 x3_1)
       ·
        rw [if_pos c7] at H
        have c7b0 : decide ((rd l0 x3_1) ≤ (rd l0 (ji3))) = true := decide_eq_true c7
        clear c7
        obtain rfl := Option.some.inj H
        have p246 : 0 ≤ ((ji3) : Int) := of_decide_eq_true (by first | (with_reducible assumption) | assumption)
        have q246 : (ji3) < (l0.length : Int) := of_decide_eq_true (by first | (with_reducible assumption) | assumption)
        obtain ⟨ad246, e246, hx246_0⟩ := Kd.at_int HR0.out (ji3) p246 q246
        cases e246
        replace p246 := eq_true p246
        replace q246 := eq_true q246
        have p247 : 0 ≤ (x3_1 : Int) := of_decide_eq_true (by first | (with_reducible assumption) | assumption)
        have q247 : x3_1 < (l0.length : Int) := of_decide_eq_true (by first | (with_reducible assumption) | assumption)
        obtain ⟨ad247, e247, hx247_0⟩ := Kd.at_int HR0.out x3_1 p247 q247
        obtain rfl : ad246 = ad247 := (by injection e247)
        replace p247 := eq_true p247
        replace q247 := eq_true q247
        go_wp2
        repeat (go_quiet (fail); try go_wp2)
        go_ret
        exact ⟨by first | rfl | (simp; done) | (simp only [← hji3] <;> (first | rfl | simp)) | (simp [*]; done), by repeat (first | exact Drawn0.refl _ | apply Drawn0.step)⟩
       ·
        rw [if_neg c7] at H
        have c7b0 : decide ((rd l0 x3_1) ≤ (rd l0 (ji3))) = false := decide_eq_false c7
        clear c7
        have H' := Aside0.mk H
        clear H
        have p246 : 0 ≤ ((ji3) : Int) := of_decide_eq_true (by first | (with_reducible assumption) | assumption)
        have q246 : (ji3) < (l0.length : Int) := of_decide_eq_true (by first | (with_reducible assumption) | assumption)
        obtain ⟨ad246, e246, hx246_0⟩ := Kd.at_int HR0.out (ji3) p246 q246
        cases e246
        replace p246 := eq_true p246
        replace q246 := eq_true q246
        have p247 : 0 ≤ (x3_1 : Int) := of_decide_eq_true (by first | (with_reducible assumption) | assumption)
        have q247 : x3_1 < (l0.length : Int) := of_decide_eq_true (by first | (with_reducible assumption) | assumption)
        obtain ⟨ad247, e247, hx247_0⟩ := Kd.at_int HR0.out x3_1 p247 q247
        obtain rfl : ad246 = ad247 := (by injection e247)
        replace p247 := eq_true p247
        replace q247 := eq_true q247
        go_wp2
        repeat (go_quiet (fail); try go_wp2)
        go_roundg k1
        case measure => have := HK1.out; omega
        case rel => exact ⟨(wrap64 (x3_1 + 1)), (by first | rfl | (simp; done) | (simp [*]; done)), H', ⟨by have := HK1.out; omega⟩, by repeat (first | exact Drawn0.refl _ | apply Drawn0.step)⟩
      ·
       rw [if_neg c6] at H
       exact absurd H (by simp)
     ·
      rw [if_neg c5] at H
      exact absurd H (by simp)
    ·
     rw [if_neg c4] at H
     exact absurd H (by simp)
   ·
    rw [if_neg c2] at H
    have c2b0 : decide (x3_1 < (l0.length : Int)) = false := decide_eq_false c2
    clear c2
    obtain rfl := Option.some.inj H
    go_wp2
    repeat (go_quiet (fail); try go_wp2)
    go_ret
    exact ⟨by first | rfl | (simp; done) | (simp [*]; done), by repeat (first | exact Drawn0.refl _ | apply Drawn0.step)⟩
def impl_lockOk.f (e g n t : Int) (xs : List Se) (ns : List No) (p v : List Int) (o m : Int) (h : List Int) (ep ge : Int) (wa : List Int) : Option Bool := some (lockB e g ⟨p, v, o, m, h, ep, ge, wa⟩)
set_option maxHeartbeats 8000000 in
set_option maxRecDepth 100000 in
theorem impl_lockOk.calls (e g n t : Int) (As : Option Addr) (cs : Nat) (xs : List Se) (An : Option Addr) (cn : Nat) (ns : List No) (A0 : Option Addr) (c0 : Nat) (p : List Int) (A1 : Option Addr) (c1 : Nat) (v : List Int) (o m : Int) (A4 : Option Addr) (c4 : Nat) (h : List Int) (ep ge : Int) (A7 : Option Addr) (c7 : Nat) (wa : List Int) (r : Bool) (w : World) (h1 : Kd.C kSe w As xs.length xs) (hc1 : xs.length ≤ cs) (h2 : Kd.C kNo w An ns.length ns) (hc2 : ns.length ≤ cn) (i0 : Kd.C (Kd.int .u8) w A0 p.length p) (j0 : p.length ≤ c0) (i1 : Kd.C (Kd.int .u8) w A1 v.length v) (j1 : v.length ≤ c1) (i4 : Kd.C (Kd.int .u64) w A4 h.length h) (j4 : h.length ≤ c4) (i7 : Kd.C (Kd.int .u64) w A7 wa.length wa) (j7 : wa.length ≤ c7) (hf : impl_lockOk.f e g n t xs ns p v o m h ep ge wa = some r) :
  Calls Tryd.prog 53 #[.agg #[.int .u64 e, .int .u64 g, .int .u64 n, .int .i64 t, .slice As xs.length cs, .slice An ns.length cn], .agg #[.slice A0 p.length c0, .slice A1 v.length c1, .int .u64 o, .int .i64 m, .slice A4 h.length c4, .int .u64 ep, .int .u64 ge, .slice A7 wa.length c7]] w fun e w' => e = .returned (.bool r) ∧ Below w.heap.size w w' := by
 obtain rfl := Option.some.inj hf
 clear hf h1 hc1 h2 hc2 i0 j0 i1 j1 i4 j4 i7 j7
 go_enter Tryd.func53, Tryd.ntmps53
 go_upto_region 1 with (fail)
 have bx := blk_alloc (blk_new w (.cells #[.int .u64 e, .int .u64 g, .int .u64 n, .int .i64 t, .slice As xs.length cs, .slice An ns.length cn] 36)) (.cells #[.slice A0 p.length c0, .slice A1 v.length c1, .int .u64 o, .int .i64 m, .slice A4 h.length c4, .int .u64 ep, .int .u64 ge, .slice A7 wa.length c7] 76)
 have bn := blk_new (w.alloc (.cells #[.int .u64 e, .int .u64 g, .int .u64 n, .int .i64 t, .slice As xs.length cs, .slice An ns.length cn] 36)) (.cells #[.slice A0 p.length c0, .slice A1 v.length c1, .int .u64 o, .int .i64 m, .slice A4 h.length c4, .int .u64 ep, .int .u64 ge, .slice A7 wa.length c7] 76)
 simp only [World.size_alloc] at bn
 have hB := below_alloc (below_alloc (Below.refl w.heap.size w) (.cells #[.int .u64 e, .int .u64 g, .int .u64 n, .int .i64 t, .slice As xs.length cs, .slice An ns.length cn] 36)) (.cells #[.slice A0 p.length c0, .slice A1 v.length c1, .int .u64 o, .int .i64 m, .slice A4 h.length c4, .int .u64 ep, .int .u64 ge, .slice A7 wa.length c7] 76)
 generalize (w.alloc (.cells #[.int .u64 e, .int .u64 g, .int .u64 n, .int .i64 t, .slice As xs.length cs, .slice An ns.length cn] 36)).alloc (.cells #[.slice A0 p.length c0, .slice A1 v.length c1, .int .u64 o, .int .i64 m, .slice A4 h.length c4, .int .u64 ep, .int .u64 ge, .slice A7 wa.length c7] 76) = W0 at *
 have HB := Aside0.mk hB
 obtain ⟨s0, s1, s2, s3, s4, s5⟩ := cells6 bx
 obtain ⟨n0, n1, n2, n3, n4, n5, n6, n7⟩ := cells8 bn
 clear bx bn hB s2 s3 s4 s5 n0 n1 n2 n7
 have HL := Aside0.mk (show ∀ b, lockB e g ⟨p, v, o, m, h, ep, ge, wa⟩ = b → lockB e g ⟨p, v, o, m, h, ep, ge, wa⟩ = b from fun _ q => q)
 have K1 : ∀ (a b : Int), a = b → (a == b) = true ∧ (a != b) = false := fun a b q => ⟨beq_iff_eq.mpr q, bne_eq_false_iff_eq.mpr q⟩
 have K2 : ∀ (a b : Int), ¬ a = b → (a == b) = false ∧ (a != b) = true := fun a b q => ⟨beq_eq_false_iff_ne.mpr q, bne_iff_ne.mpr q⟩
 rcases Decidable.em (m = 0) with q0 | q0
 ·
  obtain ⟨q0a, q0b⟩ := K1 _ _ q0
  rcases Decidable.em (h.length = 0) with k5 | k5
  ·
   obtain ⟨k5a, k5b⟩ := K1 (h.length : Int) 0 (by omega)
   have k5e : (h = []) = True := by cases h <;> simp_all
   rcases Decidable.em (ep = 0) with k6 | k6
   ·
    obtain ⟨k6a, k6b⟩ := K1 _ _ k6
    rcases Decidable.em (ge = 0) with k7 | k7
    ·
     obtain ⟨k7a, k7b⟩ := K1 _ _ k7
     have hl : lockB e g ⟨p, v, o, m, h, ep, ge, wa⟩ = true := by
      unfold lockB
      first | (simp [q0, k5, k6, k7]; done) | (simp [q0, k5, k6, k7]; omega)
     have HLE := Aside0.mk hl
     clear hl HL K1 K2 q0 k5 k6 k7
     go_wp2_with fail
     go_ret
     exact ⟨by rw [HLE.out]; rfl, HB.out⟩
    ·
     obtain ⟨k7a, k7b⟩ := K2 _ _ k7
     have hl : lockB e g ⟨p, v, o, m, h, ep, ge, wa⟩ = false := by
      unfold lockB
      first | (simp [q0, k5, k6, k7]; done) | (simp [q0, k5, k6, k7]; omega)
     have HLE := Aside0.mk hl
     clear hl HL K1 K2 q0 k5 k6 k7
     go_wp2_with fail
     go_ret
     exact ⟨by rw [HLE.out]; rfl, HB.out⟩
   ·
    obtain ⟨k6a, k6b⟩ := K2 _ _ k6
    have hl : lockB e g ⟨p, v, o, m, h, ep, ge, wa⟩ = false := by
     unfold lockB
     first | (simp [q0, k5, k6]; done) | (simp [q0, k5, k6]; omega)
    have HLE := Aside0.mk hl
    clear hl HL K1 K2 q0 k5 k6
    go_wp2_with fail
    go_ret
    exact ⟨by rw [HLE.out]; rfl, HB.out⟩
  ·
   obtain ⟨k5a, k5b⟩ := K2 (h.length : Int) 0 (by omega)
   have k5e : (h = []) = False := by cases h <;> simp_all
   have hl : lockB e g ⟨p, v, o, m, h, ep, ge, wa⟩ = false := by
    unfold lockB
    first | (simp [q0, k5]; done) | (simp [q0, k5]; omega)
   have HLE := Aside0.mk hl
   clear hl HL K1 K2 q0 k5
   go_wp2_with fail
   go_ret
   exact ⟨by rw [HLE.out]; rfl, HB.out⟩
 ·
  obtain ⟨q0a, q0b⟩ := K2 _ _ q0
  rcases Decidable.em (m = 1) with q1 | q1
  ·
   obtain ⟨q1a, q1b⟩ := K1 _ _ q1
   rcases Decidable.em (h.length = 1) with k1 | k1
   ·
    obtain ⟨k1a, k1b⟩ := K1 (h.length : Int) 1 (by omega)
    rcases Decidable.em (1 ≤ ge) with k2 | k2
    ·
     have k2a : decide (1 ≤ ge) = true := decide_eq_true k2
     rcases Decidable.em (ge ≤ g) with k3 | k3
     ·
      have k3a : decide (ge ≤ g) = true := decide_eq_true k3
      rcases Decidable.em (ep ≤ e) with k4 | k4
      ·
       have k4a : decide (ep ≤ e) = true := decide_eq_true k4
       have hl : lockB e g ⟨p, v, o, m, h, ep, ge, wa⟩ = true := by
        unfold lockB
        first | (simp [q1, k1, k2, k3, k4]; done) | (simp [q1, k1, k2, k3, k4]; omega)
       have HLE := Aside0.mk hl
       clear hl HL K1 K2 q0 q1 k1 k2 k3 k4
       go_wp2_with fail
       go_ret
       exact ⟨by rw [HLE.out]; rfl, HB.out⟩
      ·
       have k4a : decide (ep ≤ e) = false := decide_eq_false k4
       have hl : lockB e g ⟨p, v, o, m, h, ep, ge, wa⟩ = false := by
        unfold lockB
        first | (simp [q1, k1, k2, k3, k4]; done) | (simp [q1, k1, k2, k3, k4]; omega)
       have HLE := Aside0.mk hl
       clear hl HL K1 K2 q0 q1 k1 k2 k3 k4
       go_wp2_with fail
       go_ret
       exact ⟨by rw [HLE.out]; rfl, HB.out⟩
     ·
      have k3a : decide (ge ≤ g) = false := decide_eq_false k3
      have hl : lockB e g ⟨p, v, o, m, h, ep, ge, wa⟩ = false := by
       unfold lockB
       first | (simp [q1, k1, k2, k3]; done) | (simp [q1, k1, k2, k3]; omega)
      have HLE := Aside0.mk hl
      clear hl HL K1 K2 q0 q1 k1 k2 k3
      go_wp2_with fail
      go_ret
      exact ⟨by rw [HLE.out]; rfl, HB.out⟩
    ·
     have k2a : decide (1 ≤ ge) = false := decide_eq_false k2
     have hl : lockB e g ⟨p, v, o, m, h, ep, ge, wa⟩ = false := by
      unfold lockB
      first | (simp [q1, k1, k2]; done) | (simp [q1, k1, k2]; omega)
     have HLE := Aside0.mk hl
     clear hl HL K1 K2 q0 q1 k1 k2
     go_wp2_with fail
     go_ret
     exact ⟨by rw [HLE.out]; rfl, HB.out⟩
   ·
    obtain ⟨k1a, k1b⟩ := K2 (h.length : Int) 1 (by omega)
    have hl : lockB e g ⟨p, v, o, m, h, ep, ge, wa⟩ = false := by
     unfold lockB
     first | (simp [q1, k1]; done) | (simp [q1, k1]; omega)
    have HLE := Aside0.mk hl
    clear hl HL K1 K2 q0 q1 k1
    go_wp2_with fail
    go_ret
    exact ⟨by rw [HLE.out]; rfl, HB.out⟩
  ·
   obtain ⟨q1a, q1b⟩ := K2 _ _ q1
   rcases Decidable.em (m = 2) with q2 | q2
   ·
    obtain ⟨q2a, q2b⟩ := K1 _ _ q2
    rcases Decidable.em (1 ≤ h.length) with k5 | k5
    ·
     have k5a : decide (1 ≤ (h.length : Int)) = true := decide_eq_true (by omega)
     have k5b : decide (1 ≤ h.length) = true := decide_eq_true k5
     rcases Decidable.em (ep = 0) with k6 | k6
     ·
      obtain ⟨k6a, k6b⟩ := K1 _ _ k6
      rcases Decidable.em (ge = 0) with k7 | k7
      ·
       obtain ⟨k7a, k7b⟩ := K1 _ _ k7
       have hl : lockB e g ⟨p, v, o, m, h, ep, ge, wa⟩ = true := by
        unfold lockB
        first | (simp [q0, q1, q2, k5, k6, k7]; done) | (simp [q0, q1, q2, k5, k6, k7]; omega)
       have HLE := Aside0.mk hl
       clear hl HL K1 K2 q0 q1 q2 k5 k6 k7
       go_wp2_with fail
       go_ret
       exact ⟨by rw [HLE.out]; rfl, HB.out⟩
      ·
       obtain ⟨k7a, k7b⟩ := K2 _ _ k7
       have hl : lockB e g ⟨p, v, o, m, h, ep, ge, wa⟩ = false := by
        unfold lockB
        first | (simp [q0, q1, q2, k5, k6, k7]; done) | (simp [q0, q1, q2, k5, k6, k7]; omega)
       have HLE := Aside0.mk hl
       clear hl HL K1 K2 q0 q1 q2 k5 k6 k7
       go_wp2_with fail
       go_ret
       exact ⟨by rw [HLE.out]; rfl, HB.out⟩
     ·
      obtain ⟨k6a, k6b⟩ := K2 _ _ k6
      have hl : lockB e g ⟨p, v, o, m, h, ep, ge, wa⟩ = false := by
       unfold lockB
       first | (simp [q0, q1, q2, k5, k6]; done) | (simp [q0, q1, q2, k5, k6]; omega)
      have HLE := Aside0.mk hl
      clear hl HL K1 K2 q0 q1 q2 k5 k6
      go_wp2_with fail
      go_ret
      exact ⟨by rw [HLE.out]; rfl, HB.out⟩
    ·
     have k5a : decide (1 ≤ (h.length : Int)) = false := decide_eq_false (by omega)
     have k5b : decide (1 ≤ h.length) = false := decide_eq_false k5
     have hl : lockB e g ⟨p, v, o, m, h, ep, ge, wa⟩ = false := by
      unfold lockB
      first | (simp [q0, q1, q2, k5]; done) | (simp [q0, q1, q2, k5]; omega)
     have HLE := Aside0.mk hl
     clear hl HL K1 K2 q0 q1 q2 k5
     go_wp2_with fail
     go_ret
     exact ⟨by rw [HLE.out]; rfl, HB.out⟩
   ·
    obtain ⟨q2a, q2b⟩ := K2 _ _ q2
    have hl : lockB e g ⟨p, v, o, m, h, ep, ge, wa⟩ = false := by
     unfold lockB
     first | (simp [q0, q1, q2]; done) | (simp [q0, q1, q2]; omega)
    have HLE := Aside0.mk hl
    clear hl HL K1 K2 q0 q1 q2
    go_wp2_with fail
    go_ret
    exact ⟨by rw [HLE.out]; rfl, HB.out⟩
theorem char_cases (x : Int) : (charB x = true ∧ (decide (97 ≤ x) = true ∧ decide (x ≤ 122) = true)) ∨
  (charB x = true ∧ decide (97 ≤ x) = false ∧ decide (48 ≤ x) = true ∧ decide (x ≤ 57) = true) ∨
  (charB x = true ∧ x = 45) ∨ (charB x = true ∧ x = 95) ∨
  (charB x = false ∧ decide (97 ≤ x) = false ∧ decide (48 ≤ x) = false ∧ decide (x = 45) = false ∧ decide (x = 95) = false ∧ (x == 45) = false ∧ (x == 95) = false) ∨
  (charB x = false ∧ decide (97 ≤ x) = false ∧ decide (48 ≤ x) = true ∧ decide (x ≤ 57) = false ∧ decide (x = 45) = false ∧ decide (x = 95) = false ∧ (x == 45) = false ∧ (x == 95) = false) ∨
  (charB x = false ∧ decide (97 ≤ x) = true ∧ decide (x ≤ 122) = false ∧ decide (48 ≤ x) = true ∧ decide (x ≤ 57) = false ∧ decide (x = 45) = false ∧ decide (x = 95) = false ∧ (x == 45) = false ∧ (x == 95) = false) := by
 unfold charB
 by_cases h1 : 97 ≤ x
 ·
  by_cases h2 : x ≤ 122
  ·
   simp [h1, h2]
  ·
   have h3 : 48 ≤ x := by omega
   have h4 : ¬ x ≤ 57 := by omega
   have h5 : ¬ x = 45 := by omega
   have h6 : ¬ x = 95 := by omega
   simp [h1, h2, h3, h4, h5, h6]
 ·
  by_cases h3 : 48 ≤ x
  ·
   by_cases h4 : x ≤ 57
   ·
    simp [h1, h3, h4]
   ·
    by_cases h6 : x = 95
    ·
     simp [h6]
    ·
     have h5 : ¬ x = 45 := by omega
     simp [h1, h3, h4, h5, h6]
  ·
   by_cases h5 : x = 45
   ·
    simp [h5]
   ·
    have h6 : ¬ x = 95 := by omega
    simp [h1, h3, h5, h6]
theorem nameB_yes {l : List Int} (h1 : 1 ≤ l.length) (h2 : l.length ≤ 16) (h : ∀ j, j < l.length → charB (rd l (j : Nat)) = true) : nameB l = true := by
 unfold nameB
 simp only [Bool.and_eq_true, decide_eq_true_eq, List.all_eq_true]
 refine ⟨⟨h1, h2⟩, fun x hx => ?_⟩
 obtain ⟨j, hj, rfl⟩ := List.getElem_of_mem hx
 have := h j hj
 unfold rd at this
 simpa [List.getD_eq_getElem?_getD, hj] using this
theorem nameB_no {l : List Int} {j : Nat} (hj : j < l.length) (h : charB (rd l (j : Nat)) = false) : nameB l = false := by
 unfold nameB
 have : l.all charB = false := by
  rw [List.all_eq_false]
  refine ⟨l[j], List.getElem_mem hj, ?_⟩
  unfold rd at h
  simp [List.getD_eq_getElem?_getD, hj] at h
  simp [h]
 simp [this]
set_option maxHeartbeats 2000000 in
set_option maxRecDepth 100000 in
theorem nameOk_calls (A : Option Addr) (c : Nat) (l : List Int) (w : World) (h : Kd.C (Kd.int .u8) w A l.length l) (hc : l.length ≤ c) :
  Calls Tryd.prog 40 #[.slice A l.length c] w fun e w' => e = .returned (.bool (nameB l)) ∧ w' = w := by
 by_cases h1 : l.length < 1
 ·
  have e : nameB l = false := by unfold nameB; rw [decide_eq_false (by omega)]; rfl
  have d1 : decide ((l.length : Int) < 1) = true := decide_eq_true (by omega)
  rw [e]
  clear e
  go_enter Tryd.func40, Tryd.ntmps40
  go_wp2
  go_ret
  exact ⟨rfl, rfl⟩
 by_cases h2 : 16 < l.length
 ·
  have e : nameB l = false := by unfold nameB; rw [decide_eq_false (show ¬ l.length ≤ 16 by omega)]; simp
  have d1 : decide ((l.length : Int) < 1) = false := decide_eq_false (by omega)
  have d2 : decide ((16 : Int) < (l.length : Int)) = true := decide_eq_true (by omega)
  rw [e]
  clear e
  go_enter Tryd.func40, Tryd.ntmps40
  go_wp2
  go_ret
  exact ⟨rfl, rfl⟩
 have d1 : decide ((l.length : Int) < 1) = false := decide_eq_false (by omega)
 have d2 : decide ((16 : Int) < (l.length : Int)) = false := decide_eq_false (by omega)
 have HR := Aside0.mk h
 have HL := Aside0.mk (show 1 ≤ l.length ∧ l.length ≤ 16 by omega)
 clear h h1 h2
 go_enter Tryd.func40, Tryd.ntmps40
 go_wp2
 clear d1 d2
 go_loop [15] (fun v15 => ∃ i : Nat, v15 = .int .i64 i ∧ Aside0 (i ≤ l.length ∧ ∀ j, j < i → charB (rd l (j : Nat)) = true)) (fun v15 => l.length - (intOf v15).toNat)
 case atStart => exact ⟨0, rfl, ⟨⟨Nat.zero_le _, fun j hj => absurd hj (Nat.not_lt_zero _)⟩⟩⟩
 case round =>
  obtain ⟨i, rfl, HI⟩ := hrel
  by_cases hlt : i < l.length
  ·
   have d3 : decide ((i : Int) < (l.length : Int)) = true := decide_eq_true (by omega)
   obtain ⟨ad, rfl, hx⟩ := Kd.at_int HR.out (i : Int) (by omega) (by omega)
   rw [Int.toNat_natCast] at hx
   have HX := Aside0.mk (show rd l (i : Nat) = rd l (i : Nat) from rfl)
   obtain ⟨x, hxx⟩ : ∃ x, rd l (i : Nat) = x := ⟨_, rfl⟩
   rw [hxx] at hx
   have HXX := Aside0.mk hxx
   have hi1 : (0 : Int) ≤ i := by omega
   have hi2 : (i : Int) < (l.length : Int) := by omega
   have hlen : l.length ≤ 16 := HL.out.2
   clear hxx HX
   rcases char_cases x with ⟨hb, q1, q2⟩ | ⟨hb, q1, q2, q3⟩ | ⟨hb, rfl⟩ | ⟨hb, rfl⟩ | ⟨hb, q1, q2, q3, q4, q5, q6⟩ | ⟨hb, q1, q2, q3, q4, q5, q6, q7⟩ | ⟨hb, q1, q2, q3, q4, q5, q6, q7, q8⟩
   ·
    have HB := Aside0.mk hb
    clear hb
    go_wp2
    go_round
    case rel => exact ⟨i + 1, by go_num, ⟨⟨by omega, fun j hj => by
     by_cases e : j = i
     ·
      rw [e, HXX.out]; exact HB.out
     ·
      exact HI.out.2 j (by omega)⟩⟩⟩
    case measure => simp [intOf]; omega
   ·
    have HB := Aside0.mk hb
    clear hb
    go_wp2
    go_round
    case rel => exact ⟨i + 1, by go_num, ⟨⟨by omega, fun j hj => by
     by_cases e : j = i
     ·
      rw [e, HXX.out]; exact HB.out
     ·
      exact HI.out.2 j (by omega)⟩⟩⟩
    case measure => simp [intOf]; omega
   ·
    have HB := Aside0.mk hb
    clear hb
    go_wp2
    go_round
    case rel => exact ⟨i + 1, by go_num, ⟨⟨by omega, fun j hj => by
     by_cases e : j = i
     ·
      rw [e, HXX.out]; exact HB.out
     ·
      exact HI.out.2 j (by omega)⟩⟩⟩
    case measure => simp [intOf]; omega
   ·
    have HB := Aside0.mk hb
    clear hb
    go_wp2
    go_round
    case rel => exact ⟨i + 1, by go_num, ⟨⟨by omega, fun j hj => by
     by_cases e : j = i
     ·
      rw [e, HXX.out]; exact HB.out
     ·
      exact HI.out.2 j (by omega)⟩⟩⟩
    case measure => simp [intOf]; omega
   all_goals
    have HB := Aside0.mk hb
    clear hb
    go_wp2
    go_ret
    rw [nameB_no hlt (by rw [HXX.out]; exact HB.out)]
    exact ⟨rfl, rfl⟩
  ·
   have d3 : decide ((i : Int) < (l.length : Int)) = false := decide_eq_false (by omega)
   obtain rfl : i = l.length := by have := HI.out.1; omega
   go_wp2
   go_ret
   rw [nameB_yes HL.out.1 HL.out.2 HI.out.2]
   exact ⟨rfl, rfl⟩
set_option maxHeartbeats 2000000 in
set_option maxRecDepth 100000 in
theorem nameNot_calls (A : Option Addr) (c : Nat) (l : List Int) (w : World) (h : Kd.C (Kd.int .u8) w A l.length l) (hc : l.length ≤ c) :
  Calls Tryd.prog 39 #[.slice A l.length c] w fun e w' => e = .returned (.bool (!nameB l)) ∧ w' = w := by
 go_enter Tryd.func39, Tryd.ntmps39
 go_wp2_with (go_at_call 40; refine (nameOk_calls A c l w h hc).mono ?_; rintro e w' ⟨rfl, rfl⟩)
 go_ret
 exact ⟨rfl, rfl⟩
end Go.Proofs.YtbgbocdohadhoaaDoor.Print
namespace Go.Proofs
open Go.Shelf
def Tryd.laysSplit_ren : Go.Shelf.Ren := ⟨fun | 7 => 37 | 11 => 87 | 14 => 119 | 15 => 120 | 16 => 121 | 17 => 139 | 19 => 140 | 20 => 141 | 21 => 142 | 22 => 72 | 23 => 143 | 24 => 144 | 25 => 145 | 26 => 165 | 29 => 149 | 30 => 166 | 31 => 167 | n => n, fun | 22 => 22 | 23 => 57 | 3 => 3 | 4 => 4 | 0 => 0 | 34 => 169 | 21 => 21 | 5 => 5 | 45 => 146 | 9 => 9 | 58 => 190 | 38 => 189 | 28 => 199 | 62 => 202 | 61 => 201 | n => n, fun | 2 => 0 | 3 => 1 | 4 => 2 | n => n⟩
theorem Tryd.laysSplit : Go.Proofs.SlLaysP.n7 Tryd.prog Tryd.laysSplit_ren := {
 mixed := by kernel_rfl
 f7 := Tryd.func37.trans (congrArg some (by kernel_rfl))
 f11 := Tryd.func87.trans (congrArg some (by kernel_rfl))
 f15 := Tryd.func120.trans (congrArg some (by kernel_rfl))
 f16 := Tryd.func121.trans (congrArg some (by kernel_rfl))
 f20 := Tryd.func141.trans (congrArg some (by kernel_rfl))
 f21 := Tryd.func142.trans (congrArg some (by kernel_rfl))
 f22 := Tryd.func72.trans (congrArg some (by kernel_rfl))
 f23 := Tryd.func143.trans (congrArg some (by kernel_rfl))
 f24 := Tryd.func144.trans (congrArg some (by kernel_rfl))
 f25 := Tryd.func145.trans (congrArg some (by kernel_rfl))
 f30 := Tryd.func166.trans (congrArg some (by kernel_rfl))
 f31 := Tryd.func167.trans (congrArg some (by kernel_rfl))
 t0 := Tryd.underlying0
 a0 := Tryd.isAgg0
 z0 := Tryd.sizeOf0
 v0 := Tryd.zeroValue0
 t3 := Tryd.underlying3
 a3 := Tryd.isAgg3
 z3 := Tryd.sizeOf3
 v3 := Tryd.zeroValue3
 t4 := Tryd.underlying4
 a4 := Tryd.isAgg4
 z4 := Tryd.sizeOf4
 v4 := Tryd.zeroValue4
 t5 := Tryd.underlying5
 a5 := Tryd.isAgg5
 z5 := Tryd.sizeOf5
 v5 := Tryd.zeroValue5
 t9 := Tryd.underlying9
 a9 := Tryd.isAgg9
 z9 := Tryd.sizeOf9
 v9 := Tryd.zeroValue9
 t22 := Tryd.underlying22
 a22 := Tryd.isAgg22
 z22 := Tryd.sizeOf22
 v22 := Tryd.zeroValue22
 t23 := Tryd.underlying57
 a23 := Tryd.isAgg57
 z23 := Tryd.sizeOf57
 v23 := Tryd.zeroValue57
 t38 := Tryd.underlying189
 a38 := Tryd.isAgg189
 z38 := Tryd.sizeOf189
 v38 := Tryd.zeroValue189
 t45 := Tryd.underlying146
 a45 := Tryd.isAgg146
 z45 := Tryd.sizeOf146
 v45 := Tryd.zeroValue146
 t58 := Tryd.underlying190
 a58 := Tryd.isAgg190
 z58 := Tryd.sizeOf190
 v58 := Tryd.zeroValue190
 g2 := by kernel_rfl
 i22 := by kernel_rfl }
def Tryd.laysCF_ren : Go.Shelf.Ren := ⟨fun | 8 => 38 | 6 => 88 | n => n, fun | 22 => 57 | 23 => 22 | 25 => 23 | 4 => 4 | 3 => 3 | 0 => 0 | n => n, fun | n => n⟩
theorem Tryd.laysCF : Go.Proofs.SlLaysH.n8 Tryd.prog Tryd.laysCF_ren := {
 mixed := by kernel_rfl
 f6 := ⟨Tryd.f88.name, by decide, Tryd.func88.trans (congrArg some (by kernel_rfl))⟩
 f8 := ⟨Tryd.f38.name, by decide, Tryd.func38.trans (congrArg some (by kernel_rfl))⟩
 t0 := Tryd.underlying0
 a0 := Tryd.isAgg0
 z0 := Tryd.sizeOf0
 v0 := Tryd.zeroValue0
 t3 := Tryd.underlying3
 a3 := Tryd.isAgg3
 z3 := Tryd.sizeOf3
 v3 := Tryd.zeroValue3
 t4 := Tryd.underlying4
 a4 := Tryd.isAgg4
 z4 := Tryd.sizeOf4
 v4 := Tryd.zeroValue4
 t22 := Tryd.underlying57
 a22 := Tryd.isAgg57
 z22 := Tryd.sizeOf57
 v22 := Tryd.zeroValue57
 a23 := Tryd.isAgg22
 z23 := Tryd.sizeOf22
 t25 := Tryd.underlying23
 a25 := Tryd.isAgg23
 z25 := Tryd.sizeOf23
 v25 := Tryd.zeroValue23 }
end Go.Proofs
namespace Go.Proofs.YtbgbocdohadhoaaDoor.Print
open Go Go.RowKit Go.Proofs.YtbgbocdohadhoaaDoorW.PrintWords Go.Proofs.YtbgbocdohadhoaaDoorW.PrintLast Go.Proofs.YtbgbocdohadhoaaDoorW.PrintMore
set_option linter.unusedVariables false
set_option linter.unusedSimpArgs false
section
open Go.Shelf
def PV (w : World) (v : Value) (p : List Int) : Prop := ∃ A c, v = .slice A p.length c ∧ p.length ≤ c ∧ Kd.C (Kd.int .u8) w A p.length p
def PVs (w : World) (vs : List Value) (ps : List (List Int)) : Prop := vs.length = ps.length ∧ ∀ (j : Nat) v p, vs[j]? = some v → ps[j]? = some p → PV w v p
theorem PVs.snoc {w : World} {vs : List Value} {ps : List (List Int)} {v : Value} {p : List Int} (h : PVs w vs ps) (hv : PV w v p) : PVs w (vs ++ [v]) (ps ++ [p]) := by
 refine ⟨by simp [h.1], fun j u q h1 h2 => ?_⟩
 rcases Nat.lt_or_ge j vs.length with hj | hj
 ·
  rw [List.getElem?_append_left hj] at h1
  rw [List.getElem?_append_left (by rw [← h.1]; exact hj)] at h2
  exact h.2 j u q h1 h2
 ·
  rw [List.getElem?_append_right hj] at h1
  rw [List.getElem?_append_right (by rw [← h.1]; exact hj), ← h.1] at h2
  cases hk : j - vs.length with
  | zero =>
   rw [hk] at h1 h2
   simp only [List.getElem?_cons_zero, Option.some.injEq] at h1 h2
   rw [← h1, ← h2]
   exact hv
  | succ k =>
   rw [hk] at h1
   simp at h1
theorem PV.of {w : World} {a : Addr} {p : List Int} {n c : Nat} (hn : p.length = n) (hl : n ≤ c) (hb : n ≤ 1000) (h : ∀ j, j < n → w.cell? (a.add j) = some (.int .u8 (p.getD j 0))) : PV w (.slice (some a) n c) p := by
 subst hn
 exact ⟨some a, c, rfl, hl, Kd.C_of_reads (d := (0 : Int)) (h1 := fun _ => rfl) ⟨rfl, by omega, fun _ => ⟨a, rfl, h⟩⟩⟩
theorem add_add_ (a : Addr) (i j : Nat) : (a.add (i + 1)).add j = a.add (i + 1 + j) := by
 unfold Addr.add
 by_cases hj : j = 0
 ·
  subst hj; simp
 ·
  simp [hj]; omega
theorem count_bytes : ∀ (l : List Int), (∀ x ∈ l, 0 ≤ x ∧ x < 256) → Lib.countByte (Lib.bytesOf l) 47 = l.count 47
 | [], _ => rfl
 | c :: l, hr => by
  have ih := count_bytes l (fun x hx => hr x (by simp [hx]))
  have hc := hr c (by simp)
  unfold Lib.countByte at ih ⊢
  rw [show Lib.bytesOf (c :: l) = UInt8.ofNat c.toNat :: Lib.bytesOf l from rfl]
  by_cases h : c = 47
  ·
   rw [(byte_eq hc).2 h, List.count_cons_self, ih, h, List.count_cons_self]
  ·
   rw [List.count_cons_of_ne (fun e => h ((byte_eq hc).1 e)), ih, List.count_cons_of_ne (fun e => h e)]
theorem pieces_count : ∀ (l : List Int), (pieces l).length = l.count 47 + 1
 | [] => rfl
 | c :: l => by
  have ih := pieces_count l
  by_cases h : c = 47
  ·
   rw [h, pieces_slash, List.length_cons, ih, List.count_cons_self]
  ·
   obtain ⟨a, t, e, e'⟩ := pieces_char c l h
   rw [e', List.count_cons_of_ne (fun e => h e), ← ih, e]
   rfl
theorem pieces_none : ∀ (l : List Int), l.count 47 = 0 → pieces l = [l]
 | [], _ => rfl
 | c :: l, h => by
  by_cases hc : c = 47
  ·
   rw [hc, List.count_cons_self] at h
   omega
  ·
   rw [List.count_cons_of_ne (fun e => hc e)] at h
   obtain ⟨a, t, e, e'⟩ := pieces_char c l hc
   rw [pieces_none l h] at e
   simp only [List.cons.injEq] at e
   rw [e', ← e.1, ← e.2]
theorem pieces_hit : ∀ (l : List Int), (∀ x ∈ l, 0 ≤ x ∧ x < 256) → 0 < l.count 47 → ∃ i : Nat, Lib.indexByte (Lib.bytesOf l) 47 = i ∧ i < l.length ∧ pieces l = l.take i :: pieces (l.drop (i + 1)) ∧ (l.drop (i + 1)).count 47 + 1 = l.count 47
 | [], _, h => by simp at h
 | c :: l, hr, h => by
  have hc := hr c (by simp)
  have e0 : Lib.bytesOf (c :: l) = UInt8.ofNat c.toNat :: Lib.bytesOf l := rfl
  by_cases hcc : c = 47
  ·
   refine ⟨0, ?_, by simp, ?_, ?_⟩
   ·
    rw [e0, (byte_eq hc).2 hcc, Lib.indexByte, if_pos (by rfl)]
    rfl
   ·
    rw [hcc, pieces_slash]
    rfl
   ·
    rw [hcc, List.count_cons_self]
    rfl
  ·
   rw [List.count_cons_of_ne (fun e => hcc e)] at h
   obtain ⟨i, h1, h2, h3, h4⟩ := pieces_hit l (fun x hx => hr x (by simp [hx])) h
   obtain ⟨a, t, e, e'⟩ := pieces_char c l hcc
   refine ⟨i + 1, ?_, by simp; omega, ?_, ?_⟩
   ·
    rw [e0, Lib.indexByte, if_neg (by simp only [beq_iff_eq]; exact fun q => hcc ((byte_eq hc).1 q)), h1, if_neg (by simp only [beq_iff_eq]; omega)]
    omega
   ·
    rw [h3] at e
    simp only [List.cons.injEq] at e
    rw [e', ← e.1, ← e.2]
    rfl
   ·
    rw [List.count_cons_of_ne (fun e => hcc e), ← h4]
    rfl
theorem lays11 : SlLaysP.n11 Tryd.prog Tryd.laysSplit_ren := { Tryd.laysSplit with }
theorem index_calls (a : Addr) (n c b2 d : Nat) (xs : List Int) (w : World) (hx : xs.length = n) (hc : ∀ i, i < n → w.cell? (a.add i) = some (.int .u8 (xs.getD i 0))) (hc2 : w.cell? ⟨b2, 0, none⟩ = some (.int .u8 47)) :
  Calls Tryd.prog 121 #[.slice (some a) n c, .slice (some ⟨b2, 0, none⟩) 1 d] w fun e w' => e = .returned (.int .i64 (Lib.indexByte (Lib.bytesOf xs) 47)) ∧ w' = w :=
 Any.bytes_Index_one_at lays11.index a n c b2 0 d xs 47 w hx hc hc2
theorem count_calls (a : Addr) (n c b2 d : Nat) (xs : List Int) (w : World) (hx : xs.length = n) (hc : ∀ i, i < n → w.cell? (a.add i) = some (.int .u8 (xs.getD i 0))) (hc2 : w.cell? ⟨b2, 0, none⟩ = some (.int .u8 47)) :
  Calls Tryd.prog 120 #[.slice (some a) n c, .slice (some ⟨b2, 0, none⟩) 1 d] w fun e w' => e = .returned (.int .i64 (Lib.countByte (Lib.bytesOf xs) 47)) ∧ w' = w :=
 Any.bytes_Count_one_at (SlLaysC.n13.small lays11.count) a n c b2 0 d xs 47 w hx hc hc2
set_option maxHeartbeats 4000000 in
set_option maxRecDepth 100000 in
theorem genSplit_calls (a : Addr) (c b2 d : Nat) (xs : List Int) (w : World) (hr : ∀ x ∈ xs, 0 ≤ x ∧ x < 256) (hc : ∀ i, i < xs.length → w.cell? (a.add i) = some (.int .u8 (xs.getD i 0))) (hcap : xs.length ≤ c) (hn : xs.length ≤ 1000) (hc2 : w.cell? ⟨b2, 0, none⟩ = some (.int .u8 47)) :
  Calls Tryd.prog 87 #[.slice (some a) xs.length c, .slice (some ⟨b2, 0, none⟩) 1 d, .int .i64 0, .int .i64 (-1)] w fun e w' => ∃ vs, e = .returned (.slice (some ⟨w.heap.size, 0, none⟩) vs.length vs.length) ∧ PVs w vs (pieces xs) ∧ w' = w.alloc (.cells vs.toArray 22) := by
 have HC := Aside0.mk (count_calls a xs.length c b2 d xs w rfl hc hc2)
 have hcnt := count_bytes xs hr
 have hcl : xs.count 47 ≤ xs.length := List.count_le_length
 have hpc := pieces_count xs
 rw [hcnt] at HC
 obtain ⟨N, hN⟩ : ∃ N, xs.count 47 = N := ⟨_, rfl⟩
 rw [hN] at HC hcl hpc
 have e1 : min ((N : Int) + 1) ((xs.length : Int) + 1) = (N : Int) + 1 := by omega
 have hmk := run_make_row' (P := Tryd.prog) 57 22 (.slice none 0 0) 24 lays11.t23 lays11.i22 rfl .i64 .i64 (N + 1) (by omega) (by omega)
 have e2 : (((N + 1 : Nat) : Int)) = (N : Int) + 1 := by omega
 rw [e2] at hmk
 have HR := Aside0.mk hr
 have HA := Aside0.mk hc
 have HN := Aside0.mk (And.intro hN (And.intro hcl (And.intro hpc (And.intro hcap hn))))
 clear hr hc hcnt hN hpc
 go_enter Tryd.func87, Tryd.ntmps87
 go_wp2_with fail
 refine HC.out.mono ?_
 rintro e w' ⟨rfl, hww⟩
 obtain rfl : w = w' := hww.symm
 clear HC
 go_wp2_with fail
 clear hmk e1 e2
 go_loopg [0, 10] (N + 1) (fun gg s0 s10 wr => ∃ (done : List Value) (ps : List (List Int)) (ad : Addr) (zs : List Int) (cap : Nat), s0 = .slice (some ad) zs.length cap ∧ s10 = .int .i64 done.length ∧ wr = w.alloc (.cells (Lib.cellsOfV done (N + 1)) 22) ∧
  Aside0 (gg + done.length = N + 1 ∧ done.length ≤ N ∧ zs.length ≤ cap ∧ zs.length ≤ xs.length ∧ zs.count 47 + done.length = N ∧ (∀ x ∈ zs, 0 ≤ x ∧ x < 256)) ∧ Aside0 (∀ i, i < zs.length → w.cell? (ad.add i) = some (.int .u8 (zs.getD i 0))) ∧ Aside0 (PVs w done ps ∧ pieces xs = ps ++ pieces zs))
 case atStart =>
  have h := HN.out
  exact ⟨[], [], a, xs, c, rfl, rfl, by rw [Lib.cellsOfV_nil], ⟨⟨by simp, by simp, h.2.2.2.1, Nat.le_refl _, by simp [h.1], HR.out⟩⟩, HA, ⟨⟨⟨rfl, fun j v p h => by simp at h⟩, rfl⟩⟩⟩
 case round =>
  obtain ⟨done, ps, ad, zs, cap, rfl, rfl, rfl, HZ, HB, HP⟩ := hrel
  have hz := HZ.out
  have hnn := HN.out.2.2.2.2
  have hnext := Lib.cellsOfV_next (done := done) (N := N + 1) (by omega)
  by_cases hlt : done.length < N
  ·
   obtain ⟨i, k1, k2, k3, k4⟩ := pieces_hit zs hz.2.2.2.2.2 (by omega)
   have hd1 : decide ((done.length : Int) < (N : Int)) = true := decide_eq_true (by omega)
   have hd2 : ((done.length : Int) < (N : Int) + 1 - 1) := by omega
   have HI := Aside0.mk (index_calls ad zs.length cap b2 d zs (w.alloc (.cells (Lib.cellsOfV done (N + 1)) 22)) rfl (fun j hj => Lib.cell?_alloc_marked _ (HB.out j hj)) (Lib.cell?_alloc_marked _ hc2))
   rw [k1] at HI
   have c0 : ¬ ((i : Int) < 0) := by omega
   have c1 : (0 : Int) ≤ (i : Int) := by omega
   have c2 : (i : Int) ≤ (cap : Int) := by omega
   have c3 : (0 : Int) ≤ (i : Int) + 1 := by omega
   have c4 : (i : Int) + 1 ≤ (zs.length : Int) := by omega
   have c5 : zs.length ≤ 1000 := by omega
   have KK := Aside0.mk (And.intro k1 (And.intro k2 (And.intro k3 k4)))
   clear k1 k2 k3 k4
   go_wp2_with fail
   refine HI.out.mono ?_
   rintro e w' ⟨rfl, hww⟩
   subst hww
   clear HI
   by_cases hce : cap = i + 1
   ·
    subst hce
    go_wp2_with fail
    have kk := KK.out
    go_roundg (N - done.length)
    case measure => omega
    case rel =>
     refine ⟨done ++ [.slice (some ad) i i], ps ++ [zs.take i], ad, zs.drop (i + 1), 0, by simp; omega, by simp, by rw [Lib.cellsOfV_set (by omega)], ⟨⟨by simp; omega, by simp; omega, by simp; omega, by simp; omega, by simp; omega, fun x hx => hz.2.2.2.2.2 x (List.mem_of_mem_drop hx)⟩⟩, ⟨fun j hj => ?_⟩, ⟨⟨PVs.snoc HP.out.1 (PV.of (by simp; omega) (Nat.le_refl _) (by omega) (fun j hj => by rw [HB.out j (by omega)]; simp [List.getD, List.getElem?_take, hj])), ?_⟩⟩⟩
     ·
      rw [List.length_drop] at hj; omega
     ·
      rw [HP.out.2, kk.2.2.1]
      simp
   ·
    go_wp2_with fail
    have kk := KK.out
    go_roundg (N - done.length)
    case measure => omega
    case rel =>
     refine ⟨done ++ [.slice (some ad) i i], ps ++ [zs.take i], ad.add (i + 1), zs.drop (i + 1), cap - (i + 1), by simp [Addr.add], by simp, by rw [Lib.cellsOfV_set (by omega)], ⟨⟨by simp; omega, by simp; omega, by simp; omega, by simp; omega, by simp; omega, fun x hx => hz.2.2.2.2.2 x (List.mem_of_mem_drop hx)⟩⟩, ⟨fun j hj => ?_⟩, ⟨⟨PVs.snoc HP.out.1 (PV.of (by simp; omega) (Nat.le_refl _) (by omega) (fun j hj => by rw [HB.out j (by omega)]; simp [List.getD, List.getElem?_take, hj])), ?_⟩⟩⟩
     ·
      rw [List.length_drop] at hj; rw [add_add_, HB.out (i + 1 + j) (by omega)]; simp [List.getD, List.getElem?_drop]
     ·
      rw [HP.out.2, kk.2.2.1]
      simp
  ·
   have hd1 : decide ((done.length : Int) < (N : Int)) = false := decide_eq_false (by omega)
   go_wp2_with fail
   go_ret
   have hdn : done.length = N := by omega
   have hvl : (done ++ [Value.slice (some ad) zs.length cap]).length = N + 1 := by simp [hdn]
   refine ⟨done ++ [.slice (some ad) zs.length cap], ?_, ?_, ?_⟩
   ·
    rw [hvl, hdn]
    rfl
   ·
    have h1 := PVs.snoc HP.out.1 (PV.of (w := w) (a := ad) (p := zs) (c := cap) rfl hz.2.2.1 (by omega) HB.out)
    rw [HP.out.2, pieces_none zs (by omega)]
    exact h1
   ·
    rw [Lib.cellsOfV_set (by omega), ← hvl, Lib.cellsOfV_full]
set_option maxHeartbeats 4000000 in
set_option maxRecDepth 100000 in
theorem split_calls (a : Addr) (c b2 d : Nat) (xs : List Int) (w : World) (hr : ∀ x ∈ xs, 0 ≤ x ∧ x < 256) (hc : ∀ i, i < xs.length → w.cell? (a.add i) = some (.int .u8 (xs.getD i 0))) (hcap : xs.length ≤ c) (hn : xs.length ≤ 1000) (hc2 : w.cell? ⟨b2, 0, none⟩ = some (.int .u8 47)) :
  Calls Tryd.prog 37 #[.slice (some a) xs.length c, .slice (some ⟨b2, 0, none⟩) 1 d] w fun e w' => ∃ vs, e = .returned (.slice (some ⟨w.heap.size, 0, none⟩) vs.length vs.length) ∧ PVs w vs (pieces xs) ∧ w' = w.alloc (.cells vs.toArray 22) := by
 have HC := Aside0.mk (genSplit_calls a c b2 d xs w hr hc hcap hn hc2)
 clear hr hc hcap hn hc2
 go_enter Tryd.func37, Tryd.ntmps37
 go_wp2_with fail
 refine HC.out.mono ?_
 rintro e w' ⟨vs, rfl, h1, rfl⟩
 go_wp2_with fail
 go_ret
 exact ⟨vs, rfl, h1, rfl⟩
end
section
open Go.Shelf
theorem containsFunc_calls (vs : List Value) (ps : List (List Int)) (B : Nat) (w : World) (h : PVs w vs ps) (hl : vs.length ≤ 1000) (hb : w.heap[B]? = some (.cells vs.toArray 22 (0, 0))) :
  Calls Tryd.prog 38 #[.slice (some ⟨B, 0, none⟩) vs.length vs.length, .func (.func 39) #[] #[]] w fun e w' => e = .returned (.bool (ps.any fun p => !nameB p)) ∧ Below w.heap.size w w' := by
 let α := { x : Value × List Int // PV w x.1 x.2 }
 have hz : PV w (.slice none 0 0) [] := ⟨none, 0, rfl, Nat.le_refl _, Kd.C_of_reads (d := (0 : Int)) (h1 := fun _ => rfl) (ReadsInt.nil _ _)⟩
 haveI : Inhabited α := ⟨⟨(.slice none 0 0, []), hz⟩⟩
 have H : ∀ x ∈ vs.zip ps, PV w x.1 x.2 := by
  intro x hx
  obtain ⟨j, hj, rfl⟩ := List.getElem_of_mem hx
  have h1 : j < vs.length := by simp at hj; omega
  have h2 : j < ps.length := by simp at hj; omega
  have := h.2 j vs[j] ps[j] (List.getElem?_eq_getElem h1) (List.getElem?_eq_getElem h2)
  simpa using this
 let zs : List α := (vs.zip ps).pmap (fun x hx => (⟨x, hx⟩ : α)) H
 have hzl : zs.length = vs.length := by simp [zs, h.1]
 have hat : ∀ j, (hj : j < zs.length) → (zs[j]!).1.1 = vs[j]'(by omega) ∧ (zs[j]!).1.2 = ps[j]'(by have := h.1; omega) := by
  intro j hj
  rw [getElem!_pos zs j hj]
  simp [zs]
 have hp : PredAt Tryd.prog 39 #[] (fun x : α => x.1.1) (fun x : α => !nameB x.1.2) w := by
  intro W x hW
  obtain ⟨A, c, e, hc, hr⟩ := x.2
  show Calls Tryd.prog 39 (#[x.1.1] ++ #[]) W _
  rw [e]
  refine (nameNot_calls A c x.1.2 W (Kd.C_below hr hW) hc).mono ?_
  rintro e w' ⟨rfl, hw⟩
  exact ⟨rfl, 0, hw⟩
 have eg : ∀ args W, (callFunc 39 args).run Tryd.prog W = .ok (.enter 39 args) W := enters_of Tryd.func39 (by kernel_rfl) rfl
 have hc : ∀ j, j < zs.length → w.cell? ⟨B, 0 + j, none⟩ = some ((fun x : α => x.1.1) zs[j]!) := by
  intro j hj
  have := blk_cell hb j
  simp only [Nat.zero_add]
  rw [this, (hat j hj).1]
  simp [List.getElem?_eq_getElem (show j < vs.length by omega)]
 refine (AnyE.slices_ContainsFunc Tryd.laysCF (fun x : α => x.1.1) (fun x : α => !nameB x.1.2) 39 #[] eg B 0 vs.length vs.length zs w hp (by omega) (by omega) hc).mono ?_
 rintro e w' ⟨rfl, q, rfl⟩
 refine ⟨?_, pw_below_drewN (Below.refl _ _) q⟩
 have e1 : zs.take vs.length = zs := by rw [← hzl, List.take_length]
 rw [e1]
 have e2 : ps.any (fun p => !nameB p) = zs.any (fun x => !nameB x.1.2) := by
  have e3 : ps = zs.map (fun x => x.1.2) := by
   apply List.ext_getElem
   ·
    rw [List.length_map, hzl, h.1]
   ·
    intro j h1 h2
    rw [List.getElem_map]
    simp [zs]
  conv => lhs; rw [e3]
  rw [List.any_map]
  rfl
 rw [e2]
def bytesB (l : List Int) : Bool := l.all fun x => decide (0 ≤ x) && decide (x < 256)
theorem bytesB_iff {l : List Int} : bytesB l = true ↔ ∀ x ∈ l, 0 ≤ x ∧ x < 256 := by
 unfold bytesB
 simp [List.all_eq_true]
def impl_ValidPath.f (l : List Int) : Option Bool := if bytesB l then some (pathB l) else none
set_option maxHeartbeats 4000000 in
set_option maxRecDepth 100000 in
theorem impl_ValidPath_calls (A : Option Addr) (c : Nat) (l : List Int) (w : World) (h : Kd.C (Kd.int .u8) w A l.length l) (hc : l.length ≤ c) (hr : ∀ x ∈ l, 0 ≤ x ∧ x < 256) :
  Calls Tryd.prog 11 #[.slice A l.length c] w fun e w' => e = .returned (.bool (pathB l)) ∧ Below w.heap.size w w' := by
 by_cases h2 : l.length < 2
 ·
  have e : pathB l = false := Bool.eq_false_iff.2 fun h => by have := (pathB_len l h).1; omega
  have d1 : decide ((l.length : Int) < 2) = true := decide_eq_true (by omega)
  rw [e]
  clear e h hr
  go_enter Tryd.func11, Tryd.ntmps11
  go_wp2_with fail
  go_ret
  exact ⟨rfl, Below.refl _ _⟩
 obtain ⟨x, r, rfl⟩ : ∃ x r, l = x :: r := by cases l with | nil => simp at h2 | cons x r => exact ⟨x, r, rfl⟩
 obtain ⟨ad, rfl, hx⟩ := Kd.at_int h 0 (by omega) (by simp only [List.length_cons]; omega)
 replace hx : w.cell? ad = some (.int .u8 x) := hx
 have HX := Aside0.mk (show x = x from rfl)
 by_cases h47 : x = 47
 case neg =>
  have e : pathB (x :: r) = false := by unfold pathB; simp [h47]
  rw [e]
  have hlen : ¬ ((x :: r).length < 2) := h2
  generalize (x :: r).length = L at *
  have d1 : decide ((L : Int) < 2) = false := decide_eq_false (by omega)
  have d2 : decide (x = 47) = false := decide_eq_false h47
  have d3 : (x != 47) = true := by simpa using h47
  have d4 : (0 : Int) < (L : Int) := by omega
  clear e hr h h47 HX hlen h2
  go_enter Tryd.func11, Tryd.ntmps11
  go_wp2_with fail
  go_ret
  exact ⟨rfl, Below.refl _ _⟩
 subst h47
 by_cases h136 : 136 < (47 :: r : List Int).length
 ·
  have e : pathB (47 :: r) = false := Bool.eq_false_iff.2 fun h => by have := (pathB_len _ h).2; omega
  rw [e]
  generalize (47 :: r : List Int).length = L at *
  have d1 : decide ((L : Int) < 2) = false := decide_eq_false (by omega)
  have d2 : decide ((136 : Int) < (L : Int)) = true := decide_eq_true (by omega)
  have d4 : (0 : Int) < (L : Int) := by omega
  clear e hr h HX h2
  go_enter Tryd.func11, Tryd.ntmps11
  go_wp2_with fail
  go_ret
  exact ⟨rfl, Below.refl _ _⟩
 obtain ⟨i0, hi0, _, hsz0, _⟩ := info_parts info5
 obtain ⟨A6, hcut6, hA6, hC6⟩ := print_drop_of (P := Tryd.prog) (Value.int .u8) 0 22 5 .i64 Tryd.underlying22 hi0 hsz0 (some ad) c (47 :: r) 1 (by omega) (by simp only [List.length_cons]; omega) hc
 have hrd := hA6 _ (Kd.reads_of_C h)
 have e1 : (47 :: r : List Int).drop (1 : Int).toNat = r := rfl
 rw [e1] at hcut6 hrd hC6
 rw [show (1 : Int).toNat = 1 from rfl] at hcut6 hC6
 have hrl : 0 < r.length := by simp only [List.length_cons] at h2; omega
 have hr136 : r.length ≤ 1000 := by simp only [List.length_cons] at h136; omega
 obtain ⟨a6, rfl, hcell6⟩ := hrd.2.2 hrl
 have HR := Aside0.mk (show ∀ x ∈ r, 0 ≤ x ∧ x < 256 from fun x hx => hr x (by simp [hx]))
 have HC6 := Aside0.mk hC6
 have HCE := Aside0.mk hcell6
 have HLL := Aside0.mk (And.intro hrl hr136)
 have kc := fun (w : World) (C : Array Value) (n c : Nat) => Lib.run_convert_bytes_const (P := Tryd.prog) w 22 5 C n c Tryd.underlying22 Tryd.underlying5
 obtain ⟨L, hL⟩ : ∃ L, (47 :: r : List Int).length = L := ⟨_, rfl⟩
 rw [hL] at hcut6 h2 h136 ⊢
 have d1 : decide ((L : Int) < 2) = false := decide_eq_false (by omega)
 have d2 : decide ((136 : Int) < (L : Int)) = false := decide_eq_false (by omega)
 have d4 : (0 : Int) < (L : Int) := by omega
 have hPB : Aside0 (pathB (47 :: r) = (decide ((pieces r).length ≤ 8) && (pieces r).all nameB)) := ⟨rfl⟩
 clear h hr hc hi0 hsz0 hA6 hrd hL hC6 hcell6 hrl hr136 h2 h136 e1 HX
 go_enter Tryd.func11, Tryd.ntmps11
 go_wp2_with fail
 have hbA : Below w.heap.size w (w.alloc (.cells #[.int .u8 47] 5 (1, 2))) := (Below.refl _ w).alloc (Nat.le_refl _) _
 refine (split_calls a6 (c - 1) w.heap.size 1 r _ HR.out (fun i hi => Lib.cell?_alloc_marked _ (HCE.out i hi)) HC6.out HLL.out.2 (World.cell?_alloc_mark w #[.int .u8 47] 5 (1, 2) 0)).mono ?_
 rintro e w1 ⟨vs, rfl, hv, hw1⟩
 subst hw1
 have hbB := below_alloc (Below.refl (w.alloc (.cells #[.int .u8 47] 5 (1, 2))).heap.size (w.alloc (.cells #[.int .u8 47] 5 (1, 2)))) (.cells vs.toArray 22)
 have hb1 := below_step hbA hbB
 have hvl : vs.length = (pieces r).length := hv.1
 have hpl : (pieces r).length ≤ 1001 := by
  have h1 := pieces_count r
  have h2 : r.count 47 ≤ r.length := List.count_le_length
  have := HLL.out.2
  omega
 obtain ⟨n, hn⟩ : ∃ n, vs.length = n := ⟨_, rfl⟩
 by_cases h8 : 8 < n
 ·
  have e : pathB (47 :: r) = false := by rw [hPB.out, decide_eq_false (show ¬ (pieces r).length ≤ 8 by omega)]; rfl
  have d5 : decide ((n : Int) ≤ 8) = false := decide_eq_false (by omega)
  have HE := Aside0.mk e
  rw [hn]
  clear e hv hvl hpl h8 d1 d2 d4
  go_wp2_with fail
  go_ret
  rw [HE.out]
  exact ⟨rfl, hb1⟩
 ·
  have d5 : decide ((n : Int) ≤ 8) = true := decide_eq_true (by omega)
  have hbl : (((w.alloc (.cells #[.int .u8 47] 5 (1, 2))).alloc (.cells vs.toArray 22))).heap[w.heap.size + 1]? = some (.cells vs.toArray 22 (0, 0)) := by
   have := blk_new (w.alloc (.cells #[.int .u8 47] 5 (1, 2))) (.cells vs.toArray 22)
   simpa using this
  have HCF := Aside0.mk (containsFunc_calls vs (pieces r) (w.heap.size + 1) _ (show PVs ((w.alloc (.cells #[.int .u8 47] 5 (1, 2))).alloc (.cells vs.toArray 22)) vs (pieces r) from ⟨hv.1, fun j v p h1 h2 => by obtain ⟨A, c, e, hc, hr⟩ := hv.2 j v p h1 h2; exact ⟨A, c, e, hc, Kd.C_below hr hbB⟩⟩) (by omega) hbl)
  have hPB2 := Aside0.mk (show pathB (47 :: r) = !((pieces r).any fun p => !nameB p) by
   rw [hPB.out, decide_eq_true (show (pieces r).length ≤ 8 by omega), Bool.true_and]
   simp [List.all_eq_not_any_not])
  rw [hn] at HCF ⊢
  clear hv hvl hpl h8 d1 d2 d4 hPB hbl
  generalize ((pieces r).any fun p => !nameB p) = ab at *
  go_wp2_with fail
  refine HCF.out.mono ?_
  rintro e w2 ⟨rfl, hb2⟩
  have hb3 := below_step hb1 hb2
  go_wp2_with fail
  go_ret
  rw [hPB2.out]
  exact ⟨rfl, hb3⟩
theorem impl_ValidPath.calls (A0 : Option Addr) (c0 : Nat) (l0 : List Int) (r : Bool) (w : World) (hr0 : Kd.C (Kd.int .u8) w A0 l0.length l0) (hc0 : l0.length ≤ c0) (h : impl_ValidPath.f l0 = some r) :
  Calls Tryd.prog 11 #[.slice A0 l0.length c0] w fun e w' => e = .returned (.bool r) ∧ Below w.heap.size w w' := by
 unfold impl_ValidPath.f at h
 split at h
 ·
  rename_i hb
  have := Option.some.inj h
  subst this
  exact impl_ValidPath_calls A0 c0 l0 w hr0 hc0 (bytesB_iff.1 hb)
 ·
  cases h
end
mutual
def impl_queueOk.l0 : Nat → List (S138) → Int → Int → Option (Bool)
  | 0, _, _, _ => none
  | k + 1, x9, x10, x11 => if x11 < x10 then (if 0 ≤ x11 then (if x11 < (x9.length : Int) then (if ((((rd_T138 x9 x11).f0) == 4) != (x11 == 7)) = true then (impl_queueOk.j1 k (x11 == 7) x9 x10 x11 true ((rd_T138 x9 x11).f0) ((rd_T138 x9 x11).f1)) else (if ((rd_T138 x9 x11).f0) < 1 then (impl_queueOk.j1 k (x11 == 7) x9 x10 x11 true ((rd_T138 x9 x11).f0) ((rd_T138 x9 x11).f1)) else (impl_queueOk.j1 k (x11 == 7) x9 x10 x11 (decide (((rd_T138 x9 x11).f0) > 4)) ((rd_T138 x9 x11).f0) ((rd_T138 x9 x11).f1)))) else (none)) else (none)) else (some true)
def impl_queueOk.j1 : Nat → Bool → List (S138) → Int → Int → Bool → Int → List Int → Option (Bool)
  | 0, _, _, _, _, _, _, _ => none
  | k + 1, x5, x9, x10, x11, x32, x245000, x245001 => if x32 = true then (some false) else (if x5 = true then (if (x245001.length : Int) > 0 then (some false) else (impl_queueOk.l0 k x9 x10 (wrap64 (x11 + 1)))) else ((impl_ValidPath.f x245001).bind fun t245 => (if t245 = true then (impl_queueOk.l0 k x9 x10 (wrap64 (x11 + 1))) else (some false))))
end
def impl_queueOk.f (k : Nat) (l0 : List (S138)) : Option (Bool) := if (l0.length : Int) > 8 then (some false) else (impl_queueOk.l0 k l0 (l0.length : Int) 0)
set_option maxHeartbeats 8000000 in
set_option maxRecDepth 100000 in
theorem impl_queueOk.calls (k : Nat) (A0 : Option Addr) (c0 : Nat) (l0 : List (S138)) (r : Bool) (w : World) (hr0 : Kd.C k138 w A0 l0.length l0) (hc0 : l0.length ≤ c0) (h : impl_queueOk.f k l0 = some r) :
  Calls Tryd.prog 48 #[.slice A0 l0.length c0] w fun e w' => e = .returned (.bool r) ∧ Below w.heap.size w w' := by
 have hu138 := Tryd.underlying138
 have HR0 := Aside0.mk hr0
 have HC0 := Aside0.mk hc0
 clear hr0 hc0
 have HB := Aside0.mk (Below.refl w.heap.size w)
 have H : (if (l0.length : Int) > 8 then (some false) else (impl_queueOk.l0 k l0 (l0.length : Int) 0)) = some r := h
 clear h
 by_cases c2 : (l0.length : Int) > 8
 ·
  rw [if_pos c2] at H
  have c2b0 : decide (8 < (l0.length : Int)) = true := decide_eq_true c2
  have c2b1 : decide (8 < l0.length) = true := decide_eq_true (by omega)
  clear c2
  obtain rfl := Option.some.inj H
  go_enter Tryd.func48, Tryd.ntmps48
  go_wp2
  go_ret
  exact ⟨by first | rfl | (simp [errW_none, errW_some] <;> rfl) | (simp [*, errW_none, errW_some] <;> rfl), by repeat (first | (with_reducible first | exact HB.out | apply below_alloc | apply pw_below_drewN | apply below_drew1) | exact HB.out)⟩
 ·
  rw [if_neg c2] at H
  have c2b0 : decide (8 < (l0.length : Int)) = false := decide_eq_false c2
  have c2b1 : decide (8 < l0.length) = false := decide_eq_false (by omega)
  clear c2
  have H' := Aside0.mk H
  clear H
  go_enter Tryd.func48, Tryd.ntmps48
  go_wp2
  go_loopg [11] k (fun kq v11 w' => ∃ (x11_1 : Int), v11 = .int .i64 x11_1 ∧ Aside0 (impl_queueOk.l0 kq l0 (l0.length : Int) x11_1 = some r) ∧ Aside0 (kq ≤ k) ∧ Aside0 (Below w.heap.size w w'))
  case atStart => exact ⟨(0), (by first | rfl | (simp; done) | (simp [*]; done)), H', ⟨Nat.le_refl _⟩, ⟨by repeat (first | (with_reducible first | exact HB.out | apply below_alloc | apply pw_below_drewN | apply below_drew1) | exact HB.out)⟩⟩
  case round =>
   clear H'
   try clear c2
   try clear c2b0
   try clear c2b1
   try clear p2
   obtain ⟨x11_1, rfl, HA, HK1, HB⟩ := hrel
   cases gk with
   | zero => exact absurd HA.out (by simp [impl_queueOk.l0])
   | succ k1 =>
    have H := HA.out
    clear HA
    simp only [impl_queueOk.l0] at H
    by_cases c3 : x11_1 < (l0.length : Int)
    ·
     rw [if_pos c3] at H
     have c3b0 : decide (x11_1 < (l0.length : Int)) = true := decide_eq_true c3
     clear c3
     by_cases c4 : 0 ≤ x11_1
     ·
      rw [if_pos c4] at H
      have c4b0 : decide (0 ≤ x11_1) = true := decide_eq_true c4
      clear c4
      by_cases c5 : x11_1 < (l0.length : Int)
      ·
       rw [if_pos c5] at H
       have c5b0 : decide (x11_1 < (l0.length : Int)) = true := decide_eq_true c5
       clear c5
       have HC6 := Aside0.mk H
       clear H
       have p243 : 0 ≤ (x11_1 : Int) := of_decide_eq_true (by first | (with_reducible assumption) | assumption)
       have q243 : x11_1 < (l0.length : Int) := of_decide_eq_true (by first | (with_reducible assumption) | assumption)
       obtain ⟨ad243, A243_1, c243_1, e243, hx243_0, hx243_1, hl243_1, hi243_1⟩ := at_T138 HR0.out x11_1 p243 q243
       cases e243
       replace hx243_0 := (HB.out.cell (World.block_lt_of_cell? w _ hx243_0)).trans hx243_0
       replace hx243_1 := (HB.out.cell (World.block_lt_of_cell? w _ hx243_1)).trans hx243_1
       have HR243_1 := Aside0.mk hi243_1
       have HC243_1 := Aside0.mk hl243_1
       clear hi243_1 hl243_1
       replace p243 := eq_true p243
       replace q243 := eq_true q243
       go_upto_region 7 with (first | ((with_reducible refine gate_dst (N := 4) rfl ?_); (try (refine gate_guard (by rfl) ?_; dsimp only)); refine box_event ?hg (N := 4) ?hd (cs := #[.int .i64 0, .slice none 0 0]) (t := 138) ?hr ?_; (case hd => rfl); (case hg => rfl); (case hr => first | (go_simp; done) | (go_simp; rfl)); intro gb244 hg w7 hbox hb; have n0_ := Aside0.mk (below_step (by repeat (first | (with_reducible first | exact HB.out | apply below_alloc | apply pw_below_drewN | apply below_drew1) | exact HB.out)) hb); have n1_ := Aside0.mk (hbox); have n2_ := Aside0.mk ((by rw [hg]; exact (below_size (by repeat (first | (with_reducible first | exact HB.out | apply below_alloc | apply pw_below_drewN | apply below_drew1) | exact HB.out))) : w.heap.size ≤ gb244)); have n3_ := Aside0.mk ((by rw [hg]; exact (below_size (by repeat (first | (with_reducible first | exact HB.out | apply below_alloc | apply pw_below_drewN | apply below_drew1) | exact HB.out))) : w.heap.size ≤ gb244)); clear HB; have HB := n0_; have BK244 := n1_; have GW244 := n2_; have GE244 := n3_; clear n0_ n1_ n2_ n3_; clear hb hbox hg; have hcz8_0 : w7.cell? ⟨gb244, 0, none⟩ = some (.int .i64 0) := (blk_cell BK244.out 0).trans rfl; have hcz8_1 : w7.cell? ⟨gb244, 1, none⟩ = some (.slice none 0 0) := (blk_cell BK244.out 1).trans rfl; have hfz8_0 := blk_frozen BK244.out 0; have hfz8_1 := blk_frozen BK244.out 1))
       (try simp only [Act.put, List.setIfInBounds_toArray, List.set_cons_zero, List.set_cons_succ])
       go_cut [32] (fun v32 wc => ∃ (kq : Nat) (x32_5 : Bool), v32 = .bool x32_5 ∧ Aside0 (impl_queueOk.j1 kq (x11_1 == 7) l0 (l0.length : Int) x11_1 x32_5 ((rd_T138 l0 x11_1).f0) ((rd_T138 l0 x11_1).f1) = some r) ∧ Aside0 (kq ≤ k1) ∧ Aside0 (wc.heap[gb244]? = some (.cells #[.int .i64 ((rd_T138 l0 x11_1).f0), (.slice A243_1 ((rd_T138 l0 x11_1).f1).length c243_1)] 138 (0, 0))) ∧ Aside0 (Below w.heap.size w wc))
       case first =>
        have H := HC6.out
        clear HC6
        by_cases c9 : ((((rd_T138 l0 x11_1).f0) == 4) != (x11_1 == 7)) = true
        ·
         rw [if_pos c9] at H
         have c9b0 : ((((rd_T138 l0 x11_1).f0) == 4) != (x11_1 == 7)) = true := c9
         (try (have c9b1 : decide ((((rd_T138 l0 x11_1).f0) == 4) = (x11_1 == 7)) = false := by simpa using c9))
         (try (have c9b2 : ((((rd_T138 l0 x11_1).f0) == 4) == (x11_1 == 7)) = false := by simpa using c9))
         (try (have c9b3 : ¬ ((((rd_T138 l0 x11_1).f0) == 4) = (x11_1 == 7)) := by simpa using c9))
         clear c9
         (first | rw [c9b0] | (simp only [i64_w, i32_w]; rw [c9b0]) | skip)
         have H' := Aside0.mk H
         clear H
         have hcz10_0 : w7.cell? ⟨gb244, 0, none⟩ = some (.int .i64 0) := (blk_cell BK244.out 0).trans rfl
         have hcz10_1 : w7.cell? ⟨gb244, 1, none⟩ = some (.slice none 0 0) := (blk_cell BK244.out 1).trans rfl
         have hfz10_0 := blk_frozen BK244.out 0
         have hfz10_1 := blk_frozen BK244.out 1
         go_wp2
         go_meet
         case rel => exact ⟨_, (true), (by first | rfl | (simp; done) | (simp [*]; done)), H', ⟨by have := HK1.out; first | omega | exact Nat.le_refl _⟩, ⟨by (with_reducible repeat (first | refine blk_drewN ?_ _ | refine blk_drew ?_ | refine blk_alloc ?_ _)); refine blk_put (cs := #[.int .i64 ((rd_T138 l0 x11_1).f0), .slice none 0 0]) ?_ 1 _ rfl; (with_reducible repeat (first | refine blk_drewN ?_ _ | refine blk_drew ?_ | refine blk_alloc ?_ _)); refine blk_put (cs := #[.int .i64 0, .slice none 0 0]) ?_ 0 _ rfl; (with_reducible repeat (first | refine blk_drewN ?_ _ | refine blk_drew ?_ | refine blk_alloc ?_ _)); exact BK244.out⟩, ⟨by repeat (first | (with_reducible first | exact HB.out | apply below_alloc | apply pw_below_drewN | apply below_drew1 | refine below_set ?_ GE244.out) | exact HB.out)⟩⟩
        ·
         rw [if_neg c9] at H
         have c9b0 : ((((rd_T138 l0 x11_1).f0) == 4) != (x11_1 == 7)) = false := by simpa using c9
         (try (have c9b1 : decide ((((rd_T138 l0 x11_1).f0) == 4) = (x11_1 == 7)) = true := by simpa using c9))
         (try (have c9b2 : ((((rd_T138 l0 x11_1).f0) == 4) == (x11_1 == 7)) = true := by simpa using c9))
         clear c9
         (first | rw [c9b0] | (simp only [i64_w, i32_w]; rw [c9b0]) | skip)
         by_cases c11 : ((rd_T138 l0 x11_1).f0) < 1
         ·
          rw [if_pos c11] at H
          have c11b0 : decide (((rd_T138 l0 x11_1).f0) < 1) = true := decide_eq_true c11
          clear c11
          have H' := Aside0.mk H
          clear H
          have hcz12_0 : w7.cell? ⟨gb244, 0, none⟩ = some (.int .i64 0) := (blk_cell BK244.out 0).trans rfl
          have hcz12_1 : w7.cell? ⟨gb244, 1, none⟩ = some (.slice none 0 0) := (blk_cell BK244.out 1).trans rfl
          have hfz12_0 := blk_frozen BK244.out 0
          have hfz12_1 := blk_frozen BK244.out 1
          go_wp2
          go_meet
          case rel => exact ⟨_, (true), (by first | rfl | (simp; done) | (simp [*]; done)), H', ⟨by have := HK1.out; first | omega | exact Nat.le_refl _⟩, ⟨by (with_reducible repeat (first | refine blk_drewN ?_ _ | refine blk_drew ?_ | refine blk_alloc ?_ _)); refine blk_put (cs := #[.int .i64 ((rd_T138 l0 x11_1).f0), .slice none 0 0]) ?_ 1 _ rfl; (with_reducible repeat (first | refine blk_drewN ?_ _ | refine blk_drew ?_ | refine blk_alloc ?_ _)); refine blk_put (cs := #[.int .i64 0, .slice none 0 0]) ?_ 0 _ rfl; (with_reducible repeat (first | refine blk_drewN ?_ _ | refine blk_drew ?_ | refine blk_alloc ?_ _)); exact BK244.out⟩, ⟨by repeat (first | (with_reducible first | exact HB.out | apply below_alloc | apply pw_below_drewN | apply below_drew1 | refine below_set ?_ GE244.out) | exact HB.out)⟩⟩
         ·
          rw [if_neg c11] at H
          have c11b0 : decide (((rd_T138 l0 x11_1).f0) < 1) = false := decide_eq_false c11
          clear c11
          have H' := Aside0.mk H
          clear H
          have hcz13_0 : w7.cell? ⟨gb244, 0, none⟩ = some (.int .i64 0) := (blk_cell BK244.out 0).trans rfl
          have hcz13_1 : w7.cell? ⟨gb244, 1, none⟩ = some (.slice none 0 0) := (blk_cell BK244.out 1).trans rfl
          have hfz13_0 := blk_frozen BK244.out 0
          have hfz13_1 := blk_frozen BK244.out 1
          go_wp2
          go_meet
          case rel => exact ⟨_, (decide (((rd_T138 l0 x11_1).f0) > 4)), (by first | rfl | (simp; done) | (simp [*]; done)), H', ⟨by have := HK1.out; first | omega | exact Nat.le_refl _⟩, ⟨by (with_reducible repeat (first | refine blk_drewN ?_ _ | refine blk_drew ?_ | refine blk_alloc ?_ _)); refine blk_put (cs := #[.int .i64 ((rd_T138 l0 x11_1).f0), .slice none 0 0]) ?_ 1 _ rfl; (with_reducible repeat (first | refine blk_drewN ?_ _ | refine blk_drew ?_ | refine blk_alloc ?_ _)); refine blk_put (cs := #[.int .i64 0, .slice none 0 0]) ?_ 0 _ rfl; (with_reducible repeat (first | refine blk_drewN ?_ _ | refine blk_drew ?_ | refine blk_alloc ?_ _)); exact BK244.out⟩, ⟨by repeat (first | (with_reducible first | exact HB.out | apply below_alloc | apply pw_below_drewN | apply below_drew1 | refine below_set ?_ GE244.out) | exact HB.out)⟩⟩
       case rest =>
        clear HC6
        try clear c1
        try clear c2
        try clear c2b0
        try clear c2b1
        try clear p2
        try clear q2
        try clear hx2
        try clear c3
        try clear c3b0
        try clear c4
        try clear c4b0
        try clear c5
        try clear c5b0
        try clear c9
        try clear c9b0
        try clear c9b1
        try clear c9b2
        try clear c11
        try clear c11b0
        try clear hcz10_0
        try clear hcz10_1
        try clear hcz12_0
        try clear hcz12_1
        try clear hcz13_0
        try clear hcz13_1
        try clear hcz8_0
        try clear hcz8_1
        try clear hfz10_0
        try clear hfz10_1
        try clear hfz12_0
        try clear hfz12_1
        try clear hfz13_0
        try clear hfz13_1
        try clear hfz8_0
        try clear hfz8_1
        try clear hx243_0
        try clear hx243_1
        try clear p2
        try clear p243
        try clear q243
        obtain ⟨kq, x32_5, rfl, HA, HJ5, BK244, HB⟩ := hcut
        cases kq with
        | zero => exact absurd HA.out (by simp [impl_queueOk.j1])
        | succ kj5 =>
         have H := HA.out
         clear HA
         simp only [impl_queueOk.j1] at H
         by_cases c14 : x32_5 = true
         ·
          subst c14
          have H1 : (some false) = some r := by first | rfl | (rw [if_pos rfl] at H; exact H)
          clear H
          have H := H1
          clear H1
          obtain rfl := Option.some.inj H
          go_wp2
          go_ret
          exact ⟨by first | rfl | (simp [errW_none, errW_some] <;> rfl) | (simp [*, errW_none, errW_some] <;> rfl), by repeat (first | (with_reducible first | exact HB.out | apply below_alloc | apply pw_below_drewN | apply below_drew1 | refine below_set ?_ GE244.out) | exact HB.out)⟩
         ·
          replace c14 := Bool.eq_false_iff.mpr c14
          subst c14
          have H1 : (if (x11_1 == 7) = true then (if (((rd_T138 l0 x11_1).f1).length : Int) > 0 then (some false) else (impl_queueOk.l0 kj5 l0 (l0.length : Int) (wrap64 (x11_1 + 1)))) else ((impl_ValidPath.f ((rd_T138 l0 x11_1).f1)).bind fun t245 => (if t245 = true then (impl_queueOk.l0 kj5 l0 (l0.length : Int) (wrap64 (x11_1 + 1))) else (some false)))) = some r := by first | rfl | (rw [if_neg (show ¬ (false = true) by decide)] at H; exact H)
          clear H
          have H := H1
          clear H1
          by_cases c15 : (x11_1 == 7) = true
          ·
           rw [if_pos c15] at H
           have c15b0 : (x11_1 == 7) = true := c15
           (try (have c15b1 : decide (x11_1 = 7) = true := by simpa using c15))
           (try (have c15b2 : (x11_1 == 7) = true := by simpa using c15))
           clear c15
           by_cases c16 : (((rd_T138 l0 x11_1).f1).length : Int) > 0
           ·
            rw [if_pos c16] at H
            have c16b0 : decide (0 < (((rd_T138 l0 x11_1).f1).length : Int)) = true := decide_eq_true c16
            have c16b1 : decide (0 < ((rd_T138 l0 x11_1).f1).length) = true := decide_eq_true (by omega)
            clear c16
            obtain rfl := Option.some.inj H
            have hcz17_0 : wc.cell? ⟨gb244, 0, none⟩ = some (.int .i64 ((rd_T138 l0 x11_1).f0)) := (blk_cell BK244.out 0).trans rfl
            have hcz17_1 : wc.cell? ⟨gb244, 1, none⟩ = some (.slice A243_1 ((rd_T138 l0 x11_1).f1).length c243_1) := (blk_cell BK244.out 1).trans rfl
            have hfz17_0 := blk_frozen BK244.out 0
            have hfz17_1 := blk_frozen BK244.out 1
            go_wp2
            go_ret
            exact ⟨by first | rfl | (simp [errW_none, errW_some] <;> rfl) | (simp [*, errW_none, errW_some] <;> rfl), by repeat (first | (with_reducible first | exact HB.out | apply below_alloc | apply pw_below_drewN | apply below_drew1 | refine below_set ?_ GE244.out) | exact HB.out)⟩
           ·
            rw [if_neg c16] at H
            have c16b0 : decide (0 < (((rd_T138 l0 x11_1).f1).length : Int)) = false := decide_eq_false c16
            have c16b1 : decide (0 < ((rd_T138 l0 x11_1).f1).length) = false := decide_eq_false (by omega)
            clear c16
            have H' := Aside0.mk H
            clear H
            have hcz18_0 : wc.cell? ⟨gb244, 0, none⟩ = some (.int .i64 ((rd_T138 l0 x11_1).f0)) := (blk_cell BK244.out 0).trans rfl
            have hcz18_1 : wc.cell? ⟨gb244, 1, none⟩ = some (.slice A243_1 ((rd_T138 l0 x11_1).f1).length c243_1) := (blk_cell BK244.out 1).trans rfl
            have hfz18_0 := blk_frozen BK244.out 0
            have hfz18_1 := blk_frozen BK244.out 1
            go_wp2
            go_roundg kj5
            case measure => have := HK1.out; have := HJ5.out; omega
            case rel => exact ⟨(wrap64 (x11_1 + 1)), (by first | rfl | (simp; done) | (simp [*]; done)), H', ⟨by have := HK1.out; have := HJ5.out; omega⟩, ⟨by repeat (first | (with_reducible first | exact HB.out | apply below_alloc | apply pw_below_drewN | apply below_drew1 | refine below_set ?_ GE244.out) | exact HB.out)⟩⟩
          ·
           rw [if_neg c15] at H
           have c15b0 : (x11_1 == 7) = false := by simpa using c15
           (try (have c15b1 : decide (x11_1 = 7) = false := by simpa using c15))
           (try (have c15b2 : (x11_1 == 7) = false := by simpa using c15))
           (try (have c15b3 : ¬ (x11_1 = 7) := by simpa using c15))
           clear c15
           replace H := Option.bind_eq_some_iff.mp H
           obtain ⟨t245, A190, H⟩ := H
           replace H : (if t245 = true then (impl_queueOk.l0 kj5 l0 (l0.length : Int) (wrap64 (x11_1 + 1))) else (some false)) = some r := H
           have A19 := Aside0.mk A190
           clear A190
           by_cases c20 : t245 = true
           ·
            subst c20
            have H1 : (impl_queueOk.l0 kj5 l0 (l0.length : Int) (wrap64 (x11_1 + 1))) = some r := by first | rfl | (rw [if_pos rfl] at H; exact H)
            clear H
            have H := H1
            clear H1
            have H' := Aside0.mk H
            clear H
            have hcz21_0 : wc.cell? ⟨gb244, 0, none⟩ = some (.int .i64 ((rd_T138 l0 x11_1).f0)) := (blk_cell BK244.out 0).trans rfl
            have hcz21_1 : wc.cell? ⟨gb244, 1, none⟩ = some (.slice A243_1 ((rd_T138 l0 x11_1).f1).length c243_1) := (blk_cell BK244.out 1).trans rfl
            have hfz21_0 := blk_frozen BK244.out 0
            have hfz21_1 := blk_frozen BK244.out 1
            go_wp2_with (first | (go_at_call 11; (with_reducible refine (impl_ValidPath.calls _ _ ((rd_T138 l0 x11_1).f1) true _ ?side1 ?side2 A19.out).mono ?_); (case side1 => repeat (first | exact (Kd.C_below HR243_1.out HB.out) | (with_reducible refine Kd.C_alloc ?_ _) | (with_reducible refine Kd.C_drewN ?_ _) | (with_reducible refine Kd.C_drew ?_))); (case side2 => exact HC243_1.out); rintro e w22 ⟨rfl, hb⟩; have n0_ := Aside0.mk (blk_below (g := gb244) (o := .cells #[.int .i64 ((rd_T138 l0 x11_1).f0), .slice A243_1 ((rd_T138 l0 x11_1).f1).length c243_1] 138 (0, 0)) (by (with_reducible repeat (first | refine blk_drewN ?_ _ | refine blk_drew ?_ | refine blk_alloc ?_ _)); exact BK244.out) hb); have n1_ := Aside0.mk (below_step (by repeat (first | (with_reducible first | exact HB.out | apply below_alloc | apply pw_below_drewN | apply below_drew1 | refine below_set ?_ GE244.out) | exact HB.out)) hb); clear BK244; clear HB; have BK244 := n0_; have HB := n1_; clear n0_ n1_; (try clear hb); (try clear hb2); (try clear hk); (try clear hi)))
            go_roundg kj5
            case measure => have := HK1.out; have := HJ5.out; omega
            case rel => exact ⟨(wrap64 (x11_1 + 1)), (by first | rfl | (simp; done) | (simp [*]; done)), H', ⟨by have := HK1.out; have := HJ5.out; omega⟩, ⟨by repeat (first | (with_reducible first | exact HB.out | apply below_alloc | apply pw_below_drewN | apply below_drew1 | refine below_set ?_ GE244.out) | exact HB.out)⟩⟩
           ·
            replace c20 := Bool.eq_false_iff.mpr c20
            subst c20
            have H1 : (some false) = some r := by first | rfl | (rw [if_neg (show ¬ (false = true) by decide)] at H; exact H)
            clear H
            have H := H1
            clear H1
            obtain rfl := Option.some.inj H
            have hcz23_0 : wc.cell? ⟨gb244, 0, none⟩ = some (.int .i64 ((rd_T138 l0 x11_1).f0)) := (blk_cell BK244.out 0).trans rfl
            have hcz23_1 : wc.cell? ⟨gb244, 1, none⟩ = some (.slice A243_1 ((rd_T138 l0 x11_1).f1).length c243_1) := (blk_cell BK244.out 1).trans rfl
            have hfz23_0 := blk_frozen BK244.out 0
            have hfz23_1 := blk_frozen BK244.out 1
            go_wp2_with (first | (go_at_call 11; (with_reducible refine (impl_ValidPath.calls _ _ ((rd_T138 l0 x11_1).f1) false _ ?side1 ?side2 A19.out).mono ?_); (case side1 => repeat (first | exact (Kd.C_below HR243_1.out HB.out) | (with_reducible refine Kd.C_alloc ?_ _) | (with_reducible refine Kd.C_drewN ?_ _) | (with_reducible refine Kd.C_drew ?_))); (case side2 => exact HC243_1.out); rintro e w24 ⟨rfl, hb⟩; have n0_ := Aside0.mk (blk_below (g := gb244) (o := .cells #[.int .i64 ((rd_T138 l0 x11_1).f0), .slice A243_1 ((rd_T138 l0 x11_1).f1).length c243_1] 138 (0, 0)) (by (with_reducible repeat (first | refine blk_drewN ?_ _ | refine blk_drew ?_ | refine blk_alloc ?_ _)); exact BK244.out) hb); have n1_ := Aside0.mk (below_step (by repeat (first | (with_reducible first | exact HB.out | apply below_alloc | apply pw_below_drewN | apply below_drew1 | refine below_set ?_ GE244.out) | exact HB.out)) hb); clear BK244; clear HB; have BK244 := n0_; have HB := n1_; clear n0_ n1_; (try clear hb); (try clear hb2); (try clear hk); (try clear hi)))
            go_ret
            exact ⟨by first | rfl | (simp [errW_none, errW_some] <;> rfl) | (simp [*, errW_none, errW_some] <;> rfl), by repeat (first | (with_reducible first | exact HB.out | apply below_alloc | apply pw_below_drewN | apply below_drew1 | refine below_set ?_ GE244.out) | exact HB.out)⟩
      ·
       rw [if_neg c5] at H
       exact absurd H (by simp)
     ·
      rw [if_neg c4] at H
      exact absurd H (by simp)
    ·
     rw [if_neg c3] at H
     have c3b0 : decide (x11_1 < (l0.length : Int)) = false := decide_eq_false c3
     clear c3
     obtain rfl := Option.some.inj H
     go_wp2
     go_ret
     exact ⟨by first | rfl | (simp [errW_none, errW_some] <;> rfl) | (simp [*, errW_none, errW_some] <;> rfl), by repeat (first | (with_reducible first | exact HB.out | apply below_alloc | apply pw_below_drewN | apply below_drew1) | exact HB.out)⟩
theorem headOk_f (e g n t : Int) (xs : List Se) (ns : List No) : impl_headOk.f e g n t xs ns = some (headB e g n t xs.length ns.length) := by
 unfold impl_headOk.f headB
 by_cases c1 : e ≤ 4611686018427387904
 ·
  rw [if_pos c1, decide_eq_true c1]
  by_cases c2 : g ≤ 4611686018427387904
  ·
   rw [if_pos c2, decide_eq_true c2]
   by_cases c3 : n ≤ 4611686018427387904
   ·
    rw [if_pos c3, decide_eq_true c3]
    by_cases c4 : 0 ≤ t
    ·
     rw [if_pos c4, decide_eq_true c4]
     by_cases c5 : t ≤ 1000000
     ·
      rw [if_pos c5, decide_eq_true c5]
      by_cases c6 : xs.length ≤ 50
      ·
       rw [if_pos (by omega), decide_eq_true c6]
       by_cases c7 : ns.length ≤ 200
       ·
        rw [decide_eq_true c7, decide_eq_true (show (ns.length : Int) ≤ 200 by omega)]; rfl
       ·
        rw [decide_eq_false c7, decide_eq_false (show ¬ (ns.length : Int) ≤ 200 by omega)]; rfl
      ·
       rw [if_neg (by omega), decide_eq_false c6]; rfl
     ·
      rw [if_neg c5, decide_eq_false c5]; rfl
    ·
     rw [if_neg c4, decide_eq_false c4]; rfl
   ·
    rw [if_neg c3, decide_eq_false c3]; rfl
  ·
   rw [if_neg c2, decide_eq_false c2]; rfl
 ·
  rw [if_neg c1, decide_eq_false c1]; rfl
theorem wrap_dn' (i : Nat) (h0 : 0 < i) (h : i ≤ 140737488355328) : wrap64 ((i : Int) - 1) = ((i - 1 : Nat) : Int) := by unfold wrap64; omega
theorem asc_loop (l : List Int) (hl : l.length ≤ 2097152) : ∀ (d k i : Nat), 0 < i → (i + d = l.length ∨ (l.length < i ∧ d = 0)) → d < k → impl_ascending.l0 k l (i : Int) = some (allI (fun i x => i == 0 || decide (l.getD (i - 1) 0 < x)) i (l.drop i)) := by
 intro d
 induction d with
 | zero =>
  intro k i h0 hi hk
  obtain ⟨k, rfl⟩ : ∃ m, k = m + 1 := ⟨k - 1, by omega⟩
  rw [impl_ascending.l0, if_neg (by omega), allI_end _ l i (by omega)]
 | succ d ih =>
  intro k i h0 hi hk
  obtain ⟨k, rfl⟩ : ∃ m, k = m + 1 := ⟨k - 1, by omega⟩
  have hlt : i < l.length := by omega
  rw [impl_ascending.l0, if_pos (by omega), wrap_dn' i h0 (by omega), if_pos (by omega), if_pos (by omega), if_pos (by omega), rd_nat, rd_nat, getD_at l i hlt, allI_drop _ l i hlt]
  have e0 : (i == 0) = false := beq_eq_false_iff_ne.2 (by omega)
  simp only [e0, Bool.false_or]
  by_cases c : l.getD (i - 1) 0 ≥ l[i]
  ·
   rw [if_pos c, decide_eq_false (by omega)]; rfl
  ·
   rw [if_neg c, decide_eq_true (by omega), wrap_up i (by omega), ih k (i + 1) (by omega) (by omega) (by omega)]; rfl
theorem asc_f (l : List Int) (hl : l.length ≤ 2097152) : impl_ascending.f 10000000 l = some (ascB l) := by
 unfold impl_ascending.f ascB
 by_cases h0 : l.length = 0
 ·
  have : l = [] := List.length_eq_zero_iff.1 h0
  subst this
  rfl
 ·
  have := asc_loop l hl (l.length - 1) 10000000 1 (by omega) (by omega) (by omega)
  refine Eq.trans this ?_
  have e := allI_drop (fun (i : Nat) (x : Int) => i == 0 || decide (l.getD (i - 1) 0 < x)) l 0 (by omega)
  rw [List.drop_zero] at e
  rw [e]
  rfl
theorem lockI_f (e g n t : Int) (xs : List Se) (ns : List No) (p v : List Int) (o m : Int) (h : List Int) (ep ge : Int) (wa : List Int) : impl_lockOk.f e g n t xs ns p v o m h ep ge wa = some (lockB e g ⟨p, v, o, m, h, ep, ge, wa⟩) := rfl
theorem rd_ev (q : List Ev) (i : Nat) (h : i < q.length) : rd_T138 q (i : Int) = q[i] := by unfold rd_T138; rw [Int.toNat_natCast, List.getD_eq_getElem?_getD, List.getElem?_eq_getElem h]; rfl
theorem queue_loop (q : List Ev) (hl : q.length ≤ 8) (hb : ∀ e ∈ q, ∀ z ∈ e.f1, 0 ≤ z ∧ z < 256) : ∀ (d k i : Nat), i + d = q.length → 2 * d < k → impl_queueOk.l0 k q (q.length : Int) (i : Int) = some (allI evB i (q.drop i)) := by
 intro d
 induction d with
 | zero =>
  intro k i hi hk
  obtain ⟨k, rfl⟩ : ∃ m, k = m + 1 := ⟨k - 1, by omega⟩
  rw [impl_queueOk.l0, if_neg (by omega), allI_end _ q i (by omega)]
 | succ d ih =>
  intro k i hi hk
  obtain ⟨k, rfl⟩ : ∃ m, k = m + 2 := ⟨k - 2, by omega⟩
  have hlt : i < q.length := by omega
  have hv : impl_ValidPath.f q[i].f1 = some (pathB q[i].f1) := by unfold impl_ValidPath.f; rw [if_pos (bytesB_iff.2 (hb _ (List.getElem_mem hlt)))]
  rw [impl_queueOk.l0, if_pos (by omega), if_pos (by omega), if_pos (by omega), rd_ev q i hlt, allI_drop _ q i hlt]
  have hn := ih k (i + 1) (by omega) (by omega)
  rw [show ((i + 1 : Nat) : Int) = wrap64 ((i : Int) + 1) from (wrap_up i (by omega)).symm] at hn
  obtain ⟨x, hx⟩ : ∃ x, q[i] = x := ⟨_, rfl⟩
  rw [hx] at hv ⊢
  obtain ⟨kd, pa⟩ := x
  obtain ⟨b, hbb⟩ : ∃ b, allI evB (i + 1) (q.drop (i + 1)) = b := ⟨_, rfl⟩
  rw [hbb] at hn ⊢
  simp only at hv ⊢
  unfold evB
  simp only
  by_cases h7 : i = 7
  ·
   have e7 : ((i : Int) == 7) = true := beq_iff_eq.2 (by omega)
   rw [e7, if_pos h7]
   by_cases h4 : kd = 4
   ·
    subst h4
    rw [if_neg (by decide), if_neg (by omega), decide_eq_false (by omega), impl_queueOk.j1, if_neg (by simp), if_pos rfl]
    by_cases hp : (pa.length : Int) > 0
    ·
     rw [if_pos hp, show (pa.length == 0) = false from beq_eq_false_iff_ne.2 (by omega)]; rfl
    ·
     rw [if_neg hp, show (pa.length == 0) = true from beq_iff_eq.2 (by omega), hn]; rfl
   ·
    have e4 : (kd == 4) = false := beq_eq_false_iff_ne.2 h4
    rw [e4, if_pos (by decide), impl_queueOk.j1, if_pos rfl]; rfl
  ·
   have e7 : ((i : Int) == 7) = false := beq_eq_false_iff_ne.2 (by omega)
   rw [e7, if_neg h7]
   by_cases h4 : kd = 4
   ·
    subst h4
    rw [if_pos (by decide), impl_queueOk.j1, if_pos rfl]; rfl
   ·
    have e4 : (kd == 4) = false := beq_eq_false_iff_ne.2 h4
    have e5 : (kd != 4) = true := by rw [bne, e4]; rfl
    rw [e4, e5, if_neg (by decide)]
    by_cases h1 : kd < 1
    ·
     rw [if_pos h1, impl_queueOk.j1, if_pos rfl, decide_eq_false (show ¬ 1 ≤ kd by omega)]; rfl
    ·
     rw [if_neg h1, decide_eq_true (show 1 ≤ kd by omega)]
     by_cases h3 : kd ≤ 3
     ·
      rw [decide_eq_false (show ¬ kd > 4 by omega), impl_queueOk.j1, if_neg (by simp), if_neg (by simp), hv, Option.bind_some, decide_eq_true h3]
      cases pathB pa with
      | true => rw [if_pos rfl, hn]; rfl
      | false => rw [if_neg (by simp)]; rfl
     ·
      rw [decide_eq_true (show kd > 4 by omega), impl_queueOk.j1, if_pos rfl, decide_eq_false h3]; rfl
theorem queueI_f (q : List Ev) (hb : ∀ e ∈ q, ∀ z ∈ e.f1, 0 ≤ z ∧ z < 256) : impl_queueOk.f 10000000 q = some (queueB q) := by
 unfold impl_queueOk.f queueB
 by_cases h8 : (q.length : Int) > 8
 ·
  rw [if_pos h8, decide_eq_false (by omega)]; rfl
 ·
  rw [if_neg h8, decide_eq_true (by omega)]
  have := queue_loop q (by omega) hb q.length 10000000 0 (by omega) (by omega)
  rw [List.drop_zero] at this
  exact this
structure IdMap (w : World) (b n : Nat) (xs : List Se) : Prop where
 out : ∃ D : DataW Unit, w.ownsMap Tryd.prog 26 (plainElem Tryd.prog 3) b n D ∧ ∀ id : Int, 0 ≤ id → id < 18446744073709551616 → Maps.has D (.int .u64 id) = liveB xs id
theorem owns_below {H : Type} {P : Program} {k : TypeId} {R : Value → Option (DataW H × List MemPlace)} {w w' : World} {b n : Nat} {D : DataW H} (h : w.ownsMap P k R b n D) {base : Nat} (hb : b < base) (hB : Below base w w') : w'.ownsMap P k R b n D := by
 obtain ⟨es, clock, h1, h2⟩ := h
 exact ⟨es, clock, (hB.block b hb).trans h1, h2⟩
theorem IdMap.below {w w' : World} {b n : Nat} {xs : List Se} (h : IdMap w b n xs) {base : Nat} (hb : b < base) (hB : Below base w w') : IdMap w' b n xs := by
 obtain ⟨D, h1, h2⟩ := h.out
 exact ⟨D, owns_below h1 hb hB, h2⟩
theorem IdMap.lt {w : World} {b n : Nat} {xs : List Se} (h : IdMap w b n xs) : b < w.heap.size := by
 obtain ⟨D, h1, h2⟩ := h.out
 exact h1.lt
theorem zero_int (w : World) : (zeroValue 3).run Tryd.prog w = .ok (.int .i64 0) w := by kernel_rfl
theorem wf_u64 {id : Int} (h0 : 0 ≤ id) (h1 : id < 18446744073709551616) : (Lit.int .u64 id).wf = true := by
  unfold Lit.wf
  rw [Bool.and_eq_true, decide_eq_true_eq, decide_eq_true_eq]
  exact ⟨by have : IntKind.u64.min = 0 := by decide
            rw [this]; exact h0, by have : IntKind.u64.max = 18446744073709551615 := by decide
                                    rw [this]; omega⟩
set_option maxHeartbeats 2000000 in
set_option maxRecDepth 100000 in
theorem strange_calls (g b n : Nat) (xs : List Se) (id : Int) (w : World) (hbox : w.cell? ⟨g, 0, none⟩ = some (.map (some b))) (hm : IdMap w b n xs) (h0 : 0 ≤ id) (h1 : id < 18446744073709551616) :
  Calls Tryd.prog 49 #[.int .u64 id, .pointer (some ⟨g, 0, none⟩)] w fun e w' => e = .returned (.bool (!liveB xs id)) ∧ w' = w := by
 obtain ⟨D, hown, hhas⟩ := hm.out
 have HO := Aside0.mk hown
 have HH := Aside0.mk (hhas id h0 h1)
 have HK := Aside0.mk (Maps.keyOf_int_mk (P := Tryd.prog) (k := 26) Tryd.underlying26 (wf_u64 h0 h1))
 clear hown hhas hm h0 h1
 go_enter Tryd.func49, Tryd.ntmps49
 go_wp2_with (at_lookup; refine wpList_lookup_own_ok_int _ rfl _ _ 67 rfl 26 3 .i64 (Maps.int_keyed Tryd.underlying26) Tryd.underlying67 Tryd.underlying3 (zero_int _) b n D rfl HO.out _ _ rfl HK.out ?_; intro c hat hwc)
 go_ret
 rw [← HH.out]
 exact ⟨rfl, rfl⟩
set_option maxHeartbeats 2000000 in
set_option maxRecDepth 100000 in
theorem indexU_calls (g b n : Nat) (xs : List Se) (A : Option Addr) (c : Nat) (l : List Int) (w : World) (hC : Kd.C (Kd.int .u64) w A l.length l) (hl : l.length ≤ 2097152) (hr : ∀ z ∈ l, 0 ≤ z ∧ z < 18446744073709551616) (hbox : w.cell? ⟨g, 0, none⟩ = some (.map (some b))) (hm : IdMap w b n xs) :
  Calls Tryd.prog 100 #[.slice A l.length c, .func (.func 49) #[] #[.pointer (some ⟨g, 0, none⟩)]] w fun e w' => (∃ k : Int, e = .returned (.int .i64 k) ∧ decide (0 ≤ k) = !(l.all (liveB xs))) ∧ w' = w := by
 have HR := Aside0.mk hC
 have HL := Aside0.mk hl
 have ST := Aside0.mk (fun (id : Int) (h0 : 0 ≤ id) (h1 : id < 18446744073709551616) => strange_calls g b n xs id w hbox hm h0 h1)
 have HRG := Aside0.mk hr
 clear hC hl hr hbox hm
 go_enter Tryd.func100, Tryd.ntmps100
 go_wp2_with fail
 go_loop [8] (fun v8 => ∃ i : Nat, v8 = .int .i64 i ∧ Aside0 (i ≤ l.length) ∧ Aside0 (∀ j (h : j < l.length), j < i → liveB xs l[j] = true)) (fun v8 => l.length - (intOf v8).toNat)
 case atStart => exact ⟨0, rfl, ⟨by omega⟩, ⟨fun j _ h => absurd h (by omega)⟩⟩
 case round =>
  obtain ⟨i, rfl, HI, HV⟩ := hrel
  have hi0 := HI.out
  have hl0 := HL.out
  by_cases hi : i < l.length
  ·
   have c1 : decide ((i : Int) < (l.length : Int)) = true := decide_eq_true (by omega)
   have ci : (0 : Int) ≤ (i : Int) := by omega
   have ci2 : (i : Int) < (l.length : Int) := by omega
   obtain ⟨ad, rfl, hx⟩ := Kd.at_int HR.out (i : Int) (by omega) (by omega)
   rw [Int.toNat_natCast, rd_nat, getD_at l i hi] at hx
   have hrg := HRG.out l[i] (List.getElem_mem hi)
   have CALL := Aside0.mk (ST.out l[i] hrg.1 hrg.2)
   have HN := Aside0.mk (fun (hx : liveB xs l[i] = true) => (show ∀ j (h : j < l.length), j < i + 1 → liveB xs l[j] = true from fun j h hj => by
    by_cases e : j = i
    ·
     subst e; exact hx
    ·
     exact HV.out j h (by omega)))
   have HF := Aside0.mk (fun (hx : liveB xs l[i] = false) => (show l.all (liveB xs) = false from by
    rw [← Bool.not_eq_true, List.all_eq_true]
    intro h
    rw [h _ (List.getElem_mem hi)] at hx
    exact absurd hx (by decide)))
   obtain ⟨x, hxx⟩ : ∃ x, l[i] = x := ⟨_, rfl⟩
   rw [hxx] at hx CALL
   simp only [hxx] at HN HF
   clear hxx hrg
   obtain ⟨bb, hbb⟩ : ∃ bb, liveB xs x = bb := ⟨_, rfl⟩
   rw [hbb] at CALL
   simp only [hbb] at HN HF
   clear hbb
   cases bb with
   | true =>
    have HN2 := Aside0.mk (HN.out rfl)
    clear HN HF HV
    go_wp2_with (go_at_call 49; refine CALL.out.mono ?_; rintro e w' ⟨rfl, hw⟩; obtain rfl : w = w' := hw.symm; clear hw)
    go_round
    case rel => exact ⟨i + 1, by go_num, ⟨by omega⟩, HN2⟩
    case measure => simp [intOf]; omega
   | false =>
    have HF2 := Aside0.mk (HF.out rfl)
    clear HN HF HV
    go_wp2_with (go_at_call 49; refine CALL.out.mono ?_; rintro e w' ⟨rfl, hw⟩; obtain rfl : w = w' := hw.symm; clear hw)
    go_ret
    rw [HF2.out]
    exact ⟨⟨(i : Int), rfl, by simp⟩, rfl⟩
  ·
   have c1 : decide ((i : Int) < (l.length : Int)) = false := decide_eq_false (by omega)
   have HA := Aside0.mk (show l.all (liveB xs) = true from by
    rw [List.all_eq_true]
    intro x hx
    obtain ⟨j, hj, rfl⟩ := List.mem_iff_getElem.1 hx
    exact HV.out j hj (by omega))
   go_wp2_with fail
   go_ret
   rw [HA.out]
   exact ⟨⟨-1, rfl, by simp⟩, rfl⟩
set_option maxHeartbeats 2000000 in
set_option maxRecDepth 100000 in
theorem containsU_calls (g b n : Nat) (xs : List Se) (A : Option Addr) (c : Nat) (l : List Int) (w : World) (hC : Kd.C (Kd.int .u64) w A l.length l) (hl : l.length ≤ 2097152) (hr : ∀ z ∈ l, 0 ≤ z ∧ z < 18446744073709551616) (hbox : w.cell? ⟨g, 0, none⟩ = some (.map (some b))) (hm : IdMap w b n xs) :
  Calls Tryd.prog 52 #[.slice A l.length c, .func (.func 49) #[] #[.pointer (some ⟨g, 0, none⟩)]] w fun e w' => e = .returned (.bool (!(l.all (liveB xs)))) ∧ w' = w := by
 have CALL := Aside0.mk (indexU_calls g b n xs A c l w hC hl hr hbox hm)
 clear hC hl hr hbox hm
 go_enter Tryd.func52, Tryd.ntmps52
 go_wp2_with (go_at_call 100; refine CALL.out.mono ?_; rintro e w' ⟨⟨k, rfl, hk⟩, hw⟩; obtain rfl : w = w' := hw.symm)
 go_ret
 rw [← hk]
 exact ⟨rfl, rfl⟩
end Go.Proofs.YtbgbocdohadhoaaDoor.Print
