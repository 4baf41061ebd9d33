/- Texts of this session, joined by its own program. -/
import Derived.Shelf.GgClosure.Gives
import Derived.Test.YtbgbocdohadhoaaDoorProg
import Derived.Ground.SlbSplitProg
import Derived.Ground.SlgfProg
import Derived.Shelf.SlGeneric
import Derived.Shelf.SlLaysP
import Derived.Shelf.SlLaysH
import Derived.Shelf.SlBridgeP
import Derived.Shelf.Bytes.SlIndexAt
import Derived.Shelf.Bytes.SlCountOne
import Derived.Shelf.Bytes.SlCountWhole
import Derived.Lib.SlSplitV
import Derived.Lib.SlBytesConst
import Derived.Deep.OwnRows
import Derived.Deep.LoopGhost
import Derived.Shelf.SlicesE.IndexFunc
import Derived.Test.YtbgbocdohadhoaaDoorCEX6
namespace Go.Proofs.YtbgbocdohadhoaaDoor.Print
open Go Go.RowKit Go.Proofs.YtbgbocdohadhoaaDoorW.PrintWords Go.Proofs.YtbgbocdohadhoaaDoorW.PrintLast Go.Proofs.YtbgbocdohadhoaaDoorW.PrintMore
set_option linter.unusedVariables false
set_option linter.unusedSimpArgs false
def impl_lockOk.f (a0_0 : Int) (a0_1 : Int) (a0_2 : Int) (a0_3 : Int) (l0_4 : List (S70)) (l0_5 : List (S76)) (l1_0 : List Int) (l1_1 : List Int) (a1_2 : Int) (a1_3 : Int) (l1_4 : List Int) (a1_5 : Int) (a1_6 : Int) (l1_7 : List Int) : Option (Bool) := if a1_3 = 0 then (if (l1_4.length : Int) = 0 then (if a1_5 = 0 then (some (a1_6 == 0)) else (some false)) else (some false)) else (if a1_3 = 1 then (if (l1_4.length : Int) = 1 then (if a1_6 ≥ 1 then (if a1_6 ≤ a0_1 then (some (decide (a1_5 ≤ a0_0))) else (some false)) else (some false)) else (some false)) else (if a1_3 = 2 then (if (l1_4.length : Int) ≥ 1 then (if a1_5 = 0 then (some (a1_6 == 0)) else (some false)) else (some false)) else (some false)))
set_option maxHeartbeats 8000000 in
set_option maxRecDepth 100000 in
theorem impl_lockOk.calls (a0_0 : Int) (a0_1 : Int) (a0_2 : Int) (a0_3 : Int) (A0_4 : Option Addr) (c0_4 : Nat) (l0_4 : List (S70)) (A0_5 : Option Addr) (c0_5 : Nat) (l0_5 : List (S76)) (A1_0 : Option Addr) (c1_0 : Nat) (l1_0 : List Int) (A1_1 : Option Addr) (c1_1 : Nat) (l1_1 : List Int) (a1_2 : Int) (a1_3 : Int) (A1_4 : Option Addr) (c1_4 : Nat) (l1_4 : List Int) (a1_5 : Int) (a1_6 : Int) (A1_7 : Option Addr) (c1_7 : Nat) (l1_7 : List Int) (r : Bool) (w : World) (hr0_4 : Kd.C k70 w A0_4 l0_4.length l0_4) (hc0_4 : l0_4.length ≤ c0_4) (hr0_5 : Kd.C k76 w A0_5 l0_5.length l0_5) (hc0_5 : l0_5.length ≤ c0_5) (hr1_0 : Kd.C (Kd.int .u8) w A1_0 l1_0.length l1_0) (hc1_0 : l1_0.length ≤ c1_0) (hr1_1 : Kd.C (Kd.int .u8) w A1_1 l1_1.length l1_1) (hc1_1 : l1_1.length ≤ c1_1) (hr1_4 : Kd.C (Kd.int .u64) w A1_4 l1_4.length l1_4) (hc1_4 : l1_4.length ≤ c1_4) (hr1_7 : Kd.C (Kd.int .u64) w A1_7 l1_7.length l1_7) (hc1_7 : l1_7.length ≤ c1_7) (h : impl_lockOk.f a0_0 a0_1 a0_2 a0_3 l0_4 l0_5 l1_0 l1_1 a1_2 a1_3 l1_4 a1_5 a1_6 l1_7 = some r) :
  Calls Tryd.prog 53 #[.agg #[.int .u64 a0_0, .int .u64 a0_1, .int .u64 a0_2, .int .i64 a0_3, .slice A0_4 l0_4.length c0_4, .slice A0_5 l0_5.length c0_5], .agg #[.slice A1_0 l1_0.length c1_0, .slice A1_1 l1_1.length c1_1, .int .u64 a1_2, .int .i64 a1_3, .slice A1_4 l1_4.length c1_4, .int .u64 a1_5, .int .u64 a1_6, .slice A1_7 l1_7.length c1_7]] w fun e w' => e = .returned (.bool r) ∧ Below w.heap.size w w' := by
 have hu36 := Tryd.underlying36
 have hu76 := Tryd.underlying76
 have HR0_4 := Aside0.mk hr0_4
 have HC0_4 := Aside0.mk hc0_4
 clear hr0_4 hc0_4
 have HR0_5 := Aside0.mk hr0_5
 have HC0_5 := Aside0.mk hc0_5
 clear hr0_5 hc0_5
 have HR1_0 := Aside0.mk hr1_0
 have HC1_0 := Aside0.mk hc1_0
 clear hr1_0 hc1_0
 have HR1_1 := Aside0.mk hr1_1
 have HC1_1 := Aside0.mk hc1_1
 clear hr1_1 hc1_1
 have HR1_4 := Aside0.mk hr1_4
 have HC1_4 := Aside0.mk hc1_4
 clear hr1_4 hc1_4
 have HR1_7 := Aside0.mk hr1_7
 have HC1_7 := Aside0.mk hc1_7
 clear hr1_7 hc1_7
 have HB := Aside0.mk (Below.refl w.heap.size w)
 have H : (if a1_3 = 0 then (if (l1_4.length : Int) = 0 then (if a1_5 = 0 then (some (a1_6 == 0)) else (some false)) else (some false)) else (if a1_3 = 1 then (if (l1_4.length : Int) = 1 then (if a1_6 ≥ 1 then (if a1_6 ≤ a0_1 then (some (decide (a1_5 ≤ a0_0))) else (some false)) else (some false)) else (some false)) else (if a1_3 = 2 then (if (l1_4.length : Int) ≥ 1 then (if a1_5 = 0 then (some (a1_6 == 0)) else (some false)) else (some false)) else (some false)))) = some r := h
 clear h
 by_cases c3 : a1_3 = 0
 ·
  rw [if_pos c3] at H
  have c3b0 : (a1_3 == 0) = true := beq_iff_eq.mpr c3
  have c3b1 : (a1_3 != 0) = false := bne_eq_false_iff_eq.mpr c3
  clear c3
  by_cases c4 : (l1_4.length : Int) = 0
  ·
   rw [if_pos c4] at H
   have c4b0 : ((l1_4.length : Int) == 0) = true := beq_iff_eq.mpr c4
   have c4b1 : ((l1_4.length : Int) != 0) = false := bne_eq_false_iff_eq.mpr c4
   clear c4
   by_cases c5 : a1_5 = 0
   ·
    rw [if_pos c5] at H
    have c5b0 : (a1_5 == 0) = true := beq_iff_eq.mpr c5
    have c5b1 : (a1_5 != 0) = false := bne_eq_false_iff_eq.mpr c5
    clear c5
    obtain rfl := Option.some.inj H
    go_enter Tryd.func53, Tryd.ntmps53
    go_wp2_with (first | ((with_reducible refine gate_dst (N := 2) rfl ?_); refine box_event ?hg (N := 2) ?hd (cs := #[.int .u64 a0_0, .int .u64 a0_1, .int .u64 a0_2, .int .i64 a0_3, .slice A0_4 l0_4.length c0_4, .slice A0_5 l0_5.length c0_5]) (t := 36) ?hr ?_; (case hd => rfl); (case hg => rfl); (case hr => first | (go_simp; done) | (go_simp; rfl)); intro gb248 hg w6 hbox hb; have n0_ := Aside0.mk (below_step (by repeat (first | (with_reducible first | exact HB.out | apply below_alloc | apply pw_below_drewN | apply below_drew1) | exact HB.out)) hb); have n1_ := Aside0.mk (hbox); have n2_ := Aside0.mk ((by rw [hg]; exact (below_size (by repeat (first | (with_reducible first | exact HB.out | apply below_alloc | apply pw_below_drewN | apply below_drew1) | exact HB.out))) : w.heap.size ≤ gb248)); have n3_ := Aside0.mk ((by rw [hg]; exact (below_size (by repeat (first | (with_reducible first | exact HB.out | apply below_alloc | apply pw_below_drewN | apply below_drew1) | exact HB.out))) : w.heap.size ≤ gb248)); clear HB; have HB := n0_; have BK248 := n1_; have GW248 := n2_; have GE248 := n3_; clear n0_ n1_ n2_ n3_; clear hb hbox hg) | ((with_reducible refine gate_dst (N := 3) rfl ?_); refine box_event ?hg (N := 3) ?hd (cs := #[.slice A1_0 l1_0.length c1_0, .slice A1_1 l1_1.length c1_1, .int .u64 a1_2, .int .i64 a1_3, .slice A1_4 l1_4.length c1_4, .int .u64 a1_5, .int .u64 a1_6, .slice A1_7 l1_7.length c1_7]) (t := 76) ?hr ?_; (case hd => rfl); (case hg => rfl); (case hr => first | (go_simp; done) | (go_simp; rfl)); intro gb249 hg w7 hbox hb; have n0_ := Aside0.mk (blk_below (g := gb248) (o := .cells #[.int .u64 a0_0, .int .u64 a0_1, .int .u64 a0_2, .int .i64 a0_3, .slice A0_4 l0_4.length c0_4, .slice A0_5 l0_5.length c0_5] 36 (0, 0)) (by (with_reducible repeat (first | refine blk_drewN ?_ _ | refine blk_drew ?_ | refine blk_alloc ?_ _)); exact BK248.out) hb); have n1_ := Aside0.mk (below_step (by repeat (first | (with_reducible first | exact HB.out | apply below_alloc | apply pw_below_drewN | apply below_drew1 | refine below_set ?_ GE248.out) | exact HB.out)) hb); have n2_ := Aside0.mk (hbox); have n3_ := Aside0.mk ((by rw [hg]; exact (below_size (by repeat (first | (with_reducible first | exact HB.out | apply below_alloc | apply pw_below_drewN | apply below_drew1 | refine below_set ?_ GE248.out) | exact HB.out))) : w.heap.size ≤ gb249)); have n4_ := Aside0.mk ((by rw [hg]; exact (below_size (by repeat (first | (with_reducible first | exact HB.out | apply below_alloc | apply pw_below_drewN | apply below_drew1 | refine below_set ?_ GE248.out) | exact HB.out))) : w.heap.size ≤ gb249)); have n5_ := Aside0.mk ((by rw [hg]; exact Nat.ne_of_lt (blk_lt (g := gb248) (o := .cells #[.int .u64 a0_0, .int .u64 a0_1, .int .u64 a0_2, .int .i64 a0_3, .slice A0_4 l0_4.length c0_4, .slice A0_5 l0_5.length c0_5] 36 (0, 0)) (by (with_reducible repeat (first | refine blk_drewN ?_ _ | refine blk_drew ?_ | refine blk_alloc ?_ _)); exact BK248.out)) : gb248 ≠ gb249)); have n6_ := Aside0.mk ((by rw [hg]; exact Nat.ne_of_gt (blk_lt (g := gb248) (o := .cells #[.int .u64 a0_0, .int .u64 a0_1, .int .u64 a0_2, .int .i64 a0_3, .slice A0_4 l0_4.length c0_4, .slice A0_5 l0_5.length c0_5] 36 (0, 0)) (by (with_reducible repeat (first | refine blk_drewN ?_ _ | refine blk_drew ?_ | refine blk_alloc ?_ _)); exact BK248.out)) : gb249 ≠ gb248)); clear BK248; clear HB; have BK248 := n0_; have HB := n1_; have BK249 := n2_; have GW249 := n3_; have GE249 := n4_; have NB248_249 := n5_; have NB249_248 := n6_; clear n0_ n1_ n2_ n3_ n4_ n5_ n6_; clear hb hbox hg; have hnb8 := NB249_248.out; have hnc8 := NB248_249.out; have hcz9_0 : w7.cell? ⟨gb249, 0, none⟩ = some (.slice A1_0 l1_0.length c1_0) := (blk_cell BK249.out 0).trans rfl; have hcz9_1 : w7.cell? ⟨gb249, 1, none⟩ = some (.slice A1_1 l1_1.length c1_1) := (blk_cell BK249.out 1).trans rfl; have hcz9_2 : w7.cell? ⟨gb249, 2, none⟩ = some (.int .u64 a1_2) := (blk_cell BK249.out 2).trans rfl; have hcz9_3 : w7.cell? ⟨gb249, 3, none⟩ = some (.int .i64 a1_3) := (blk_cell BK249.out 3).trans rfl; have hcz9_4 : w7.cell? ⟨gb249, 4, none⟩ = some (.slice A1_4 l1_4.length c1_4) := (blk_cell BK249.out 4).trans rfl; have hcz9_5 : w7.cell? ⟨gb249, 5, none⟩ = some (.int .u64 a1_5) := (blk_cell BK249.out 5).trans rfl; have hcz9_6 : w7.cell? ⟨gb249, 6, none⟩ = some (.int .u64 a1_6) := (blk_cell BK249.out 6).trans rfl; have hcz9_7 : w7.cell? ⟨gb249, 7, none⟩ = some (.slice A1_7 l1_7.length c1_7) := (blk_cell BK249.out 7).trans rfl; have hfz9_0 := blk_frozen BK249.out 0; have hfz9_1 := blk_frozen BK249.out 1; have hfz9_2 := blk_frozen BK249.out 2; have hfz9_3 := blk_frozen BK249.out 3; have hfz9_4 := blk_frozen BK249.out 4; have hfz9_5 := blk_frozen BK249.out 5; have hfz9_6 := blk_frozen BK249.out 6; have hfz9_7 := blk_frozen BK249.out 7))
    go_ret
    exact ⟨by first | rfl | (simp [errW_none, errW_some] <;> rfl) | (simp [*, errW_none, errW_some] <;> rfl), by repeat (first | (with_reducible first | exact HB.out | apply below_alloc | apply pw_below_drewN | apply below_drew1 | refine below_set ?_ GE248.out | refine below_set ?_ GE249.out) | exact HB.out)⟩
   ·
    rw [if_neg c5] at H
    have c5b0 : (a1_5 == 0) = false := beq_eq_false_iff_ne.mpr c5
    have c5b1 : (a1_5 != 0) = true := bne_iff_ne.mpr c5
    obtain rfl := Option.some.inj H
    go_enter Tryd.func53, Tryd.ntmps53
    go_wp2_with (first | ((with_reducible refine gate_dst (N := 2) rfl ?_); refine box_event ?hg (N := 2) ?hd (cs := #[.int .u64 a0_0, .int .u64 a0_1, .int .u64 a0_2, .int .i64 a0_3, .slice A0_4 l0_4.length c0_4, .slice A0_5 l0_5.length c0_5]) (t := 36) ?hr ?_; (case hd => rfl); (case hg => rfl); (case hr => first | (go_simp; done) | (go_simp; rfl)); intro gb248 hg w10 hbox hb; have n0_ := Aside0.mk (below_step (by repeat (first | (with_reducible first | exact HB.out | apply below_alloc | apply pw_below_drewN | apply below_drew1) | exact HB.out)) hb); have n1_ := Aside0.mk (hbox); have n2_ := Aside0.mk ((by rw [hg]; exact (below_size (by repeat (first | (with_reducible first | exact HB.out | apply below_alloc | apply pw_below_drewN | apply below_drew1) | exact HB.out))) : w.heap.size ≤ gb248)); have n3_ := Aside0.mk ((by rw [hg]; exact (below_size (by repeat (first | (with_reducible first | exact HB.out | apply below_alloc | apply pw_below_drewN | apply below_drew1) | exact HB.out))) : w.heap.size ≤ gb248)); clear HB; have HB := n0_; have BK248 := n1_; have GW248 := n2_; have GE248 := n3_; clear n0_ n1_ n2_ n3_; clear hb hbox hg) | ((with_reducible refine gate_dst (N := 3) rfl ?_); refine box_event ?hg (N := 3) ?hd (cs := #[.slice A1_0 l1_0.length c1_0, .slice A1_1 l1_1.length c1_1, .int .u64 a1_2, .int .i64 a1_3, .slice A1_4 l1_4.length c1_4, .int .u64 a1_5, .int .u64 a1_6, .slice A1_7 l1_7.length c1_7]) (t := 76) ?hr ?_; (case hd => rfl); (case hg => rfl); (case hr => first | (go_simp; done) | (go_simp; rfl)); intro gb249 hg w11 hbox hb; have n0_ := Aside0.mk (blk_below (g := gb248) (o := .cells #[.int .u64 a0_0, .int .u64 a0_1, .int .u64 a0_2, .int .i64 a0_3, .slice A0_4 l0_4.length c0_4, .slice A0_5 l0_5.length c0_5] 36 (0, 0)) (by (with_reducible repeat (first | refine blk_drewN ?_ _ | refine blk_drew ?_ | refine blk_alloc ?_ _)); exact BK248.out) hb); have n1_ := Aside0.mk (below_step (by repeat (first | (with_reducible first | exact HB.out | apply below_alloc | apply pw_below_drewN | apply below_drew1 | refine below_set ?_ GE248.out) | exact HB.out)) hb); have n2_ := Aside0.mk (hbox); have n3_ := Aside0.mk ((by rw [hg]; exact (below_size (by repeat (first | (with_reducible first | exact HB.out | apply below_alloc | apply pw_below_drewN | apply below_drew1 | refine below_set ?_ GE248.out) | exact HB.out))) : w.heap.size ≤ gb249)); have n4_ := Aside0.mk ((by rw [hg]; exact (below_size (by repeat (first | (with_reducible first | exact HB.out | apply below_alloc | apply pw_below_drewN | apply below_drew1 | refine below_set ?_ GE248.out) | exact HB.out))) : w.heap.size ≤ gb249)); have n5_ := Aside0.mk ((by rw [hg]; exact Nat.ne_of_lt (blk_lt (g := gb248) (o := .cells #[.int .u64 a0_0, .int .u64 a0_1, .int .u64 a0_2, .int .i64 a0_3, .slice A0_4 l0_4.length c0_4, .slice A0_5 l0_5.length c0_5] 36 (0, 0)) (by (with_reducible repeat (first | refine blk_drewN ?_ _ | refine blk_drew ?_ | refine blk_alloc ?_ _)); exact BK248.out)) : gb248 ≠ gb249)); have n6_ := Aside0.mk ((by rw [hg]; exact Nat.ne_of_gt (blk_lt (g := gb248) (o := .cells #[.int .u64 a0_0, .int .u64 a0_1, .int .u64 a0_2, .int .i64 a0_3, .slice A0_4 l0_4.length c0_4, .slice A0_5 l0_5.length c0_5] 36 (0, 0)) (by (with_reducible repeat (first | refine blk_drewN ?_ _ | refine blk_drew ?_ | refine blk_alloc ?_ _)); exact BK248.out)) : gb249 ≠ gb248)); clear BK248; clear HB; have BK248 := n0_; have HB := n1_; have BK249 := n2_; have GW249 := n3_; have GE249 := n4_; have NB248_249 := n5_; have NB249_248 := n6_; clear n0_ n1_ n2_ n3_ n4_ n5_ n6_; clear hb hbox hg; have hnb12 := NB249_248.out; have hnc12 := NB248_249.out; have hcz13_0 : w11.cell? ⟨gb249, 0, none⟩ = some (.slice A1_0 l1_0.length c1_0) := (blk_cell BK249.out 0).trans rfl; have hcz13_1 : w11.cell? ⟨gb249, 1, none⟩ = some (.slice A1_1 l1_1.length c1_1) := (blk_cell BK249.out 1).trans rfl; have hcz13_2 : w11.cell? ⟨gb249, 2, none⟩ = some (.int .u64 a1_2) := (blk_cell BK249.out 2).trans rfl; have hcz13_3 : w11.cell? ⟨gb249, 3, none⟩ = some (.int .i64 a1_3) := (blk_cell BK249.out 3).trans rfl; have hcz13_4 : w11.cell? ⟨gb249, 4, none⟩ = some (.slice A1_4 l1_4.length c1_4) := (blk_cell BK249.out 4).trans rfl; have hcz13_5 : w11.cell? ⟨gb249, 5, none⟩ = some (.int .u64 a1_5) := (blk_cell BK249.out 5).trans rfl; have hcz13_6 : w11.cell? ⟨gb249, 6, none⟩ = some (.int .u64 a1_6) := (blk_cell BK249.out 6).trans rfl; have hcz13_7 : w11.cell? ⟨gb249, 7, none⟩ = some (.slice A1_7 l1_7.length c1_7) := (blk_cell BK249.out 7).trans rfl; have hfz13_0 := blk_frozen BK249.out 0; have hfz13_1 := blk_frozen BK249.out 1; have hfz13_2 := blk_frozen BK249.out 2; have hfz13_3 := blk_frozen BK249.out 3; have hfz13_4 := blk_frozen BK249.out 4; have hfz13_5 := blk_frozen BK249.out 5; have hfz13_6 := blk_frozen BK249.out 6; have hfz13_7 := blk_frozen BK249.out 7))
    go_ret
    exact ⟨by first | rfl | (simp [errW_none, errW_some] <;> rfl) | (simp [*, errW_none, errW_some] <;> rfl), by repeat (first | (with_reducible first | exact HB.out | apply below_alloc | apply pw_below_drewN | apply below_drew1 | refine below_set ?_ GE248.out | refine below_set ?_ GE249.out) | exact HB.out)⟩
  ·
   rw [if_neg c4] at H
   have c4b0 : ((l1_4.length : Int) == 0) = false := beq_eq_false_iff_ne.mpr c4
   have c4b1 : ((l1_4.length : Int) != 0) = true := bne_iff_ne.mpr c4
   have c4b2 : ¬ (l1_4 = []) := fun h_ => c4 (by rw [h_]; rfl)
   obtain rfl := Option.some.inj H
   go_enter Tryd.func53, Tryd.ntmps53
   go_wp2_with (first | ((with_reducible refine gate_dst (N := 2) rfl ?_); refine box_event ?hg (N := 2) ?hd (cs := #[.int .u64 a0_0, .int .u64 a0_1, .int .u64 a0_2, .int .i64 a0_3, .slice A0_4 l0_4.length c0_4, .slice A0_5 l0_5.length c0_5]) (t := 36) ?hr ?_; (case hd => rfl); (case hg => rfl); (case hr => first | (go_simp; done) | (go_simp; rfl)); intro gb248 hg w14 hbox hb; have n0_ := Aside0.mk (below_step (by repeat (first | (with_reducible first | exact HB.out | apply below_alloc | apply pw_below_drewN | apply below_drew1) | exact HB.out)) hb); have n1_ := Aside0.mk (hbox); have n2_ := Aside0.mk ((by rw [hg]; exact (below_size (by repeat (first | (with_reducible first | exact HB.out | apply below_alloc | apply pw_below_drewN | apply below_drew1) | exact HB.out))) : w.heap.size ≤ gb248)); have n3_ := Aside0.mk ((by rw [hg]; exact (below_size (by repeat (first | (with_reducible first | exact HB.out | apply below_alloc | apply pw_below_drewN | apply below_drew1) | exact HB.out))) : w.heap.size ≤ gb248)); clear HB; have HB := n0_; have BK248 := n1_; have GW248 := n2_; have GE248 := n3_; clear n0_ n1_ n2_ n3_; clear hb hbox hg) | ((with_reducible refine gate_dst (N := 3) rfl ?_); refine box_event ?hg (N := 3) ?hd (cs := #[.slice A1_0 l1_0.length c1_0, .slice A1_1 l1_1.length c1_1, .int .u64 a1_2, .int .i64 a1_3, .slice A1_4 l1_4.length c1_4, .int .u64 a1_5, .int .u64 a1_6, .slice A1_7 l1_7.length c1_7]) (t := 76) ?hr ?_; (case hd => rfl); (case hg => rfl); (case hr => first | (go_simp; done) | (go_simp; rfl)); intro gb249 hg w15 hbox hb; have n0_ := Aside0.mk (blk_below (g := gb248) (o := .cells #[.int .u64 a0_0, .int .u64 a0_1, .int .u64 a0_2, .int .i64 a0_3, .slice A0_4 l0_4.length c0_4, .slice A0_5 l0_5.length c0_5] 36 (0, 0)) (by (with_reducible repeat (first | refine blk_drewN ?_ _ | refine blk_drew ?_ | refine blk_alloc ?_ _)); exact BK248.out) hb); have n1_ := Aside0.mk (below_step (by repeat (first | (with_reducible first | exact HB.out | apply below_alloc | apply pw_below_drewN | apply below_drew1 | refine below_set ?_ GE248.out) | exact HB.out)) hb); have n2_ := Aside0.mk (hbox); have n3_ := Aside0.mk ((by rw [hg]; exact (below_size (by repeat (first | (with_reducible first | exact HB.out | apply below_alloc | apply pw_below_drewN | apply below_drew1 | refine below_set ?_ GE248.out) | exact HB.out))) : w.heap.size ≤ gb249)); have n4_ := Aside0.mk ((by rw [hg]; exact (below_size (by repeat (first | (with_reducible first | exact HB.out | apply below_alloc | apply pw_below_drewN | apply below_drew1 | refine below_set ?_ GE248.out) | exact HB.out))) : w.heap.size ≤ gb249)); have n5_ := Aside0.mk ((by rw [hg]; exact Nat.ne_of_lt (blk_lt (g := gb248) (o := .cells #[.int .u64 a0_0, .int .u64 a0_1, .int .u64 a0_2, .int .i64 a0_3, .slice A0_4 l0_4.length c0_4, .slice A0_5 l0_5.length c0_5] 36 (0, 0)) (by (with_reducible repeat (first | refine blk_drewN ?_ _ | refine blk_drew ?_ | refine blk_alloc ?_ _)); exact BK248.out)) : gb248 ≠ gb249)); have n6_ := Aside0.mk ((by rw [hg]; exact Nat.ne_of_gt (blk_lt (g := gb248) (o := .cells #[.int .u64 a0_0, .int .u64 a0_1, .int .u64 a0_2, .int .i64 a0_3, .slice A0_4 l0_4.length c0_4, .slice A0_5 l0_5.length c0_5] 36 (0, 0)) (by (with_reducible repeat (first | refine blk_drewN ?_ _ | refine blk_drew ?_ | refine blk_alloc ?_ _)); exact BK248.out)) : gb249 ≠ gb248)); clear BK248; clear HB; have BK248 := n0_; have HB := n1_; have BK249 := n2_; have GW249 := n3_; have GE249 := n4_; have NB248_249 := n5_; have NB249_248 := n6_; clear n0_ n1_ n2_ n3_ n4_ n5_ n6_; clear hb hbox hg; have hnb16 := NB249_248.out; have hnc16 := NB248_249.out; have hcz17_0 : w15.cell? ⟨gb249, 0, none⟩ = some (.slice A1_0 l1_0.length c1_0) := (blk_cell BK249.out 0).trans rfl; have hcz17_1 : w15.cell? ⟨gb249, 1, none⟩ = some (.slice A1_1 l1_1.length c1_1) := (blk_cell BK249.out 1).trans rfl; have hcz17_2 : w15.cell? ⟨gb249, 2, none⟩ = some (.int .u64 a1_2) := (blk_cell BK249.out 2).trans rfl; have hcz17_3 : w15.cell? ⟨gb249, 3, none⟩ = some (.int .i64 a1_3) := (blk_cell BK249.out 3).trans rfl; have hcz17_4 : w15.cell? ⟨gb249, 4, none⟩ = some (.slice A1_4 l1_4.length c1_4) := (blk_cell BK249.out 4).trans rfl; have hcz17_5 : w15.cell? ⟨gb249, 5, none⟩ = some (.int .u64 a1_5) := (blk_cell BK249.out 5).trans rfl; have hcz17_6 : w15.cell? ⟨gb249, 6, none⟩ = some (.int .u64 a1_6) := (blk_cell BK249.out 6).trans rfl; have hcz17_7 : w15.cell? ⟨gb249, 7, none⟩ = some (.slice A1_7 l1_7.length c1_7) := (blk_cell BK249.out 7).trans rfl; have hfz17_0 := blk_frozen BK249.out 0; have hfz17_1 := blk_frozen BK249.out 1; have hfz17_2 := blk_frozen BK249.out 2; have hfz17_3 := blk_frozen BK249.out 3; have hfz17_4 := blk_frozen BK249.out 4; have hfz17_5 := blk_frozen BK249.out 5; have hfz17_6 := blk_frozen BK249.out 6; have hfz17_7 := blk_frozen BK249.out 7))
   go_ret
   exact ⟨by first | rfl | (simp [errW_none, errW_some] <;> rfl) | (simp [*, errW_none, errW_some] <;> rfl), by repeat (first | (with_reducible first | exact HB.out | apply below_alloc | apply pw_below_drewN | apply below_drew1 | refine below_set ?_ GE248.out | refine below_set ?_ GE249.out) | exact HB.out)⟩
 ·
  rw [if_neg c3] at H
  have c3b0 : (a1_3 == 0) = false := beq_eq_false_iff_ne.mpr c3
  have c3b1 : (a1_3 != 0) = true := bne_iff_ne.mpr c3
  by_cases c18 : a1_3 = 1
  ·
   rw [if_pos c18] at H
   have c18b0 : (a1_3 == 1) = true := beq_iff_eq.mpr c18
   have c18b1 : (a1_3 != 1) = false := bne_eq_false_iff_eq.mpr c18
   clear c18
   by_cases c19 : (l1_4.length : Int) = 1
   ·
    rw [if_pos c19] at H
    have c19b0 : ((l1_4.length : Int) == 1) = true := beq_iff_eq.mpr c19
    have c19b1 : ((l1_4.length : Int) != 1) = false := bne_eq_false_iff_eq.mpr c19
    clear c19
    by_cases c20 : a1_6 ≥ 1
    ·
     rw [if_pos c20] at H
     have c20b0 : decide (1 ≤ a1_6) = true := decide_eq_true c20
     clear c20
     by_cases c21 : a1_6 ≤ a0_1
     ·
      rw [if_pos c21] at H
      have c21b0 : decide (a1_6 ≤ a0_1) = true := decide_eq_true c21
      clear c21
      obtain rfl := Option.some.inj H
      go_enter Tryd.func53, Tryd.ntmps53
      go_wp2_with (first | ((with_reducible refine gate_dst (N := 2) rfl ?_); refine box_event ?hg (N := 2) ?hd (cs := #[.int .u64 a0_0, .int .u64 a0_1, .int .u64 a0_2, .int .i64 a0_3, .slice A0_4 l0_4.length c0_4, .slice A0_5 l0_5.length c0_5]) (t := 36) ?hr ?_; (case hd => rfl); (case hg => rfl); (case hr => first | (go_simp; done) | (go_simp; rfl)); intro gb248 hg w22 hbox hb; have n0_ := Aside0.mk (below_step (by repeat (first | (with_reducible first | exact HB.out | apply below_alloc | apply pw_below_drewN | apply below_drew1) | exact HB.out)) hb); have n1_ := Aside0.mk (hbox); have n2_ := Aside0.mk ((by rw [hg]; exact (below_size (by repeat (first | (with_reducible first | exact HB.out | apply below_alloc | apply pw_below_drewN | apply below_drew1) | exact HB.out))) : w.heap.size ≤ gb248)); have n3_ := Aside0.mk ((by rw [hg]; exact (below_size (by repeat (first | (with_reducible first | exact HB.out | apply below_alloc | apply pw_below_drewN | apply below_drew1) | exact HB.out))) : w.heap.size ≤ gb248)); clear HB; have HB := n0_; have BK248 := n1_; have GW248 := n2_; have GE248 := n3_; clear n0_ n1_ n2_ n3_; clear hb hbox hg) | ((with_reducible refine gate_dst (N := 3) rfl ?_); refine box_event ?hg (N := 3) ?hd (cs := #[.slice A1_0 l1_0.length c1_0, .slice A1_1 l1_1.length c1_1, .int .u64 a1_2, .int .i64 a1_3, .slice A1_4 l1_4.length c1_4, .int .u64 a1_5, .int .u64 a1_6, .slice A1_7 l1_7.length c1_7]) (t := 76) ?hr ?_; (case hd => rfl); (case hg => rfl); (case hr => first | (go_simp; done) | (go_simp; rfl)); intro gb249 hg w23 hbox hb; have n0_ := Aside0.mk (blk_below (g := gb248) (o := .cells #[.int .u64 a0_0, .int .u64 a0_1, .int .u64 a0_2, .int .i64 a0_3, .slice A0_4 l0_4.length c0_4, .slice A0_5 l0_5.length c0_5] 36 (0, 0)) (by (with_reducible repeat (first | refine blk_drewN ?_ _ | refine blk_drew ?_ | refine blk_alloc ?_ _)); exact BK248.out) hb); have n1_ := Aside0.mk (below_step (by repeat (first | (with_reducible first | exact HB.out | apply below_alloc | apply pw_below_drewN | apply below_drew1 | refine below_set ?_ GE248.out) | exact HB.out)) hb); have n2_ := Aside0.mk (hbox); have n3_ := Aside0.mk ((by rw [hg]; exact (below_size (by repeat (first | (with_reducible first | exact HB.out | apply below_alloc | apply pw_below_drewN | apply below_drew1 | refine below_set ?_ GE248.out) | exact HB.out))) : w.heap.size ≤ gb249)); have n4_ := Aside0.mk ((by rw [hg]; exact (below_size (by repeat (first | (with_reducible first | exact HB.out | apply below_alloc | apply pw_below_drewN | apply below_drew1 | refine below_set ?_ GE248.out) | exact HB.out))) : w.heap.size ≤ gb249)); have n5_ := Aside0.mk ((by rw [hg]; exact Nat.ne_of_lt (blk_lt (g := gb248) (o := .cells #[.int .u64 a0_0, .int .u64 a0_1, .int .u64 a0_2, .int .i64 a0_3, .slice A0_4 l0_4.length c0_4, .slice A0_5 l0_5.length c0_5] 36 (0, 0)) (by (with_reducible repeat (first | refine blk_drewN ?_ _ | refine blk_drew ?_ | refine blk_alloc ?_ _)); exact BK248.out)) : gb248 ≠ gb249)); have n6_ := Aside0.mk ((by rw [hg]; exact Nat.ne_of_gt (blk_lt (g := gb248) (o := .cells #[.int .u64 a0_0, .int .u64 a0_1, .int .u64 a0_2, .int .i64 a0_3, .slice A0_4 l0_4.length c0_4, .slice A0_5 l0_5.length c0_5] 36 (0, 0)) (by (with_reducible repeat (first | refine blk_drewN ?_ _ | refine blk_drew ?_ | refine blk_alloc ?_ _)); exact BK248.out)) : gb249 ≠ gb248)); clear BK248; clear HB; have BK248 := n0_; have HB := n1_; have BK249 := n2_; have GW249 := n3_; have GE249 := n4_; have NB248_249 := n5_; have NB249_248 := n6_; clear n0_ n1_ n2_ n3_ n4_ n5_ n6_; clear hb hbox hg; have hnb24 := NB249_248.out; have hnc24 := NB248_249.out; have hcz25_0 : w23.cell? ⟨gb249, 0, none⟩ = some (.slice A1_0 l1_0.length c1_0) := (blk_cell BK249.out 0).trans rfl; have hcz25_1 : w23.cell? ⟨gb249, 1, none⟩ = some (.slice A1_1 l1_1.length c1_1) := (blk_cell BK249.out 1).trans rfl; have hcz25_2 : w23.cell? ⟨gb249, 2, none⟩ = some (.int .u64 a1_2) := (blk_cell BK249.out 2).trans rfl; have hcz25_3 : w23.cell? ⟨gb249, 3, none⟩ = some (.int .i64 a1_3) := (blk_cell BK249.out 3).trans rfl; have hcz25_4 : w23.cell? ⟨gb249, 4, none⟩ = some (.slice A1_4 l1_4.length c1_4) := (blk_cell BK249.out 4).trans rfl; have hcz25_5 : w23.cell? ⟨gb249, 5, none⟩ = some (.int .u64 a1_5) := (blk_cell BK249.out 5).trans rfl; have hcz25_6 : w23.cell? ⟨gb249, 6, none⟩ = some (.int .u64 a1_6) := (blk_cell BK249.out 6).trans rfl; have hcz25_7 : w23.cell? ⟨gb249, 7, none⟩ = some (.slice A1_7 l1_7.length c1_7) := (blk_cell BK249.out 7).trans rfl; have hfz25_0 := blk_frozen BK249.out 0; have hfz25_1 := blk_frozen BK249.out 1; have hfz25_2 := blk_frozen BK249.out 2; have hfz25_3 := blk_frozen BK249.out 3; have hfz25_4 := blk_frozen BK249.out 4; have hfz25_5 := blk_frozen BK249.out 5; have hfz25_6 := blk_frozen BK249.out 6; have hfz25_7 := blk_frozen BK249.out 7; have hcz26_0 : w23.cell? ⟨gb248, 0, none⟩ = some (.int .u64 a0_0) := (blk_cell BK248.out 0).trans rfl; have hcz26_1 : w23.cell? ⟨gb248, 1, none⟩ = some (.int .u64 a0_1) := (blk_cell BK248.out 1).trans rfl; have hcz26_2 : w23.cell? ⟨gb248, 2, none⟩ = some (.int .u64 a0_2) := (blk_cell BK248.out 2).trans rfl; have hcz26_3 : w23.cell? ⟨gb248, 3, none⟩ = some (.int .i64 a0_3) := (blk_cell BK248.out 3).trans rfl; have hcz26_4 : w23.cell? ⟨gb248, 4, none⟩ = some (.slice A0_4 l0_4.length c0_4) := (blk_cell BK248.out 4).trans rfl; have hcz26_5 : w23.cell? ⟨gb248, 5, none⟩ = some (.slice A0_5 l0_5.length c0_5) := (blk_cell BK248.out 5).trans rfl; have hfz26_0 := blk_frozen BK248.out 0; have hfz26_1 := blk_frozen BK248.out 1; have hfz26_2 := blk_frozen BK248.out 2; have hfz26_3 := blk_frozen BK248.out 3; have hfz26_4 := blk_frozen BK248.out 4; have hfz26_5 := blk_frozen BK248.out 5))
      go_ret
      exact ⟨by first | rfl | (simp [errW_none, errW_some] <;> rfl) | (simp [*, errW_none, errW_some] <;> rfl), by repeat (first | (with_reducible first | exact HB.out | apply below_alloc | apply pw_below_drewN | apply below_drew1 | refine below_set ?_ GE248.out | refine below_set ?_ GE249.out) | exact HB.out)⟩
     ·
      rw [if_neg c21] at H
      have c21b0 : decide (a1_6 ≤ a0_1) = false := decide_eq_false c21
      clear c21
      obtain rfl := Option.some.inj H
      go_enter Tryd.func53, Tryd.ntmps53
      go_wp2_with (first | ((with_reducible refine gate_dst (N := 2) rfl ?_); refine box_event ?hg (N := 2) ?hd (cs := #[.int .u64 a0_0, .int .u64 a0_1, .int .u64 a0_2, .int .i64 a0_3, .slice A0_4 l0_4.length c0_4, .slice A0_5 l0_5.length c0_5]) (t := 36) ?hr ?_; (case hd => rfl); (case hg => rfl); (case hr => first | (go_simp; done) | (go_simp; rfl)); intro gb248 hg w27 hbox hb; have n0_ := Aside0.mk (below_step (by repeat (first | (with_reducible first | exact HB.out | apply below_alloc | apply pw_below_drewN | apply below_drew1) | exact HB.out)) hb); have n1_ := Aside0.mk (hbox); have n2_ := Aside0.mk ((by rw [hg]; exact (below_size (by repeat (first | (with_reducible first | exact HB.out | apply below_alloc | apply pw_below_drewN | apply below_drew1) | exact HB.out))) : w.heap.size ≤ gb248)); have n3_ := Aside0.mk ((by rw [hg]; exact (below_size (by repeat (first | (with_reducible first | exact HB.out | apply below_alloc | apply pw_below_drewN | apply below_drew1) | exact HB.out))) : w.heap.size ≤ gb248)); clear HB; have HB := n0_; have BK248 := n1_; have GW248 := n2_; have GE248 := n3_; clear n0_ n1_ n2_ n3_; clear hb hbox hg) | ((with_reducible refine gate_dst (N := 3) rfl ?_); refine box_event ?hg (N := 3) ?hd (cs := #[.slice A1_0 l1_0.length c1_0, .slice A1_1 l1_1.length c1_1, .int .u64 a1_2, .int .i64 a1_3, .slice A1_4 l1_4.length c1_4, .int .u64 a1_5, .int .u64 a1_6, .slice A1_7 l1_7.length c1_7]) (t := 76) ?hr ?_; (case hd => rfl); (case hg => rfl); (case hr => first | (go_simp; done) | (go_simp; rfl)); intro gb249 hg w28 hbox hb; have n0_ := Aside0.mk (blk_below (g := gb248) (o := .cells #[.int .u64 a0_0, .int .u64 a0_1, .int .u64 a0_2, .int .i64 a0_3, .slice A0_4 l0_4.length c0_4, .slice A0_5 l0_5.length c0_5] 36 (0, 0)) (by (with_reducible repeat (first | refine blk_drewN ?_ _ | refine blk_drew ?_ | refine blk_alloc ?_ _)); exact BK248.out) hb); have n1_ := Aside0.mk (below_step (by repeat (first | (with_reducible first | exact HB.out | apply below_alloc | apply pw_below_drewN | apply below_drew1 | refine below_set ?_ GE248.out) | exact HB.out)) hb); have n2_ := Aside0.mk (hbox); have n3_ := Aside0.mk ((by rw [hg]; exact (below_size (by repeat (first | (with_reducible first | exact HB.out | apply below_alloc | apply pw_below_drewN | apply below_drew1 | refine below_set ?_ GE248.out) | exact HB.out))) : w.heap.size ≤ gb249)); have n4_ := Aside0.mk ((by rw [hg]; exact (below_size (by repeat (first | (with_reducible first | exact HB.out | apply below_alloc | apply pw_below_drewN | apply below_drew1 | refine below_set ?_ GE248.out) | exact HB.out))) : w.heap.size ≤ gb249)); have n5_ := Aside0.mk ((by rw [hg]; exact Nat.ne_of_lt (blk_lt (g := gb248) (o := .cells #[.int .u64 a0_0, .int .u64 a0_1, .int .u64 a0_2, .int .i64 a0_3, .slice A0_4 l0_4.length c0_4, .slice A0_5 l0_5.length c0_5] 36 (0, 0)) (by (with_reducible repeat (first | refine blk_drewN ?_ _ | refine blk_drew ?_ | refine blk_alloc ?_ _)); exact BK248.out)) : gb248 ≠ gb249)); have n6_ := Aside0.mk ((by rw [hg]; exact Nat.ne_of_gt (blk_lt (g := gb248) (o := .cells #[.int .u64 a0_0, .int .u64 a0_1, .int .u64 a0_2, .int .i64 a0_3, .slice A0_4 l0_4.length c0_4, .slice A0_5 l0_5.length c0_5] 36 (0, 0)) (by (with_reducible repeat (first | refine blk_drewN ?_ _ | refine blk_drew ?_ | refine blk_alloc ?_ _)); exact BK248.out)) : gb249 ≠ gb248)); clear BK248; clear HB; have BK248 := n0_; have HB := n1_; have BK249 := n2_; have GW249 := n3_; have GE249 := n4_; have NB248_249 := n5_; have NB249_248 := n6_; clear n0_ n1_ n2_ n3_ n4_ n5_ n6_; clear hb hbox hg; have hnb29 := NB249_248.out; have hnc29 := NB248_249.out; have hcz30_0 : w28.cell? ⟨gb249, 0, none⟩ = some (.slice A1_0 l1_0.length c1_0) := (blk_cell BK249.out 0).trans rfl; have hcz30_1 : w28.cell? ⟨gb249, 1, none⟩ = some (.slice A1_1 l1_1.length c1_1) := (blk_cell BK249.out 1).trans rfl; have hcz30_2 : w28.cell? ⟨gb249, 2, none⟩ = some (.int .u64 a1_2) := (blk_cell BK249.out 2).trans rfl; have hcz30_3 : w28.cell? ⟨gb249, 3, none⟩ = some (.int .i64 a1_3) := (blk_cell BK249.out 3).trans rfl; have hcz30_4 : w28.cell? ⟨gb249, 4, none⟩ = some (.slice A1_4 l1_4.length c1_4) := (blk_cell BK249.out 4).trans rfl; have hcz30_5 : w28.cell? ⟨gb249, 5, none⟩ = some (.int .u64 a1_5) := (blk_cell BK249.out 5).trans rfl; have hcz30_6 : w28.cell? ⟨gb249, 6, none⟩ = some (.int .u64 a1_6) := (blk_cell BK249.out 6).trans rfl; have hcz30_7 : w28.cell? ⟨gb249, 7, none⟩ = some (.slice A1_7 l1_7.length c1_7) := (blk_cell BK249.out 7).trans rfl; have hfz30_0 := blk_frozen BK249.out 0; have hfz30_1 := blk_frozen BK249.out 1; have hfz30_2 := blk_frozen BK249.out 2; have hfz30_3 := blk_frozen BK249.out 3; have hfz30_4 := blk_frozen BK249.out 4; have hfz30_5 := blk_frozen BK249.out 5; have hfz30_6 := blk_frozen BK249.out 6; have hfz30_7 := blk_frozen BK249.out 7; have hcz31_0 : w28.cell? ⟨gb248, 0, none⟩ = some (.int .u64 a0_0) := (blk_cell BK248.out 0).trans rfl; have hcz31_1 : w28.cell? ⟨gb248, 1, none⟩ = some (.int .u64 a0_1) := (blk_cell BK248.out 1).trans rfl; have hcz31_2 : w28.cell? ⟨gb248, 2, none⟩ = some (.int .u64 a0_2) := (blk_cell BK248.out 2).trans rfl; have hcz31_3 : w28.cell? ⟨gb248, 3, none⟩ = some (.int .i64 a0_3) := (blk_cell BK248.out 3).trans rfl; have hcz31_4 : w28.cell? ⟨gb248, 4, none⟩ = some (.slice A0_4 l0_4.length c0_4) := (blk_cell BK248.out 4).trans rfl; have hcz31_5 : w28.cell? ⟨gb248, 5, none⟩ = some (.slice A0_5 l0_5.length c0_5) := (blk_cell BK248.out 5).trans rfl; have hfz31_0 := blk_frozen BK248.out 0; have hfz31_1 := blk_frozen BK248.out 1; have hfz31_2 := blk_frozen BK248.out 2; have hfz31_3 := blk_frozen BK248.out 3; have hfz31_4 := blk_frozen BK248.out 4; have hfz31_5 := blk_frozen BK248.out 5))
      go_ret
      exact ⟨by first | rfl | (simp [errW_none, errW_some] <;> rfl) | (simp [*, errW_none, errW_some] <;> rfl), by repeat (first | (with_reducible first | exact HB.out | apply below_alloc | apply pw_below_drewN | apply below_drew1 | refine below_set ?_ GE248.out | refine below_set ?_ GE249.out) | exact HB.out)⟩
    ·
     rw [if_neg c20] at H
     have c20b0 : decide (1 ≤ a1_6) = false := decide_eq_false c20
     clear c20
     obtain rfl := Option.some.inj H
     go_enter Tryd.func53, Tryd.ntmps53
     go_wp2_with (first | ((with_reducible refine gate_dst (N := 2) rfl ?_); refine box_event ?hg (N := 2) ?hd (cs := #[.int .u64 a0_0, .int .u64 a0_1, .int .u64 a0_2, .int .i64 a0_3, .slice A0_4 l0_4.length c0_4, .slice A0_5 l0_5.length c0_5]) (t := 36) ?hr ?_; (case hd => rfl); (case hg => rfl); (case hr => first | (go_simp; done) | (go_simp; rfl)); intro gb248 hg w32 hbox hb; have n0_ := Aside0.mk (below_step (by repeat (first | (with_reducible first | exact HB.out | apply below_alloc | apply pw_below_drewN | apply below_drew1) | exact HB.out)) hb); have n1_ := Aside0.mk (hbox); have n2_ := Aside0.mk ((by rw [hg]; exact (below_size (by repeat (first | (with_reducible first | exact HB.out | apply below_alloc | apply pw_below_drewN | apply below_drew1) | exact HB.out))) : w.heap.size ≤ gb248)); have n3_ := Aside0.mk ((by rw [hg]; exact (below_size (by repeat (first | (with_reducible first | exact HB.out | apply below_alloc | apply pw_below_drewN | apply below_drew1) | exact HB.out))) : w.heap.size ≤ gb248)); clear HB; have HB := n0_; have BK248 := n1_; have GW248 := n2_; have GE248 := n3_; clear n0_ n1_ n2_ n3_; clear hb hbox hg) | ((with_reducible refine gate_dst (N := 3) rfl ?_); refine box_event ?hg (N := 3) ?hd (cs := #[.slice A1_0 l1_0.length c1_0, .slice A1_1 l1_1.length c1_1, .int .u64 a1_2, .int .i64 a1_3, .slice A1_4 l1_4.length c1_4, .int .u64 a1_5, .int .u64 a1_6, .slice A1_7 l1_7.length c1_7]) (t := 76) ?hr ?_; (case hd => rfl); (case hg => rfl); (case hr => first | (go_simp; done) | (go_simp; rfl)); intro gb249 hg w33 hbox hb; have n0_ := Aside0.mk (blk_below (g := gb248) (o := .cells #[.int .u64 a0_0, .int .u64 a0_1, .int .u64 a0_2, .int .i64 a0_3, .slice A0_4 l0_4.length c0_4, .slice A0_5 l0_5.length c0_5] 36 (0, 0)) (by (with_reducible repeat (first | refine blk_drewN ?_ _ | refine blk_drew ?_ | refine blk_alloc ?_ _)); exact BK248.out) hb); have n1_ := Aside0.mk (below_step (by repeat (first | (with_reducible first | exact HB.out | apply below_alloc | apply pw_below_drewN | apply below_drew1 | refine below_set ?_ GE248.out) | exact HB.out)) hb); have n2_ := Aside0.mk (hbox); have n3_ := Aside0.mk ((by rw [hg]; exact (below_size (by repeat (first | (with_reducible first | exact HB.out | apply below_alloc | apply pw_below_drewN | apply below_drew1 | refine below_set ?_ GE248.out) | exact HB.out))) : w.heap.size ≤ gb249)); have n4_ := Aside0.mk ((by rw [hg]; exact (below_size (by repeat (first | (with_reducible first | exact HB.out | apply below_alloc | apply pw_below_drewN | apply below_drew1 | refine below_set ?_ GE248.out) | exact HB.out))) : w.heap.size ≤ gb249)); have n5_ := Aside0.mk ((by rw [hg]; exact Nat.ne_of_lt (blk_lt (g := gb248) (o := .cells #[.int .u64 a0_0, .int .u64 a0_1, .int .u64 a0_2, .int .i64 a0_3, .slice A0_4 l0_4.length c0_4, .slice A0_5 l0_5.length c0_5] 36 (0, 0)) (by (with_reducible repeat (first | refine blk_drewN ?_ _ | refine blk_drew ?_ | refine blk_alloc ?_ _)); exact BK248.out)) : gb248 ≠ gb249)); have n6_ := Aside0.mk ((by rw [hg]; exact Nat.ne_of_gt (blk_lt (g := gb248) (o := .cells #[.int .u64 a0_0, .int .u64 a0_1, .int .u64 a0_2, .int .i64 a0_3, .slice A0_4 l0_4.length c0_4, .slice A0_5 l0_5.length c0_5] 36 (0, 0)) (by (with_reducible repeat (first | refine blk_drewN ?_ _ | refine blk_drew ?_ | refine blk_alloc ?_ _)); exact BK248.out)) : gb249 ≠ gb248)); clear BK248; clear HB; have BK248 := n0_; have HB := n1_; have BK249 := n2_; have GW249 := n3_; have GE249 := n4_; have NB248_249 := n5_; have NB249_248 := n6_; clear n0_ n1_ n2_ n3_ n4_ n5_ n6_; clear hb hbox hg; have hnb34 := NB249_248.out; have hnc34 := NB248_249.out; have hcz35_0 : w33.cell? ⟨gb249, 0, none⟩ = some (.slice A1_0 l1_0.length c1_0) := (blk_cell BK249.out 0).trans rfl; have hcz35_1 : w33.cell? ⟨gb249, 1, none⟩ = some (.slice A1_1 l1_1.length c1_1) := (blk_cell BK249.out 1).trans rfl; have hcz35_2 : w33.cell? ⟨gb249, 2, none⟩ = some (.int .u64 a1_2) := (blk_cell BK249.out 2).trans rfl; have hcz35_3 : w33.cell? ⟨gb249, 3, none⟩ = some (.int .i64 a1_3) := (blk_cell BK249.out 3).trans rfl; have hcz35_4 : w33.cell? ⟨gb249, 4, none⟩ = some (.slice A1_4 l1_4.length c1_4) := (blk_cell BK249.out 4).trans rfl; have hcz35_5 : w33.cell? ⟨gb249, 5, none⟩ = some (.int .u64 a1_5) := (blk_cell BK249.out 5).trans rfl; have hcz35_6 : w33.cell? ⟨gb249, 6, none⟩ = some (.int .u64 a1_6) := (blk_cell BK249.out 6).trans rfl; have hcz35_7 : w33.cell? ⟨gb249, 7, none⟩ = some (.slice A1_7 l1_7.length c1_7) := (blk_cell BK249.out 7).trans rfl; have hfz35_0 := blk_frozen BK249.out 0; have hfz35_1 := blk_frozen BK249.out 1; have hfz35_2 := blk_frozen BK249.out 2; have hfz35_3 := blk_frozen BK249.out 3; have hfz35_4 := blk_frozen BK249.out 4; have hfz35_5 := blk_frozen BK249.out 5; have hfz35_6 := blk_frozen BK249.out 6; have hfz35_7 := blk_frozen BK249.out 7))
     go_ret
     exact ⟨by first | rfl | (simp [errW_none, errW_some] <;> rfl) | (simp [*, errW_none, errW_some] <;> rfl), by repeat (first | (with_reducible first | exact HB.out | apply below_alloc | apply pw_below_drewN | apply below_drew1 | refine below_set ?_ GE248.out | refine below_set ?_ GE249.out) | exact HB.out)⟩
   ·
    rw [if_neg c19] at H
    have c19b0 : ((l1_4.length : Int) == 1) = false := beq_eq_false_iff_ne.mpr c19
    have c19b1 : ((l1_4.length : Int) != 1) = true := bne_iff_ne.mpr c19
    obtain rfl := Option.some.inj H
    go_enter Tryd.func53, Tryd.ntmps53
    go_wp2_with (first | ((with_reducible refine gate_dst (N := 2) rfl ?_); refine box_event ?hg (N := 2) ?hd (cs := #[.int .u64 a0_0, .int .u64 a0_1, .int .u64 a0_2, .int .i64 a0_3, .slice A0_4 l0_4.length c0_4, .slice A0_5 l0_5.length c0_5]) (t := 36) ?hr ?_; (case hd => rfl); (case hg => rfl); (case hr => first | (go_simp; done) | (go_simp; rfl)); intro gb248 hg w36 hbox hb; have n0_ := Aside0.mk (below_step (by repeat (first | (with_reducible first | exact HB.out | apply below_alloc | apply pw_below_drewN | apply below_drew1) | exact HB.out)) hb); have n1_ := Aside0.mk (hbox); have n2_ := Aside0.mk ((by rw [hg]; exact (below_size (by repeat (first | (with_reducible first | exact HB.out | apply below_alloc | apply pw_below_drewN | apply below_drew1) | exact HB.out))) : w.heap.size ≤ gb248)); have n3_ := Aside0.mk ((by rw [hg]; exact (below_size (by repeat (first | (with_reducible first | exact HB.out | apply below_alloc | apply pw_below_drewN | apply below_drew1) | exact HB.out))) : w.heap.size ≤ gb248)); clear HB; have HB := n0_; have BK248 := n1_; have GW248 := n2_; have GE248 := n3_; clear n0_ n1_ n2_ n3_; clear hb hbox hg) | ((with_reducible refine gate_dst (N := 3) rfl ?_); refine box_event ?hg (N := 3) ?hd (cs := #[.slice A1_0 l1_0.length c1_0, .slice A1_1 l1_1.length c1_1, .int .u64 a1_2, .int .i64 a1_3, .slice A1_4 l1_4.length c1_4, .int .u64 a1_5, .int .u64 a1_6, .slice A1_7 l1_7.length c1_7]) (t := 76) ?hr ?_; (case hd => rfl); (case hg => rfl); (case hr => first | (go_simp; done) | (go_simp; rfl)); intro gb249 hg w37 hbox hb; have n0_ := Aside0.mk (blk_below (g := gb248) (o := .cells #[.int .u64 a0_0, .int .u64 a0_1, .int .u64 a0_2, .int .i64 a0_3, .slice A0_4 l0_4.length c0_4, .slice A0_5 l0_5.length c0_5] 36 (0, 0)) (by (with_reducible repeat (first | refine blk_drewN ?_ _ | refine blk_drew ?_ | refine blk_alloc ?_ _)); exact BK248.out) hb); have n1_ := Aside0.mk (below_step (by repeat (first | (with_reducible first | exact HB.out | apply below_alloc | apply pw_below_drewN | apply below_drew1 | refine below_set ?_ GE248.out) | exact HB.out)) hb); have n2_ := Aside0.mk (hbox); have n3_ := Aside0.mk ((by rw [hg]; exact (below_size (by repeat (first | (with_reducible first | exact HB.out | apply below_alloc | apply pw_below_drewN | apply below_drew1 | refine below_set ?_ GE248.out) | exact HB.out))) : w.heap.size ≤ gb249)); have n4_ := Aside0.mk ((by rw [hg]; exact (below_size (by repeat (first | (with_reducible first | exact HB.out | apply below_alloc | apply pw_below_drewN | apply below_drew1 | refine below_set ?_ GE248.out) | exact HB.out))) : w.heap.size ≤ gb249)); have n5_ := Aside0.mk ((by rw [hg]; exact Nat.ne_of_lt (blk_lt (g := gb248) (o := .cells #[.int .u64 a0_0, .int .u64 a0_1, .int .u64 a0_2, .int .i64 a0_3, .slice A0_4 l0_4.length c0_4, .slice A0_5 l0_5.length c0_5] 36 (0, 0)) (by (with_reducible repeat (first | refine blk_drewN ?_ _ | refine blk_drew ?_ | refine blk_alloc ?_ _)); exact BK248.out)) : gb248 ≠ gb249)); have n6_ := Aside0.mk ((by rw [hg]; exact Nat.ne_of_gt (blk_lt (g := gb248) (o := .cells #[.int .u64 a0_0, .int .u64 a0_1, .int .u64 a0_2, .int .i64 a0_3, .slice A0_4 l0_4.length c0_4, .slice A0_5 l0_5.length c0_5] 36 (0, 0)) (by (with_reducible repeat (first | refine blk_drewN ?_ _ | refine blk_drew ?_ | refine blk_alloc ?_ _)); exact BK248.out)) : gb249 ≠ gb248)); clear BK248; clear HB; have BK248 := n0_; have HB := n1_; have BK249 := n2_; have GW249 := n3_; have GE249 := n4_; have NB248_249 := n5_; have NB249_248 := n6_; clear n0_ n1_ n2_ n3_ n4_ n5_ n6_; clear hb hbox hg; have hnb38 := NB249_248.out; have hnc38 := NB248_249.out; have hcz39_0 : w37.cell? ⟨gb249, 0, none⟩ = some (.slice A1_0 l1_0.length c1_0) := (blk_cell BK249.out 0).trans rfl; have hcz39_1 : w37.cell? ⟨gb249, 1, none⟩ = some (.slice A1_1 l1_1.length c1_1) := (blk_cell BK249.out 1).trans rfl; have hcz39_2 : w37.cell? ⟨gb249, 2, none⟩ = some (.int .u64 a1_2) := (blk_cell BK249.out 2).trans rfl; have hcz39_3 : w37.cell? ⟨gb249, 3, none⟩ = some (.int .i64 a1_3) := (blk_cell BK249.out 3).trans rfl; have hcz39_4 : w37.cell? ⟨gb249, 4, none⟩ = some (.slice A1_4 l1_4.length c1_4) := (blk_cell BK249.out 4).trans rfl; have hcz39_5 : w37.cell? ⟨gb249, 5, none⟩ = some (.int .u64 a1_5) := (blk_cell BK249.out 5).trans rfl; have hcz39_6 : w37.cell? ⟨gb249, 6, none⟩ = some (.int .u64 a1_6) := (blk_cell BK249.out 6).trans rfl; have hcz39_7 : w37.cell? ⟨gb249, 7, none⟩ = some (.slice A1_7 l1_7.length c1_7) := (blk_cell BK249.out 7).trans rfl; have hfz39_0 := blk_frozen BK249.out 0; have hfz39_1 := blk_frozen BK249.out 1; have hfz39_2 := blk_frozen BK249.out 2; have hfz39_3 := blk_frozen BK249.out 3; have hfz39_4 := blk_frozen BK249.out 4; have hfz39_5 := blk_frozen BK249.out 5; have hfz39_6 := blk_frozen BK249.out 6; have hfz39_7 := blk_frozen BK249.out 7))
    go_ret
    exact ⟨by first | rfl | (simp [errW_none, errW_some] <;> rfl) | (simp [*, errW_none, errW_some] <;> rfl), by repeat (first | (with_reducible first | exact HB.out | apply below_alloc | apply pw_below_drewN | apply below_drew1 | refine below_set ?_ GE248.out | refine below_set ?_ GE249.out) | exact HB.out)⟩
  ·
   rw [if_neg c18] at H
   have c18b0 : (a1_3 == 1) = false := beq_eq_false_iff_ne.mpr c18
   have c18b1 : (a1_3 != 1) = true := bne_iff_ne.mpr c18
   by_cases c40 : a1_3 = 2
   ·
    rw [if_pos c40] at H
    have c40b0 : (a1_3 == 2) = true := beq_iff_eq.mpr c40
    have c40b1 : (a1_3 != 2) = false := bne_eq_false_iff_eq.mpr c40
    clear c40
    by_cases c41 : (l1_4.length : Int) ≥ 1
    ·
     rw [if_pos c41] at H
     have c41b0 : decide (1 ≤ (l1_4.length : Int)) = true := decide_eq_true c41
     have c41b1 : decide (1 ≤ l1_4.length) = true := decide_eq_true (by omega)
     clear c41
     by_cases c42 : a1_5 = 0
     ·
      rw [if_pos c42] at H
      have c42b0 : (a1_5 == 0) = true := beq_iff_eq.mpr c42
      have c42b1 : (a1_5 != 0) = false := bne_eq_false_iff_eq.mpr c42
      clear c42
      obtain rfl := Option.some.inj H
      go_enter Tryd.func53, Tryd.ntmps53
      go_wp2_with (first | ((with_reducible refine gate_dst (N := 2) rfl ?_); refine box_event ?hg (N := 2) ?hd (cs := #[.int .u64 a0_0, .int .u64 a0_1, .int .u64 a0_2, .int .i64 a0_3, .slice A0_4 l0_4.length c0_4, .slice A0_5 l0_5.length c0_5]) (t := 36) ?hr ?_; (case hd => rfl); (case hg => rfl); (case hr => first | (go_simp; done) | (go_simp; rfl)); intro gb248 hg w43 hbox hb; have n0_ := Aside0.mk (below_step (by repeat (first | (with_reducible first | exact HB.out | apply below_alloc | apply pw_below_drewN | apply below_drew1) | exact HB.out)) hb); have n1_ := Aside0.mk (hbox); have n2_ := Aside0.mk ((by rw [hg]; exact (below_size (by repeat (first | (with_reducible first | exact HB.out | apply below_alloc | apply pw_below_drewN | apply below_drew1) | exact HB.out))) : w.heap.size ≤ gb248)); have n3_ := Aside0.mk ((by rw [hg]; exact (below_size (by repeat (first | (with_reducible first | exact HB.out | apply below_alloc | apply pw_below_drewN | apply below_drew1) | exact HB.out))) : w.heap.size ≤ gb248)); clear HB; have HB := n0_; have BK248 := n1_; have GW248 := n2_; have GE248 := n3_; clear n0_ n1_ n2_ n3_; clear hb hbox hg) | ((with_reducible refine gate_dst (N := 3) rfl ?_); refine box_event ?hg (N := 3) ?hd (cs := #[.slice A1_0 l1_0.length c1_0, .slice A1_1 l1_1.length c1_1, .int .u64 a1_2, .int .i64 a1_3, .slice A1_4 l1_4.length c1_4, .int .u64 a1_5, .int .u64 a1_6, .slice A1_7 l1_7.length c1_7]) (t := 76) ?hr ?_; (case hd => rfl); (case hg => rfl); (case hr => first | (go_simp; done) | (go_simp; rfl)); intro gb249 hg w44 hbox hb; have n0_ := Aside0.mk (blk_below (g := gb248) (o := .cells #[.int .u64 a0_0, .int .u64 a0_1, .int .u64 a0_2, .int .i64 a0_3, .slice A0_4 l0_4.length c0_4, .slice A0_5 l0_5.length c0_5] 36 (0, 0)) (by (with_reducible repeat (first | refine blk_drewN ?_ _ | refine blk_drew ?_ | refine blk_alloc ?_ _)); exact BK248.out) hb); have n1_ := Aside0.mk (below_step (by repeat (first | (with_reducible first | exact HB.out | apply below_alloc | apply pw_below_drewN | apply below_drew1 | refine below_set ?_ GE248.out) | exact HB.out)) hb); have n2_ := Aside0.mk (hbox); have n3_ := Aside0.mk ((by rw [hg]; exact (below_size (by repeat (first | (with_reducible first | exact HB.out | apply below_alloc | apply pw_below_drewN | apply below_drew1 | refine below_set ?_ GE248.out) | exact HB.out))) : w.heap.size ≤ gb249)); have n4_ := Aside0.mk ((by rw [hg]; exact (below_size (by repeat (first | (with_reducible first | exact HB.out | apply below_alloc | apply pw_below_drewN | apply below_drew1 | refine below_set ?_ GE248.out) | exact HB.out))) : w.heap.size ≤ gb249)); have n5_ := Aside0.mk ((by rw [hg]; exact Nat.ne_of_lt (blk_lt (g := gb248) (o := .cells #[.int .u64 a0_0, .int .u64 a0_1, .int .u64 a0_2, .int .i64 a0_3, .slice A0_4 l0_4.length c0_4, .slice A0_5 l0_5.length c0_5] 36 (0, 0)) (by (with_reducible repeat (first | refine blk_drewN ?_ _ | refine blk_drew ?_ | refine blk_alloc ?_ _)); exact BK248.out)) : gb248 ≠ gb249)); have n6_ := Aside0.mk ((by rw [hg]; exact Nat.ne_of_gt (blk_lt (g := gb248) (o := .cells #[.int .u64 a0_0, .int .u64 a0_1, .int .u64 a0_2, .int .i64 a0_3, .slice A0_4 l0_4.length c0_4, .slice A0_5 l0_5.length c0_5] 36 (0, 0)) (by (with_reducible repeat (first | refine blk_drewN ?_ _ | refine blk_drew ?_ | refine blk_alloc ?_ _)); exact BK248.out)) : gb249 ≠ gb248)); clear BK248; clear HB; have BK248 := n0_; have HB := n1_; have BK249 := n2_; have GW249 := n3_; have GE249 := n4_; have NB248_249 := n5_; have NB249_248 := n6_; clear n0_ n1_ n2_ n3_ n4_ n5_ n6_; clear hb hbox hg; have hnb45 := NB249_248.out; have hnc45 := NB248_249.out; have hcz46_0 : w44.cell? ⟨gb249, 0, none⟩ = some (.slice A1_0 l1_0.length c1_0) := (blk_cell BK249.out 0).trans rfl; have hcz46_1 : w44.cell? ⟨gb249, 1, none⟩ = some (.slice A1_1 l1_1.length c1_1) := (blk_cell BK249.out 1).trans rfl; have hcz46_2 : w44.cell? ⟨gb249, 2, none⟩ = some (.int .u64 a1_2) := (blk_cell BK249.out 2).trans rfl; have hcz46_3 : w44.cell? ⟨gb249, 3, none⟩ = some (.int .i64 a1_3) := (blk_cell BK249.out 3).trans rfl; have hcz46_4 : w44.cell? ⟨gb249, 4, none⟩ = some (.slice A1_4 l1_4.length c1_4) := (blk_cell BK249.out 4).trans rfl; have hcz46_5 : w44.cell? ⟨gb249, 5, none⟩ = some (.int .u64 a1_5) := (blk_cell BK249.out 5).trans rfl; have hcz46_6 : w44.cell? ⟨gb249, 6, none⟩ = some (.int .u64 a1_6) := (blk_cell BK249.out 6).trans rfl; have hcz46_7 : w44.cell? ⟨gb249, 7, none⟩ = some (.slice A1_7 l1_7.length c1_7) := (blk_cell BK249.out 7).trans rfl; have hfz46_0 := blk_frozen BK249.out 0; have hfz46_1 := blk_frozen BK249.out 1; have hfz46_2 := blk_frozen BK249.out 2; have hfz46_3 := blk_frozen BK249.out 3; have hfz46_4 := blk_frozen BK249.out 4; have hfz46_5 := blk_frozen BK249.out 5; have hfz46_6 := blk_frozen BK249.out 6; have hfz46_7 := blk_frozen BK249.out 7))
      go_ret
      exact ⟨by first | rfl | (simp [errW_none, errW_some] <;> rfl) | (simp [*, errW_none, errW_some] <;> rfl), by repeat (first | (with_reducible first | exact HB.out | apply below_alloc | apply pw_below_drewN | apply below_drew1 | refine below_set ?_ GE248.out | refine below_set ?_ GE249.out) | exact HB.out)⟩
     ·
      rw [if_neg c42] at H
      have c42b0 : (a1_5 == 0) = false := beq_eq_false_iff_ne.mpr c42
      have c42b1 : (a1_5 != 0) = true := bne_iff_ne.mpr c42
      obtain rfl := Option.some.inj H
      go_enter Tryd.func53, Tryd.ntmps53
      go_wp2_with (first | ((with_reducible refine gate_dst (N := 2) rfl ?_); refine box_event ?hg (N := 2) ?hd (cs := #[.int .u64 a0_0, .int .u64 a0_1, .int .u64 a0_2, .int .i64 a0_3, .slice A0_4 l0_4.length c0_4, .slice A0_5 l0_5.length c0_5]) (t := 36) ?hr ?_; (case hd => rfl); (case hg => rfl); (case hr => first | (go_simp; done) | (go_simp; rfl)); intro gb248 hg w47 hbox hb; have n0_ := Aside0.mk (below_step (by repeat (first | (with_reducible first | exact HB.out | apply below_alloc | apply pw_below_drewN | apply below_drew1) | exact HB.out)) hb); have n1_ := Aside0.mk (hbox); have n2_ := Aside0.mk ((by rw [hg]; exact (below_size (by repeat (first | (with_reducible first | exact HB.out | apply below_alloc | apply pw_below_drewN | apply below_drew1) | exact HB.out))) : w.heap.size ≤ gb248)); have n3_ := Aside0.mk ((by rw [hg]; exact (below_size (by repeat (first | (with_reducible first | exact HB.out | apply below_alloc | apply pw_below_drewN | apply below_drew1) | exact HB.out))) : w.heap.size ≤ gb248)); clear HB; have HB := n0_; have BK248 := n1_; have GW248 := n2_; have GE248 := n3_; clear n0_ n1_ n2_ n3_; clear hb hbox hg) | ((with_reducible refine gate_dst (N := 3) rfl ?_); refine box_event ?hg (N := 3) ?hd (cs := #[.slice A1_0 l1_0.length c1_0, .slice A1_1 l1_1.length c1_1, .int .u64 a1_2, .int .i64 a1_3, .slice A1_4 l1_4.length c1_4, .int .u64 a1_5, .int .u64 a1_6, .slice A1_7 l1_7.length c1_7]) (t := 76) ?hr ?_; (case hd => rfl); (case hg => rfl); (case hr => first | (go_simp; done) | (go_simp; rfl)); intro gb249 hg w48 hbox hb; have n0_ := Aside0.mk (blk_below (g := gb248) (o := .cells #[.int .u64 a0_0, .int .u64 a0_1, .int .u64 a0_2, .int .i64 a0_3, .slice A0_4 l0_4.length c0_4, .slice A0_5 l0_5.length c0_5] 36 (0, 0)) (by (with_reducible repeat (first | refine blk_drewN ?_ _ | refine blk_drew ?_ | refine blk_alloc ?_ _)); exact BK248.out) hb); have n1_ := Aside0.mk (below_step (by repeat (first | (with_reducible first | exact HB.out | apply below_alloc | apply pw_below_drewN | apply below_drew1 | refine below_set ?_ GE248.out) | exact HB.out)) hb); have n2_ := Aside0.mk (hbox); have n3_ := Aside0.mk ((by rw [hg]; exact (below_size (by repeat (first | (with_reducible first | exact HB.out | apply below_alloc | apply pw_below_drewN | apply below_drew1 | refine below_set ?_ GE248.out) | exact HB.out))) : w.heap.size ≤ gb249)); have n4_ := Aside0.mk ((by rw [hg]; exact (below_size (by repeat (first | (with_reducible first | exact HB.out | apply below_alloc | apply pw_below_drewN | apply below_drew1 | refine below_set ?_ GE248.out) | exact HB.out))) : w.heap.size ≤ gb249)); have n5_ := Aside0.mk ((by rw [hg]; exact Nat.ne_of_lt (blk_lt (g := gb248) (o := .cells #[.int .u64 a0_0, .int .u64 a0_1, .int .u64 a0_2, .int .i64 a0_3, .slice A0_4 l0_4.length c0_4, .slice A0_5 l0_5.length c0_5] 36 (0, 0)) (by (with_reducible repeat (first | refine blk_drewN ?_ _ | refine blk_drew ?_ | refine blk_alloc ?_ _)); exact BK248.out)) : gb248 ≠ gb249)); have n6_ := Aside0.mk ((by rw [hg]; exact Nat.ne_of_gt (blk_lt (g := gb248) (o := .cells #[.int .u64 a0_0, .int .u64 a0_1, .int .u64 a0_2, .int .i64 a0_3, .slice A0_4 l0_4.length c0_4, .slice A0_5 l0_5.length c0_5] 36 (0, 0)) (by (with_reducible repeat (first | refine blk_drewN ?_ _ | refine blk_drew ?_ | refine blk_alloc ?_ _)); exact BK248.out)) : gb249 ≠ gb248)); clear BK248; clear HB; have BK248 := n0_; have HB := n1_; have BK249 := n2_; have GW249 := n3_; have GE249 := n4_; have NB248_249 := n5_; have NB249_248 := n6_; clear n0_ n1_ n2_ n3_ n4_ n5_ n6_; clear hb hbox hg; have hnb49 := NB249_248.out; have hnc49 := NB248_249.out; have hcz50_0 : w48.cell? ⟨gb249, 0, none⟩ = some (.slice A1_0 l1_0.length c1_0) := (blk_cell BK249.out 0).trans rfl; have hcz50_1 : w48.cell? ⟨gb249, 1, none⟩ = some (.slice A1_1 l1_1.length c1_1) := (blk_cell BK249.out 1).trans rfl; have hcz50_2 : w48.cell? ⟨gb249, 2, none⟩ = some (.int .u64 a1_2) := (blk_cell BK249.out 2).trans rfl; have hcz50_3 : w48.cell? ⟨gb249, 3, none⟩ = some (.int .i64 a1_3) := (blk_cell BK249.out 3).trans rfl; have hcz50_4 : w48.cell? ⟨gb249, 4, none⟩ = some (.slice A1_4 l1_4.length c1_4) := (blk_cell BK249.out 4).trans rfl; have hcz50_5 : w48.cell? ⟨gb249, 5, none⟩ = some (.int .u64 a1_5) := (blk_cell BK249.out 5).trans rfl; have hcz50_6 : w48.cell? ⟨gb249, 6, none⟩ = some (.int .u64 a1_6) := (blk_cell BK249.out 6).trans rfl; have hcz50_7 : w48.cell? ⟨gb249, 7, none⟩ = some (.slice A1_7 l1_7.length c1_7) := (blk_cell BK249.out 7).trans rfl; have hfz50_0 := blk_frozen BK249.out 0; have hfz50_1 := blk_frozen BK249.out 1; have hfz50_2 := blk_frozen BK249.out 2; have hfz50_3 := blk_frozen BK249.out 3; have hfz50_4 := blk_frozen BK249.out 4; have hfz50_5 := blk_frozen BK249.out 5; have hfz50_6 := blk_frozen BK249.out 6; have hfz50_7 := blk_frozen BK249.out 7))
      go_ret
      exact ⟨by first | rfl | (simp [errW_none, errW_some] <;> rfl) | (simp [*, errW_none, errW_some] <;> rfl), by repeat (first | (with_reducible first | exact HB.out | apply below_alloc | apply pw_below_drewN | apply below_drew1 | refine below_set ?_ GE248.out | refine below_set ?_ GE249.out) | exact HB.out)⟩
    ·
     rw [if_neg c41] at H
     have c41b0 : decide (1 ≤ (l1_4.length : Int)) = false := decide_eq_false c41
     have c41b1 : decide (1 ≤ l1_4.length) = false := decide_eq_false (by omega)
     clear c41
     obtain rfl := Option.some.inj H
     go_enter Tryd.func53, Tryd.ntmps53
     go_wp2_with (first | ((with_reducible refine gate_dst (N := 2) rfl ?_); refine box_event ?hg (N := 2) ?hd (cs := #[.int .u64 a0_0, .int .u64 a0_1, .int .u64 a0_2, .int .i64 a0_3, .slice A0_4 l0_4.length c0_4, .slice A0_5 l0_5.length c0_5]) (t := 36) ?hr ?_; (case hd => rfl); (case hg => rfl); (case hr => first | (go_simp; done) | (go_simp; rfl)); intro gb248 hg w51 hbox hb; have n0_ := Aside0.mk (below_step (by repeat (first | (with_reducible first | exact HB.out | apply below_alloc | apply pw_below_drewN | apply below_drew1) | exact HB.out)) hb); have n1_ := Aside0.mk (hbox); have n2_ := Aside0.mk ((by rw [hg]; exact (below_size (by repeat (first | (with_reducible first | exact HB.out | apply below_alloc | apply pw_below_drewN | apply below_drew1) | exact HB.out))) : w.heap.size ≤ gb248)); have n3_ := Aside0.mk ((by rw [hg]; exact (below_size (by repeat (first | (with_reducible first | exact HB.out | apply below_alloc | apply pw_below_drewN | apply below_drew1) | exact HB.out))) : w.heap.size ≤ gb248)); clear HB; have HB := n0_; have BK248 := n1_; have GW248 := n2_; have GE248 := n3_; clear n0_ n1_ n2_ n3_; clear hb hbox hg) | ((with_reducible refine gate_dst (N := 3) rfl ?_); refine box_event ?hg (N := 3) ?hd (cs := #[.slice A1_0 l1_0.length c1_0, .slice A1_1 l1_1.length c1_1, .int .u64 a1_2, .int .i64 a1_3, .slice A1_4 l1_4.length c1_4, .int .u64 a1_5, .int .u64 a1_6, .slice A1_7 l1_7.length c1_7]) (t := 76) ?hr ?_; (case hd => rfl); (case hg => rfl); (case hr => first | (go_simp; done) | (go_simp; rfl)); intro gb249 hg w52 hbox hb; have n0_ := Aside0.mk (blk_below (g := gb248) (o := .cells #[.int .u64 a0_0, .int .u64 a0_1, .int .u64 a0_2, .int .i64 a0_3, .slice A0_4 l0_4.length c0_4, .slice A0_5 l0_5.length c0_5] 36 (0, 0)) (by (with_reducible repeat (first | refine blk_drewN ?_ _ | refine blk_drew ?_ | refine blk_alloc ?_ _)); exact BK248.out) hb); have n1_ := Aside0.mk (below_step (by repeat (first | (with_reducible first | exact HB.out | apply below_alloc | apply pw_below_drewN | apply below_drew1 | refine below_set ?_ GE248.out) | exact HB.out)) hb); have n2_ := Aside0.mk (hbox); have n3_ := Aside0.mk ((by rw [hg]; exact (below_size (by repeat (first | (with_reducible first | exact HB.out | apply below_alloc | apply pw_below_drewN | apply below_drew1 | refine below_set ?_ GE248.out) | exact HB.out))) : w.heap.size ≤ gb249)); have n4_ := Aside0.mk ((by rw [hg]; exact (below_size (by repeat (first | (with_reducible first | exact HB.out | apply below_alloc | apply pw_below_drewN | apply below_drew1 | refine below_set ?_ GE248.out) | exact HB.out))) : w.heap.size ≤ gb249)); have n5_ := Aside0.mk ((by rw [hg]; exact Nat.ne_of_lt (blk_lt (g := gb248) (o := .cells #[.int .u64 a0_0, .int .u64 a0_1, .int .u64 a0_2, .int .i64 a0_3, .slice A0_4 l0_4.length c0_4, .slice A0_5 l0_5.length c0_5] 36 (0, 0)) (by (with_reducible repeat (first | refine blk_drewN ?_ _ | refine blk_drew ?_ | refine blk_alloc ?_ _)); exact BK248.out)) : gb248 ≠ gb249)); have n6_ := Aside0.mk ((by rw [hg]; exact Nat.ne_of_gt (blk_lt (g := gb248) (o := .cells #[.int .u64 a0_0, .int .u64 a0_1, .int .u64 a0_2, .int .i64 a0_3, .slice A0_4 l0_4.length c0_4, .slice A0_5 l0_5.length c0_5] 36 (0, 0)) (by (with_reducible repeat (first | refine blk_drewN ?_ _ | refine blk_drew ?_ | refine blk_alloc ?_ _)); exact BK248.out)) : gb249 ≠ gb248)); clear BK248; clear HB; have BK248 := n0_; have HB := n1_; have BK249 := n2_; have GW249 := n3_; have GE249 := n4_; have NB248_249 := n5_; have NB249_248 := n6_; clear n0_ n1_ n2_ n3_ n4_ n5_ n6_; clear hb hbox hg; have hnb53 := NB249_248.out; have hnc53 := NB248_249.out; have hcz54_0 : w52.cell? ⟨gb249, 0, none⟩ = some (.slice A1_0 l1_0.length c1_0) := (blk_cell BK249.out 0).trans rfl; have hcz54_1 : w52.cell? ⟨gb249, 1, none⟩ = some (.slice A1_1 l1_1.length c1_1) := (blk_cell BK249.out 1).trans rfl; have hcz54_2 : w52.cell? ⟨gb249, 2, none⟩ = some (.int .u64 a1_2) := (blk_cell BK249.out 2).trans rfl; have hcz54_3 : w52.cell? ⟨gb249, 3, none⟩ = some (.int .i64 a1_3) := (blk_cell BK249.out 3).trans rfl; have hcz54_4 : w52.cell? ⟨gb249, 4, none⟩ = some (.slice A1_4 l1_4.length c1_4) := (blk_cell BK249.out 4).trans rfl; have hcz54_5 : w52.cell? ⟨gb249, 5, none⟩ = some (.int .u64 a1_5) := (blk_cell BK249.out 5).trans rfl; have hcz54_6 : w52.cell? ⟨gb249, 6, none⟩ = some (.int .u64 a1_6) := (blk_cell BK249.out 6).trans rfl; have hcz54_7 : w52.cell? ⟨gb249, 7, none⟩ = some (.slice A1_7 l1_7.length c1_7) := (blk_cell BK249.out 7).trans rfl; have hfz54_0 := blk_frozen BK249.out 0; have hfz54_1 := blk_frozen BK249.out 1; have hfz54_2 := blk_frozen BK249.out 2; have hfz54_3 := blk_frozen BK249.out 3; have hfz54_4 := blk_frozen BK249.out 4; have hfz54_5 := blk_frozen BK249.out 5; have hfz54_6 := blk_frozen BK249.out 6; have hfz54_7 := blk_frozen BK249.out 7))
     go_ret
     exact ⟨by first | rfl | (simp [errW_none, errW_some] <;> rfl) | (simp [*, errW_none, errW_some] <;> rfl), by repeat (first | (with_reducible first | exact HB.out | apply below_alloc | apply pw_below_drewN | apply below_drew1 | refine below_set ?_ GE248.out | refine below_set ?_ GE249.out) | exact HB.out)⟩
   ·
    rw [if_neg c40] at H
    have c40b0 : (a1_3 == 2) = false := beq_eq_false_iff_ne.mpr c40
    have c40b1 : (a1_3 != 2) = true := bne_iff_ne.mpr c40
    obtain rfl := Option.some.inj H
    go_enter Tryd.func53, Tryd.ntmps53
    go_wp2_with (first | ((with_reducible refine gate_dst (N := 2) rfl ?_); refine box_event ?hg (N := 2) ?hd (cs := #[.int .u64 a0_0, .int .u64 a0_1, .int .u64 a0_2, .int .i64 a0_3, .slice A0_4 l0_4.length c0_4, .slice A0_5 l0_5.length c0_5]) (t := 36) ?hr ?_; (case hd => rfl); (case hg => rfl); (case hr => first | (go_simp; done) | (go_simp; rfl)); intro gb248 hg w55 hbox hb; have n0_ := Aside0.mk (below_step (by repeat (first | (with_reducible first | exact HB.out | apply below_alloc | apply pw_below_drewN | apply below_drew1) | exact HB.out)) hb); have n1_ := Aside0.mk (hbox); have n2_ := Aside0.mk ((by rw [hg]; exact (below_size (by repeat (first | (with_reducible first | exact HB.out | apply below_alloc | apply pw_below_drewN | apply below_drew1) | exact HB.out))) : w.heap.size ≤ gb248)); have n3_ := Aside0.mk ((by rw [hg]; exact (below_size (by repeat (first | (with_reducible first | exact HB.out | apply below_alloc | apply pw_below_drewN | apply below_drew1) | exact HB.out))) : w.heap.size ≤ gb248)); clear HB; have HB := n0_; have BK248 := n1_; have GW248 := n2_; have GE248 := n3_; clear n0_ n1_ n2_ n3_; clear hb hbox hg) | ((with_reducible refine gate_dst (N := 3) rfl ?_); refine box_event ?hg (N := 3) ?hd (cs := #[.slice A1_0 l1_0.length c1_0, .slice A1_1 l1_1.length c1_1, .int .u64 a1_2, .int .i64 a1_3, .slice A1_4 l1_4.length c1_4, .int .u64 a1_5, .int .u64 a1_6, .slice A1_7 l1_7.length c1_7]) (t := 76) ?hr ?_; (case hd => rfl); (case hg => rfl); (case hr => first | (go_simp; done) | (go_simp; rfl)); intro gb249 hg w56 hbox hb; have n0_ := Aside0.mk (blk_below (g := gb248) (o := .cells #[.int .u64 a0_0, .int .u64 a0_1, .int .u64 a0_2, .int .i64 a0_3, .slice A0_4 l0_4.length c0_4, .slice A0_5 l0_5.length c0_5] 36 (0, 0)) (by (with_reducible repeat (first | refine blk_drewN ?_ _ | refine blk_drew ?_ | refine blk_alloc ?_ _)); exact BK248.out) hb); have n1_ := Aside0.mk (below_step (by repeat (first | (with_reducible first | exact HB.out | apply below_alloc | apply pw_below_drewN | apply below_drew1 | refine below_set ?_ GE248.out) | exact HB.out)) hb); have n2_ := Aside0.mk (hbox); have n3_ := Aside0.mk ((by rw [hg]; exact (below_size (by repeat (first | (with_reducible first | exact HB.out | apply below_alloc | apply pw_below_drewN | apply below_drew1 | refine below_set ?_ GE248.out) | exact HB.out))) : w.heap.size ≤ gb249)); have n4_ := Aside0.mk ((by rw [hg]; exact (below_size (by repeat (first | (with_reducible first | exact HB.out | apply below_alloc | apply pw_below_drewN | apply below_drew1 | refine below_set ?_ GE248.out) | exact HB.out))) : w.heap.size ≤ gb249)); have n5_ := Aside0.mk ((by rw [hg]; exact Nat.ne_of_lt (blk_lt (g := gb248) (o := .cells #[.int .u64 a0_0, .int .u64 a0_1, .int .u64 a0_2, .int .i64 a0_3, .slice A0_4 l0_4.length c0_4, .slice A0_5 l0_5.length c0_5] 36 (0, 0)) (by (with_reducible repeat (first | refine blk_drewN ?_ _ | refine blk_drew ?_ | refine blk_alloc ?_ _)); exact BK248.out)) : gb248 ≠ gb249)); have n6_ := Aside0.mk ((by rw [hg]; exact Nat.ne_of_gt (blk_lt (g := gb248) (o := .cells #[.int .u64 a0_0, .int .u64 a0_1, .int .u64 a0_2, .int .i64 a0_3, .slice A0_4 l0_4.length c0_4, .slice A0_5 l0_5.length c0_5] 36 (0, 0)) (by (with_reducible repeat (first | refine blk_drewN ?_ _ | refine blk_drew ?_ | refine blk_alloc ?_ _)); exact BK248.out)) : gb249 ≠ gb248)); clear BK248; clear HB; have BK248 := n0_; have HB := n1_; have BK249 := n2_; have GW249 := n3_; have GE249 := n4_; have NB248_249 := n5_; have NB249_248 := n6_; clear n0_ n1_ n2_ n3_ n4_ n5_ n6_; clear hb hbox hg; have hnb57 := NB249_248.out; have hnc57 := NB248_249.out; have hcz58_0 : w56.cell? ⟨gb249, 0, none⟩ = some (.slice A1_0 l1_0.length c1_0) := (blk_cell BK249.out 0).trans rfl; have hcz58_1 : w56.cell? ⟨gb249, 1, none⟩ = some (.slice A1_1 l1_1.length c1_1) := (blk_cell BK249.out 1).trans rfl; have hcz58_2 : w56.cell? ⟨gb249, 2, none⟩ = some (.int .u64 a1_2) := (blk_cell BK249.out 2).trans rfl; have hcz58_3 : w56.cell? ⟨gb249, 3, none⟩ = some (.int .i64 a1_3) := (blk_cell BK249.out 3).trans rfl; have hcz58_4 : w56.cell? ⟨gb249, 4, none⟩ = some (.slice A1_4 l1_4.length c1_4) := (blk_cell BK249.out 4).trans rfl; have hcz58_5 : w56.cell? ⟨gb249, 5, none⟩ = some (.int .u64 a1_5) := (blk_cell BK249.out 5).trans rfl; have hcz58_6 : w56.cell? ⟨gb249, 6, none⟩ = some (.int .u64 a1_6) := (blk_cell BK249.out 6).trans rfl; have hcz58_7 : w56.cell? ⟨gb249, 7, none⟩ = some (.slice A1_7 l1_7.length c1_7) := (blk_cell BK249.out 7).trans rfl; have hfz58_0 := blk_frozen BK249.out 0; have hfz58_1 := blk_frozen BK249.out 1; have hfz58_2 := blk_frozen BK249.out 2; have hfz58_3 := blk_frozen BK249.out 3; have hfz58_4 := blk_frozen BK249.out 4; have hfz58_5 := blk_frozen BK249.out 5; have hfz58_6 := blk_frozen BK249.out 6; have hfz58_7 := blk_frozen BK249.out 7))
    go_ret
    exact ⟨by first | rfl | (simp [errW_none, errW_some] <;> rfl) | (simp [*, errW_none, errW_some] <;> rfl), by repeat (first | (with_reducible first | exact HB.out | apply below_alloc | apply pw_below_drewN | apply below_drew1 | refine below_set ?_ GE248.out | refine below_set ?_ GE249.out) | exact HB.out)⟩
theorem char_cases (x : Int) : (charB x = true ∧ (decide (97 ≤ x) = true ∧ decide (x ≤ 122) = true)) ∨
  (charB x = true ∧ decide (97 ≤ x) = false ∧ decide (48 ≤ x) = true ∧ decide (x ≤ 57) = true) ∨
  (charB x = true ∧ x = 45) ∨ (charB x = true ∧ x = 95) ∨
  (charB x = false ∧ decide (97 ≤ x) = false ∧ decide (48 ≤ x) = false ∧ decide (x = 45) = false ∧ decide (x = 95) = false ∧ (x == 45) = false ∧ (x == 95) = false) ∨
  (charB x = false ∧ decide (97 ≤ x) = false ∧ decide (48 ≤ x) = true ∧ decide (x ≤ 57) = false ∧ decide (x = 45) = false ∧ decide (x = 95) = false ∧ (x == 45) = false ∧ (x == 95) = false) ∨
  (charB x = false ∧ decide (97 ≤ x) = true ∧ decide (x ≤ 122) = false ∧ decide (48 ≤ x) = true ∧ decide (x ≤ 57) = false ∧ decide (x = 45) = false ∧ decide (x = 95) = false ∧ (x == 45) = false ∧ (x == 95) = false) := by
 unfold charB
 by_cases h1 : 97 ≤ x
 ·
  by_cases h2 : x ≤ 122
  ·
   simp [h1, h2]
  ·
   have h3 : 48 ≤ x := by omega
   have h4 : ¬ x ≤ 57 := by omega
   have h5 : ¬ x = 45 := by omega
   have h6 : ¬ x = 95 := by omega
   simp [h1, h2, h3, h4, h5, h6]
 ·
  by_cases h3 : 48 ≤ x
  ·
   by_cases h4 : x ≤ 57
   ·
    simp [h1, h3, h4]
   ·
    by_cases h6 : x = 95
    ·
     simp [h6]
    ·
     have h5 : ¬ x = 45 := by omega
     simp [h1, h3, h4, h5, h6]
  ·
   by_cases h5 : x = 45
   ·
    simp [h5]
   ·
    have h6 : ¬ x = 95 := by omega
    simp [h1, h3, h5, h6]
theorem nameB_yes {l : List Int} (h1 : 1 ≤ l.length) (h2 : l.length ≤ 16) (h : ∀ j, j < l.length → charB (rd l (j : Nat)) = true) : nameB l = true := by
 unfold nameB
 simp only [Bool.and_eq_true, decide_eq_true_eq, List.all_eq_true]
 refine ⟨⟨h1, h2⟩, fun x hx => ?_⟩
 obtain ⟨j, hj, rfl⟩ := List.getElem_of_mem hx
 have := h j hj
 unfold rd at this
 simpa [List.getD_eq_getElem?_getD, hj] using this
theorem nameB_no {l : List Int} {j : Nat} (hj : j < l.length) (h : charB (rd l (j : Nat)) = false) : nameB l = false := by
 unfold nameB
 have : l.all charB = false := by
  rw [List.all_eq_false]
  refine ⟨l[j], List.getElem_mem hj, ?_⟩
  unfold rd at h
  simp [List.getD_eq_getElem?_getD, hj] at h
  simp [h]
 simp [this]
set_option maxHeartbeats 2000000 in
set_option maxRecDepth 100000 in
theorem nameOk_calls (A : Option Addr) (c : Nat) (l : List Int) (w : World) (h : Kd.C (Kd.int .u8) w A l.length l) (hc : l.length ≤ c) :
  Calls Tryd.prog 40 #[.slice A l.length c] w fun e w' => e = .returned (.bool (nameB l)) ∧ w' = w := by
 by_cases h1 : l.length < 1
 ·
  have e : nameB l = false := by unfold nameB; rw [decide_eq_false (by omega)]; rfl
  have d1 : decide ((l.length : Int) < 1) = true := decide_eq_true (by omega)
  rw [e]
  clear e
  go_enter Tryd.func40, Tryd.ntmps40
  go_wp2
  go_ret
  exact ⟨rfl, rfl⟩
 by_cases h2 : 16 < l.length
 ·
  have e : nameB l = false := by unfold nameB; rw [decide_eq_false (show ¬ l.length ≤ 16 by omega)]; simp
  have d1 : decide ((l.length : Int) < 1) = false := decide_eq_false (by omega)
  have d2 : decide ((16 : Int) < (l.length : Int)) = true := decide_eq_true (by omega)
  rw [e]
  clear e
  go_enter Tryd.func40, Tryd.ntmps40
  go_wp2
  go_ret
  exact ⟨rfl, rfl⟩
 have d1 : decide ((l.length : Int) < 1) = false := decide_eq_false (by omega)
 have d2 : decide ((16 : Int) < (l.length : Int)) = false := decide_eq_false (by omega)
 have HR := Aside0.mk h
 have HL := Aside0.mk (show 1 ≤ l.length ∧ l.length ≤ 16 by omega)
 clear h h1 h2
 go_enter Tryd.func40, Tryd.ntmps40
 go_wp2
 clear d1 d2
 go_loop [15] (fun v15 => ∃ i : Nat, v15 = .int .i64 i ∧ Aside0 (i ≤ l.length ∧ ∀ j, j < i → charB (rd l (j : Nat)) = true)) (fun v15 => l.length - (intOf v15).toNat)
 case atStart => exact ⟨0, rfl, ⟨⟨Nat.zero_le _, fun j hj => absurd hj (Nat.not_lt_zero _)⟩⟩⟩
 case round =>
  obtain ⟨i, rfl, HI⟩ := hrel
  by_cases hlt : i < l.length
  ·
   have d3 : decide ((i : Int) < (l.length : Int)) = true := decide_eq_true (by omega)
   obtain ⟨ad, rfl, hx⟩ := Kd.at_int HR.out (i : Int) (by omega) (by omega)
   rw [Int.toNat_natCast] at hx
   have HX := Aside0.mk (show rd l (i : Nat) = rd l (i : Nat) from rfl)
   obtain ⟨x, hxx⟩ : ∃ x, rd l (i : Nat) = x := ⟨_, rfl⟩
   rw [hxx] at hx
   have HXX := Aside0.mk hxx
   have hi1 : (0 : Int) ≤ i := by omega
   have hi2 : (i : Int) < (l.length : Int) := by omega
   have hlen : l.length ≤ 16 := HL.out.2
   clear hxx HX
   rcases char_cases x with ⟨hb, q1, q2⟩ | ⟨hb, q1, q2, q3⟩ | ⟨hb, rfl⟩ | ⟨hb, rfl⟩ | ⟨hb, q1, q2, q3, q4, q5, q6⟩ | ⟨hb, q1, q2, q3, q4, q5, q6, q7⟩ | ⟨hb, q1, q2, q3, q4, q5, q6, q7, q8⟩
   ·
    have HB := Aside0.mk hb
    clear hb
    go_wp2
    go_round
    case rel => exact ⟨i + 1, by go_num, ⟨⟨by omega, fun j hj => by
     by_cases e : j = i
     ·
      rw [e, HXX.out]; exact HB.out
     ·
      exact HI.out.2 j (by omega)⟩⟩⟩
    case measure => simp [intOf]; omega
   ·
    have HB := Aside0.mk hb
    clear hb
    go_wp2
    go_round
    case rel => exact ⟨i + 1, by go_num, ⟨⟨by omega, fun j hj => by
     by_cases e : j = i
     ·
      rw [e, HXX.out]; exact HB.out
     ·
      exact HI.out.2 j (by omega)⟩⟩⟩
    case measure => simp [intOf]; omega
   ·
    have HB := Aside0.mk hb
    clear hb
    go_wp2
    go_round
    case rel => exact ⟨i + 1, by go_num, ⟨⟨by omega, fun j hj => by
     by_cases e : j = i
     ·
      rw [e, HXX.out]; exact HB.out
     ·
      exact HI.out.2 j (by omega)⟩⟩⟩
    case measure => simp [intOf]; omega
   ·
    have HB := Aside0.mk hb
    clear hb
    go_wp2
    go_round
    case rel => exact ⟨i + 1, by go_num, ⟨⟨by omega, fun j hj => by
     by_cases e : j = i
     ·
      rw [e, HXX.out]; exact HB.out
     ·
      exact HI.out.2 j (by omega)⟩⟩⟩
    case measure => simp [intOf]; omega
   all_goals
    have HB := Aside0.mk hb
    clear hb
    go_wp2
    go_ret
    rw [nameB_no hlt (by rw [HXX.out]; exact HB.out)]
    exact ⟨rfl, rfl⟩
  ·
   have d3 : decide ((i : Int) < (l.length : Int)) = false := decide_eq_false (by omega)
   obtain rfl : i = l.length := by have := HI.out.1; omega
   go_wp2
   go_ret
   rw [nameB_yes HL.out.1 HL.out.2 HI.out.2]
   exact ⟨rfl, rfl⟩
set_option maxHeartbeats 2000000 in
set_option maxRecDepth 100000 in
theorem nameNot_calls (A : Option Addr) (c : Nat) (l : List Int) (w : World) (h : Kd.C (Kd.int .u8) w A l.length l) (hc : l.length ≤ c) :
  Calls Tryd.prog 39 #[.slice A l.length c] w fun e w' => e = .returned (.bool (!nameB l)) ∧ w' = w := by
 go_enter Tryd.func39, Tryd.ntmps39
 go_wp2_with (go_at_call 40; refine (nameOk_calls A c l w h hc).mono ?_; rintro e w' ⟨rfl, rfl⟩)
 go_ret
 exact ⟨rfl, rfl⟩
end Go.Proofs.YtbgbocdohadhoaaDoor.Print
namespace Go.Proofs
open Go.Shelf
def Tryd.laysSplit_ren : Go.Shelf.Ren := ⟨fun | 7 => 37 | 11 => 87 | 14 => 119 | 15 => 120 | 16 => 121 | 17 => 139 | 19 => 140 | 20 => 141 | 21 => 142 | 22 => 72 | 23 => 143 | 24 => 144 | 25 => 145 | 26 => 165 | 29 => 149 | 30 => 166 | 31 => 167 | n => n, fun | 22 => 22 | 23 => 57 | 3 => 3 | 4 => 4 | 0 => 0 | 34 => 169 | 21 => 21 | 5 => 5 | 45 => 146 | 9 => 9 | 58 => 190 | 38 => 189 | 28 => 199 | 62 => 202 | 61 => 201 | n => n, fun | 2 => 0 | 3 => 1 | 4 => 2 | n => n⟩
theorem Tryd.laysSplit : Go.Proofs.SlLaysP.n7 Tryd.prog Tryd.laysSplit_ren := {
 mixed := by kernel_rfl
 f7 := Tryd.func37.trans (congrArg some (by kernel_rfl))
 f11 := Tryd.func87.trans (congrArg some (by kernel_rfl))
 f15 := Tryd.func120.trans (congrArg some (by kernel_rfl))
 f16 := Tryd.func121.trans (congrArg some (by kernel_rfl))
 f20 := Tryd.func141.trans (congrArg some (by kernel_rfl))
 f21 := Tryd.func142.trans (congrArg some (by kernel_rfl))
 f22 := Tryd.func72.trans (congrArg some (by kernel_rfl))
 f23 := Tryd.func143.trans (congrArg some (by kernel_rfl))
 f24 := Tryd.func144.trans (congrArg some (by kernel_rfl))
 f25 := Tryd.func145.trans (congrArg some (by kernel_rfl))
 f30 := Tryd.func166.trans (congrArg some (by kernel_rfl))
 f31 := Tryd.func167.trans (congrArg some (by kernel_rfl))
 t0 := Tryd.underlying0
 a0 := Tryd.isAgg0
 z0 := Tryd.sizeOf0
 v0 := Tryd.zeroValue0
 t3 := Tryd.underlying3
 a3 := Tryd.isAgg3
 z3 := Tryd.sizeOf3
 v3 := Tryd.zeroValue3
 t4 := Tryd.underlying4
 a4 := Tryd.isAgg4
 z4 := Tryd.sizeOf4
 v4 := Tryd.zeroValue4
 t5 := Tryd.underlying5
 a5 := Tryd.isAgg5
 z5 := Tryd.sizeOf5
 v5 := Tryd.zeroValue5
 t9 := Tryd.underlying9
 a9 := Tryd.isAgg9
 z9 := Tryd.sizeOf9
 v9 := Tryd.zeroValue9
 t22 := Tryd.underlying22
 a22 := Tryd.isAgg22
 z22 := Tryd.sizeOf22
 v22 := Tryd.zeroValue22
 t23 := Tryd.underlying57
 a23 := Tryd.isAgg57
 z23 := Tryd.sizeOf57
 v23 := Tryd.zeroValue57
 t38 := Tryd.underlying189
 a38 := Tryd.isAgg189
 z38 := Tryd.sizeOf189
 v38 := Tryd.zeroValue189
 t45 := Tryd.underlying146
 a45 := Tryd.isAgg146
 z45 := Tryd.sizeOf146
 v45 := Tryd.zeroValue146
 t58 := Tryd.underlying190
 a58 := Tryd.isAgg190
 z58 := Tryd.sizeOf190
 v58 := Tryd.zeroValue190
 g2 := by kernel_rfl
 i22 := by kernel_rfl }
def Tryd.laysCF_ren : Go.Shelf.Ren := ⟨fun | 8 => 38 | 6 => 88 | n => n, fun | 22 => 57 | 23 => 22 | 25 => 23 | 4 => 4 | 3 => 3 | 0 => 0 | n => n, fun | n => n⟩
theorem Tryd.laysCF : Go.Proofs.SlLaysH.n8 Tryd.prog Tryd.laysCF_ren := {
 mixed := by kernel_rfl
 f6 := ⟨Tryd.f88.name, by decide, Tryd.func88.trans (congrArg some (by kernel_rfl))⟩
 f8 := ⟨Tryd.f38.name, by decide, Tryd.func38.trans (congrArg some (by kernel_rfl))⟩
 t0 := Tryd.underlying0
 a0 := Tryd.isAgg0
 z0 := Tryd.sizeOf0
 v0 := Tryd.zeroValue0
 t3 := Tryd.underlying3
 a3 := Tryd.isAgg3
 z3 := Tryd.sizeOf3
 v3 := Tryd.zeroValue3
 t4 := Tryd.underlying4
 a4 := Tryd.isAgg4
 z4 := Tryd.sizeOf4
 v4 := Tryd.zeroValue4
 t22 := Tryd.underlying57
 a22 := Tryd.isAgg57
 z22 := Tryd.sizeOf57
 v22 := Tryd.zeroValue57
 a23 := Tryd.isAgg22
 z23 := Tryd.sizeOf22
 t25 := Tryd.underlying23
 a25 := Tryd.isAgg23
 z25 := Tryd.sizeOf23
 v25 := Tryd.zeroValue23 }
end Go.Proofs
namespace Go.Proofs.YtbgbocdohadhoaaDoor.Print
open Go Go.RowKit Go.Proofs.YtbgbocdohadhoaaDoorW.PrintWords Go.Proofs.YtbgbocdohadhoaaDoorW.PrintLast Go.Proofs.YtbgbocdohadhoaaDoorW.PrintMore
set_option linter.unusedVariables false
set_option linter.unusedSimpArgs false
section
open Go.Shelf
def PV (w : World) (v : Value) (p : List Int) : Prop := ∃ A c, v = .slice A p.length c ∧ p.length ≤ c ∧ Kd.C (Kd.int .u8) w A p.length p
def PVs (w : World) (vs : List Value) (ps : List (List Int)) : Prop := vs.length = ps.length ∧ ∀ (j : Nat) v p, vs[j]? = some v → ps[j]? = some p → PV w v p
theorem PVs.snoc {w : World} {vs : List Value} {ps : List (List Int)} {v : Value} {p : List Int} (h : PVs w vs ps) (hv : PV w v p) : PVs w (vs ++ [v]) (ps ++ [p]) := by
 refine ⟨by simp [h.1], fun j u q h1 h2 => ?_⟩
 rcases Nat.lt_or_ge j vs.length with hj | hj
 ·
  rw [List.getElem?_append_left hj] at h1
  rw [List.getElem?_append_left (by rw [← h.1]; exact hj)] at h2
  exact h.2 j u q h1 h2
 ·
  rw [List.getElem?_append_right hj] at h1
  rw [List.getElem?_append_right (by rw [← h.1]; exact hj), ← h.1] at h2
  cases hk : j - vs.length with
  | zero =>
   rw [hk] at h1 h2
   simp only [List.getElem?_cons_zero, Option.some.injEq] at h1 h2
   rw [← h1, ← h2]
   exact hv
  | succ k =>
   rw [hk] at h1
   simp at h1
theorem PV.of {w : World} {a : Addr} {p : List Int} {n c : Nat} (hn : p.length = n) (hl : n ≤ c) (hb : n ≤ 1000) (h : ∀ j, j < n → w.cell? (a.add j) = some (.int .u8 (p.getD j 0))) : PV w (.slice (some a) n c) p := by
 subst hn
 exact ⟨some a, c, rfl, hl, Kd.C_of_reads (d := (0 : Int)) (h1 := fun _ => rfl) ⟨rfl, by omega, fun _ => ⟨a, rfl, h⟩⟩⟩
theorem add_add_ (a : Addr) (i j : Nat) : (a.add (i + 1)).add j = a.add (i + 1 + j) := by
 unfold Addr.add
 by_cases hj : j = 0
 ·
  subst hj; simp
 ·
  simp [hj]; omega
theorem count_bytes : ∀ (l : List Int), (∀ x ∈ l, 0 ≤ x ∧ x < 256) → Lib.countByte (Lib.bytesOf l) 47 = l.count 47
 | [], _ => rfl
 | c :: l, hr => by
  have ih := count_bytes l (fun x hx => hr x (by simp [hx]))
  have hc := hr c (by simp)
  unfold Lib.countByte at ih ⊢
  rw [show Lib.bytesOf (c :: l) = UInt8.ofNat c.toNat :: Lib.bytesOf l from rfl]
  by_cases h : c = 47
  ·
   rw [(byte_eq hc).2 h, List.count_cons_self, ih, h, List.count_cons_self]
  ·
   rw [List.count_cons_of_ne (fun e => h ((byte_eq hc).1 e)), ih, List.count_cons_of_ne (fun e => h e)]
theorem pieces_count : ∀ (l : List Int), (pieces l).length = l.count 47 + 1
 | [] => rfl
 | c :: l => by
  have ih := pieces_count l
  by_cases h : c = 47
  ·
   rw [h, pieces_slash, List.length_cons, ih, List.count_cons_self]
  ·
   obtain ⟨a, t, e, e'⟩ := pieces_char c l h
   rw [e', List.count_cons_of_ne (fun e => h e), ← ih, e]
   rfl
theorem pieces_none : ∀ (l : List Int), l.count 47 = 0 → pieces l = [l]
 | [], _ => rfl
 | c :: l, h => by
  by_cases hc : c = 47
  ·
   rw [hc, List.count_cons_self] at h
   omega
  ·
   rw [List.count_cons_of_ne (fun e => hc e)] at h
   obtain ⟨a, t, e, e'⟩ := pieces_char c l hc
   rw [pieces_none l h] at e
   simp only [List.cons.injEq] at e
   rw [e', ← e.1, ← e.2]
theorem pieces_hit : ∀ (l : List Int), (∀ x ∈ l, 0 ≤ x ∧ x < 256) → 0 < l.count 47 → ∃ i : Nat, Lib.indexByte (Lib.bytesOf l) 47 = i ∧ i < l.length ∧ pieces l = l.take i :: pieces (l.drop (i + 1)) ∧ (l.drop (i + 1)).count 47 + 1 = l.count 47
 | [], _, h => by simp at h
 | c :: l, hr, h => by
  have hc := hr c (by simp)
  have e0 : Lib.bytesOf (c :: l) = UInt8.ofNat c.toNat :: Lib.bytesOf l := rfl
  by_cases hcc : c = 47
  ·
   refine ⟨0, ?_, by simp, ?_, ?_⟩
   ·
    rw [e0, (byte_eq hc).2 hcc, Lib.indexByte, if_pos (by rfl)]
    rfl
   ·
    rw [hcc, pieces_slash]
    rfl
   ·
    rw [hcc, List.count_cons_self]
    rfl
  ·
   rw [List.count_cons_of_ne (fun e => hcc e)] at h
   obtain ⟨i, h1, h2, h3, h4⟩ := pieces_hit l (fun x hx => hr x (by simp [hx])) h
   obtain ⟨a, t, e, e'⟩ := pieces_char c l hcc
   refine ⟨i + 1, ?_, by simp; omega, ?_, ?_⟩
   ·
    rw [e0, Lib.indexByte, if_neg (by simp only [beq_iff_eq]; exact fun q => hcc ((byte_eq hc).1 q)), h1, if_neg (by simp only [beq_iff_eq]; omega)]
    omega
   ·
    rw [h3] at e
    simp only [List.cons.injEq] at e
    rw [e', ← e.1, ← e.2]
    rfl
   ·
    rw [List.count_cons_of_ne (fun e => hcc e), ← h4]
    rfl
theorem lays11 : SlLaysP.n11 Tryd.prog Tryd.laysSplit_ren := { Tryd.laysSplit with }
theorem index_calls (a : Addr) (n c b2 d : Nat) (xs : List Int) (w : World) (hx : xs.length = n) (hc : ∀ i, i < n → w.cell? (a.add i) = some (.int .u8 (xs.getD i 0))) (hc2 : w.cell? ⟨b2, 0, none⟩ = some (.int .u8 47)) :
  Calls Tryd.prog 121 #[.slice (some a) n c, .slice (some ⟨b2, 0, none⟩) 1 d] w fun e w' => e = .returned (.int .i64 (Lib.indexByte (Lib.bytesOf xs) 47)) ∧ w' = w :=
 Any.bytes_Index_one_at lays11.index a n c b2 0 d xs 47 w hx hc hc2
theorem count_calls (a : Addr) (n c b2 d : Nat) (xs : List Int) (w : World) (hx : xs.length = n) (hc : ∀ i, i < n → w.cell? (a.add i) = some (.int .u8 (xs.getD i 0))) (hc2 : w.cell? ⟨b2, 0, none⟩ = some (.int .u8 47)) :
  Calls Tryd.prog 120 #[.slice (some a) n c, .slice (some ⟨b2, 0, none⟩) 1 d] w fun e w' => e = .returned (.int .i64 (Lib.countByte (Lib.bytesOf xs) 47)) ∧ w' = w :=
 Any.bytes_Count_one_at (SlLaysC.n13.small lays11.count) a n c b2 0 d xs 47 w hx hc hc2
set_option maxHeartbeats 4000000 in
set_option maxRecDepth 100000 in
theorem genSplit_calls (a : Addr) (c b2 d : Nat) (xs : List Int) (w : World) (hr : ∀ x ∈ xs, 0 ≤ x ∧ x < 256) (hc : ∀ i, i < xs.length → w.cell? (a.add i) = some (.int .u8 (xs.getD i 0))) (hcap : xs.length ≤ c) (hn : xs.length ≤ 1000) (hc2 : w.cell? ⟨b2, 0, none⟩ = some (.int .u8 47)) :
  Calls Tryd.prog 87 #[.slice (some a) xs.length c, .slice (some ⟨b2, 0, none⟩) 1 d, .int .i64 0, .int .i64 (-1)] w fun e w' => ∃ vs, e = .returned (.slice (some ⟨w.heap.size, 0, none⟩) vs.length vs.length) ∧ PVs w vs (pieces xs) ∧ w' = w.alloc (.cells vs.toArray 22) := by
 have HC := Aside0.mk (count_calls a xs.length c b2 d xs w rfl hc hc2)
 have hcnt := count_bytes xs hr
 have hcl : xs.count 47 ≤ xs.length := List.count_le_length
 have hpc := pieces_count xs
 rw [hcnt] at HC
 obtain ⟨N, hN⟩ : ∃ N, xs.count 47 = N := ⟨_, rfl⟩
 rw [hN] at HC hcl hpc
 have e1 : min ((N : Int) + 1) ((xs.length : Int) + 1) = (N : Int) + 1 := by omega
 have hmk := run_make_row' (P := Tryd.prog) 57 22 (.slice none 0 0) 24 lays11.t23 lays11.i22 rfl .i64 .i64 (N + 1) (by omega) (by omega)
 have e2 : (((N + 1 : Nat) : Int)) = (N : Int) + 1 := by omega
 rw [e2] at hmk
 have HR := Aside0.mk hr
 have HA := Aside0.mk hc
 have HN := Aside0.mk (And.intro hN (And.intro hcl (And.intro hpc (And.intro hcap hn))))
 clear hr hc hcnt hN hpc
 go_enter Tryd.func87, Tryd.ntmps87
 go_wp2_with fail
 refine HC.out.mono ?_
 rintro e w' ⟨rfl, hww⟩
 obtain rfl : w = w' := hww.symm
 clear HC
 go_wp2_with fail
 clear hmk e1 e2
 go_loopg [0, 10] (N + 1) (fun gg s0 s10 wr => ∃ (done : List Value) (ps : List (List Int)) (ad : Addr) (zs : List Int) (cap : Nat), s0 = .slice (some ad) zs.length cap ∧ s10 = .int .i64 done.length ∧ wr = w.alloc (.cells (Lib.cellsOfV done (N + 1)) 22) ∧
  Aside0 (gg + done.length = N + 1 ∧ done.length ≤ N ∧ zs.length ≤ cap ∧ zs.length ≤ xs.length ∧ zs.count 47 + done.length = N ∧ (∀ x ∈ zs, 0 ≤ x ∧ x < 256)) ∧ Aside0 (∀ i, i < zs.length → w.cell? (ad.add i) = some (.int .u8 (zs.getD i 0))) ∧ Aside0 (PVs w done ps ∧ pieces xs = ps ++ pieces zs))
 case atStart =>
  have h := HN.out
  exact ⟨[], [], a, xs, c, rfl, rfl, by rw [Lib.cellsOfV_nil], ⟨⟨by simp, by simp, h.2.2.2.1, Nat.le_refl _, by simp [h.1], HR.out⟩⟩, HA, ⟨⟨⟨rfl, fun j v p h => by simp at h⟩, rfl⟩⟩⟩
 case round =>
  obtain ⟨done, ps, ad, zs, cap, rfl, rfl, rfl, HZ, HB, HP⟩ := hrel
  have hz := HZ.out
  have hnn := HN.out.2.2.2.2
  have hnext := Lib.cellsOfV_next (done := done) (N := N + 1) (by omega)
  by_cases hlt : done.length < N
  ·
   obtain ⟨i, k1, k2, k3, k4⟩ := pieces_hit zs hz.2.2.2.2.2 (by omega)
   have hd1 : decide ((done.length : Int) < (N : Int)) = true := decide_eq_true (by omega)
   have hd2 : ((done.length : Int) < (N : Int) + 1 - 1) := by omega
   have HI := Aside0.mk (index_calls ad zs.length cap b2 d zs (w.alloc (.cells (Lib.cellsOfV done (N + 1)) 22)) rfl (fun j hj => Lib.cell?_alloc_marked _ (HB.out j hj)) (Lib.cell?_alloc_marked _ hc2))
   rw [k1] at HI
   have c0 : ¬ ((i : Int) < 0) := by omega
   have c1 : (0 : Int) ≤ (i : Int) := by omega
   have c2 : (i : Int) ≤ (cap : Int) := by omega
   have c3 : (0 : Int) ≤ (i : Int) + 1 := by omega
   have c4 : (i : Int) + 1 ≤ (zs.length : Int) := by omega
   have c5 : zs.length ≤ 1000 := by omega
   have KK := Aside0.mk (And.intro k1 (And.intro k2 (And.intro k3 k4)))
   clear k1 k2 k3 k4
   go_wp2_with fail
   refine HI.out.mono ?_
   rintro e w' ⟨rfl, hww⟩
   subst hww
   clear HI
   by_cases hce : cap = i + 1
   ·
    subst hce
    go_wp2_with fail
    have kk := KK.out
    go_roundg (N - done.length)
    case measure => omega
    case rel =>
     refine ⟨done ++ [.slice (some ad) i i], ps ++ [zs.take i], ad, zs.drop (i + 1), 0, by simp; omega, by simp, by rw [Lib.cellsOfV_set (by omega)], ⟨⟨by simp; omega, by simp; omega, by simp; omega, by simp; omega, by simp; omega, fun x hx => hz.2.2.2.2.2 x (List.mem_of_mem_drop hx)⟩⟩, ⟨fun j hj => ?_⟩, ⟨⟨PVs.snoc HP.out.1 (PV.of (by simp; omega) (Nat.le_refl _) (by omega) (fun j hj => by rw [HB.out j (by omega)]; simp [List.getD, List.getElem?_take, hj])), ?_⟩⟩⟩
     ·
      rw [List.length_drop] at hj; omega
     ·
      rw [HP.out.2, kk.2.2.1]
      simp
   ·
    go_wp2_with fail
    have kk := KK.out
    go_roundg (N - done.length)
    case measure => omega
    case rel =>
     refine ⟨done ++ [.slice (some ad) i i], ps ++ [zs.take i], ad.add (i + 1), zs.drop (i + 1), cap - (i + 1), by simp [Addr.add], by simp, by rw [Lib.cellsOfV_set (by omega)], ⟨⟨by simp; omega, by simp; omega, by simp; omega, by simp; omega, by simp; omega, fun x hx => hz.2.2.2.2.2 x (List.mem_of_mem_drop hx)⟩⟩, ⟨fun j hj => ?_⟩, ⟨⟨PVs.snoc HP.out.1 (PV.of (by simp; omega) (Nat.le_refl _) (by omega) (fun j hj => by rw [HB.out j (by omega)]; simp [List.getD, List.getElem?_take, hj])), ?_⟩⟩⟩
     ·
      rw [List.length_drop] at hj; rw [add_add_, HB.out (i + 1 + j) (by omega)]; simp [List.getD, List.getElem?_drop]
     ·
      rw [HP.out.2, kk.2.2.1]
      simp
  ·
   have hd1 : decide ((done.length : Int) < (N : Int)) = false := decide_eq_false (by omega)
   go_wp2_with fail
   go_ret
   have hdn : done.length = N := by omega
   have hvl : (done ++ [Value.slice (some ad) zs.length cap]).length = N + 1 := by simp [hdn]
   refine ⟨done ++ [.slice (some ad) zs.length cap], ?_, ?_, ?_⟩
   ·
    rw [hvl, hdn]
    rfl
   ·
    have h1 := PVs.snoc HP.out.1 (PV.of (w := w) (a := ad) (p := zs) (c := cap) rfl hz.2.2.1 (by omega) HB.out)
    rw [HP.out.2, pieces_none zs (by omega)]
    exact h1
   ·
    rw [Lib.cellsOfV_set (by omega), ← hvl, Lib.cellsOfV_full]
set_option maxHeartbeats 4000000 in
set_option maxRecDepth 100000 in
theorem split_calls (a : Addr) (c b2 d : Nat) (xs : List Int) (w : World) (hr : ∀ x ∈ xs, 0 ≤ x ∧ x < 256) (hc : ∀ i, i < xs.length → w.cell? (a.add i) = some (.int .u8 (xs.getD i 0))) (hcap : xs.length ≤ c) (hn : xs.length ≤ 1000) (hc2 : w.cell? ⟨b2, 0, none⟩ = some (.int .u8 47)) :
  Calls Tryd.prog 37 #[.slice (some a) xs.length c, .slice (some ⟨b2, 0, none⟩) 1 d] w fun e w' => ∃ vs, e = .returned (.slice (some ⟨w.heap.size, 0, none⟩) vs.length vs.length) ∧ PVs w vs (pieces xs) ∧ w' = w.alloc (.cells vs.toArray 22) := by
 have HC := Aside0.mk (genSplit_calls a c b2 d xs w hr hc hcap hn hc2)
 clear hr hc hcap hn hc2
 go_enter Tryd.func37, Tryd.ntmps37
 go_wp2_with fail
 refine HC.out.mono ?_
 rintro e w' ⟨vs, rfl, h1, rfl⟩
 go_wp2_with fail
 go_ret
 exact ⟨vs, rfl, h1, rfl⟩
end
section
open Go.Shelf
theorem containsFunc_calls (vs : List Value) (ps : List (List Int)) (B : Nat) (w : World) (h : PVs w vs ps) (hl : vs.length ≤ 1000) (hb : w.heap[B]? = some (.cells vs.toArray 22 (0, 0))) :
  Calls Tryd.prog 38 #[.slice (some ⟨B, 0, none⟩) vs.length vs.length, .func (.func 39) #[] #[]] w fun e w' => e = .returned (.bool (ps.any fun p => !nameB p)) ∧ Below w.heap.size w w' := by
 let α := { x : Value × List Int // PV w x.1 x.2 }
 have hz : PV w (.slice none 0 0) [] := ⟨none, 0, rfl, Nat.le_refl _, Kd.C_of_reads (d := (0 : Int)) (h1 := fun _ => rfl) (ReadsInt.nil _ _)⟩
 haveI : Inhabited α := ⟨⟨(.slice none 0 0, []), hz⟩⟩
 have H : ∀ x ∈ vs.zip ps, PV w x.1 x.2 := by
  intro x hx
  obtain ⟨j, hj, rfl⟩ := List.getElem_of_mem hx
  have h1 : j < vs.length := by simp at hj; omega
  have h2 : j < ps.length := by simp at hj; omega
  have := h.2 j vs[j] ps[j] (List.getElem?_eq_getElem h1) (List.getElem?_eq_getElem h2)
  simpa using this
 let zs : List α := (vs.zip ps).pmap (fun x hx => (⟨x, hx⟩ : α)) H
 have hzl : zs.length = vs.length := by simp [zs, h.1]
 have hat : ∀ j, (hj : j < zs.length) → (zs[j]!).1.1 = vs[j]'(by omega) ∧ (zs[j]!).1.2 = ps[j]'(by have := h.1; omega) := by
  intro j hj
  rw [getElem!_pos zs j hj]
  simp [zs]
 have hp : PredAt Tryd.prog 39 #[] (fun x : α => x.1.1) (fun x : α => !nameB x.1.2) w := by
  intro W x hW
  obtain ⟨A, c, e, hc, hr⟩ := x.2
  show Calls Tryd.prog 39 (#[x.1.1] ++ #[]) W _
  rw [e]
  refine (nameNot_calls A c x.1.2 W (Kd.C_below hr hW) hc).mono ?_
  rintro e w' ⟨rfl, hw⟩
  exact ⟨rfl, 0, hw⟩
 have eg : ∀ args W, (callFunc 39 args).run Tryd.prog W = .ok (.enter 39 args) W := enters_of Tryd.func39 (by kernel_rfl) rfl
 have hc : ∀ j, j < zs.length → w.cell? ⟨B, 0 + j, none⟩ = some ((fun x : α => x.1.1) zs[j]!) := by
  intro j hj
  have := blk_cell hb j
  simp only [Nat.zero_add]
  rw [this, (hat j hj).1]
  simp [List.getElem?_eq_getElem (show j < vs.length by omega)]
 refine (AnyE.slices_ContainsFunc Tryd.laysCF (fun x : α => x.1.1) (fun x : α => !nameB x.1.2) 39 #[] eg B 0 vs.length vs.length zs w hp (by omega) (by omega) hc).mono ?_
 rintro e w' ⟨rfl, q, rfl⟩
 refine ⟨?_, pw_below_drewN (Below.refl _ _) q⟩
 have e1 : zs.take vs.length = zs := by rw [← hzl, List.take_length]
 rw [e1]
 have e2 : ps.any (fun p => !nameB p) = zs.any (fun x => !nameB x.1.2) := by
  have e3 : ps = zs.map (fun x => x.1.2) := by
   apply List.ext_getElem
   ·
    rw [List.length_map, hzl, h.1]
   ·
    intro j h1 h2
    rw [List.getElem_map]
    simp [zs]
  conv => lhs; rw [e3]
  rw [List.any_map]
  rfl
 rw [e2]
def bytesB (l : List Int) : Bool := l.all fun x => decide (0 ≤ x) && decide (x < 256)
theorem bytesB_iff {l : List Int} : bytesB l = true ↔ ∀ x ∈ l, 0 ≤ x ∧ x < 256 := by
 unfold bytesB
 simp [List.all_eq_true]
def impl_ValidPath.f (l : List Int) : Option Bool := if bytesB l then some (pathB l) else none
set_option maxHeartbeats 4000000 in
set_option maxRecDepth 100000 in
theorem impl_ValidPath_calls (A : Option Addr) (c : Nat) (l : List Int) (w : World) (h : Kd.C (Kd.int .u8) w A l.length l) (hc : l.length ≤ c) (hr : ∀ x ∈ l, 0 ≤ x ∧ x < 256) :
  Calls Tryd.prog 11 #[.slice A l.length c] w fun e w' => e = .returned (.bool (pathB l)) ∧ Below w.heap.size w w' := by
 by_cases h2 : l.length < 2
 ·
  have e : pathB l = false := Bool.eq_false_iff.2 fun h => by have := (pathB_len l h).1; omega
  have d1 : decide ((l.length : Int) < 2) = true := decide_eq_true (by omega)
  rw [e]
  clear e h hr
  go_enter Tryd.func11, Tryd.ntmps11
  go_wp2_with fail
  go_ret
  exact ⟨rfl, Below.refl _ _⟩
 obtain ⟨x, r, rfl⟩ : ∃ x r, l = x :: r := by cases l with | nil => simp at h2 | cons x r => exact ⟨x, r, rfl⟩
 obtain ⟨ad, rfl, hx⟩ := Kd.at_int h 0 (by omega) (by simp only [List.length_cons]; omega)
 replace hx : w.cell? ad = some (.int .u8 x) := hx
 have HX := Aside0.mk (show x = x from rfl)
 by_cases h47 : x = 47
 case neg =>
  have e : pathB (x :: r) = false := by unfold pathB; simp [h47]
  rw [e]
  have hlen : ¬ ((x :: r).length < 2) := h2
  generalize (x :: r).length = L at *
  have d1 : decide ((L : Int) < 2) = false := decide_eq_false (by omega)
  have d2 : decide (x = 47) = false := decide_eq_false h47
  have d3 : (x != 47) = true := by simpa using h47
  have d4 : (0 : Int) < (L : Int) := by omega
  clear e hr h h47 HX hlen h2
  go_enter Tryd.func11, Tryd.ntmps11
  go_wp2_with fail
  go_ret
  exact ⟨rfl, Below.refl _ _⟩
 subst h47
 by_cases h136 : 136 < (47 :: r : List Int).length
 ·
  have e : pathB (47 :: r) = false := Bool.eq_false_iff.2 fun h => by have := (pathB_len _ h).2; omega
  rw [e]
  generalize (47 :: r : List Int).length = L at *
  have d1 : decide ((L : Int) < 2) = false := decide_eq_false (by omega)
  have d2 : decide ((136 : Int) < (L : Int)) = true := decide_eq_true (by omega)
  have d4 : (0 : Int) < (L : Int) := by omega
  clear e hr h HX h2
  go_enter Tryd.func11, Tryd.ntmps11
  go_wp2_with fail
  go_ret
  exact ⟨rfl, Below.refl _ _⟩
 obtain ⟨i0, hi0, _, hsz0, _⟩ := info_parts info5
 obtain ⟨A6, hcut6, hA6, hC6⟩ := print_drop_of (P := Tryd.prog) (Value.int .u8) 0 22 5 .i64 Tryd.underlying22 hi0 hsz0 (some ad) c (47 :: r) 1 (by omega) (by simp only [List.length_cons]; omega) hc
 have hrd := hA6 _ (Kd.reads_of_C h)
 have e1 : (47 :: r : List Int).drop (1 : Int).toNat = r := rfl
 rw [e1] at hcut6 hrd hC6
 rw [show (1 : Int).toNat = 1 from rfl] at hcut6 hC6
 have hrl : 0 < r.length := by simp only [List.length_cons] at h2; omega
 have hr136 : r.length ≤ 1000 := by simp only [List.length_cons] at h136; omega
 obtain ⟨a6, rfl, hcell6⟩ := hrd.2.2 hrl
 have HR := Aside0.mk (show ∀ x ∈ r, 0 ≤ x ∧ x < 256 from fun x hx => hr x (by simp [hx]))
 have HC6 := Aside0.mk hC6
 have HCE := Aside0.mk hcell6
 have HLL := Aside0.mk (And.intro hrl hr136)
 have kc := fun (w : World) (C : Array Value) (n c : Nat) => Lib.run_convert_bytes_const (P := Tryd.prog) w 22 5 C n c Tryd.underlying22 Tryd.underlying5
 obtain ⟨L, hL⟩ : ∃ L, (47 :: r : List Int).length = L := ⟨_, rfl⟩
 rw [hL] at hcut6 h2 h136 ⊢
 have d1 : decide ((L : Int) < 2) = false := decide_eq_false (by omega)
 have d2 : decide ((136 : Int) < (L : Int)) = false := decide_eq_false (by omega)
 have d4 : (0 : Int) < (L : Int) := by omega
 have hPB : Aside0 (pathB (47 :: r) = (decide ((pieces r).length ≤ 8) && (pieces r).all nameB)) := ⟨rfl⟩
 clear h hr hc hi0 hsz0 hA6 hrd hL hC6 hcell6 hrl hr136 h2 h136 e1 HX
 go_enter Tryd.func11, Tryd.ntmps11
 go_wp2_with fail
 have hbA : Below w.heap.size w (w.alloc (.cells #[.int .u8 47] 5 (1, 2))) := (Below.refl _ w).alloc (Nat.le_refl _) _
 refine (split_calls a6 (c - 1) w.heap.size 1 r _ HR.out (fun i hi => Lib.cell?_alloc_marked _ (HCE.out i hi)) HC6.out HLL.out.2 (World.cell?_alloc_mark w #[.int .u8 47] 5 (1, 2) 0)).mono ?_
 rintro e w1 ⟨vs, rfl, hv, hw1⟩
 subst hw1
 have hbB := below_alloc (Below.refl (w.alloc (.cells #[.int .u8 47] 5 (1, 2))).heap.size (w.alloc (.cells #[.int .u8 47] 5 (1, 2)))) (.cells vs.toArray 22)
 have hb1 := below_step hbA hbB
 have hvl : vs.length = (pieces r).length := hv.1
 have hpl : (pieces r).length ≤ 1001 := by
  have h1 := pieces_count r
  have h2 : r.count 47 ≤ r.length := List.count_le_length
  have := HLL.out.2
  omega
 obtain ⟨n, hn⟩ : ∃ n, vs.length = n := ⟨_, rfl⟩
 by_cases h8 : 8 < n
 ·
  have e : pathB (47 :: r) = false := by rw [hPB.out, decide_eq_false (show ¬ (pieces r).length ≤ 8 by omega)]; rfl
  have d5 : decide ((n : Int) ≤ 8) = false := decide_eq_false (by omega)
  have HE := Aside0.mk e
  rw [hn]
  clear e hv hvl hpl h8 d1 d2 d4
  go_wp2_with fail
  go_ret
  rw [HE.out]
  exact ⟨rfl, hb1⟩
 ·
  have d5 : decide ((n : Int) ≤ 8) = true := decide_eq_true (by omega)
  have hbl : (((w.alloc (.cells #[.int .u8 47] 5 (1, 2))).alloc (.cells vs.toArray 22))).heap[w.heap.size + 1]? = some (.cells vs.toArray 22 (0, 0)) := by
   have := blk_new (w.alloc (.cells #[.int .u8 47] 5 (1, 2))) (.cells vs.toArray 22)
   simpa using this
  have HCF := Aside0.mk (containsFunc_calls vs (pieces r) (w.heap.size + 1) _ (show PVs ((w.alloc (.cells #[.int .u8 47] 5 (1, 2))).alloc (.cells vs.toArray 22)) vs (pieces r) from ⟨hv.1, fun j v p h1 h2 => by obtain ⟨A, c, e, hc, hr⟩ := hv.2 j v p h1 h2; exact ⟨A, c, e, hc, Kd.C_below hr hbB⟩⟩) (by omega) hbl)
  have hPB2 := Aside0.mk (show pathB (47 :: r) = !((pieces r).any fun p => !nameB p) by
   rw [hPB.out, decide_eq_true (show (pieces r).length ≤ 8 by omega), Bool.true_and]
   simp [List.all_eq_not_any_not])
  rw [hn] at HCF ⊢
  clear hv hvl hpl h8 d1 d2 d4 hPB hbl
  generalize ((pieces r).any fun p => !nameB p) = ab at *
  go_wp2_with fail
  refine HCF.out.mono ?_
  rintro e w2 ⟨rfl, hb2⟩
  have hb3 := below_step hb1 hb2
  go_wp2_with fail
  go_ret
  rw [hPB2.out]
  exact ⟨rfl, hb3⟩
theorem impl_ValidPath.calls (A0 : Option Addr) (c0 : Nat) (l0 : List Int) (r : Bool) (w : World) (hr0 : Kd.C (Kd.int .u8) w A0 l0.length l0) (hc0 : l0.length ≤ c0) (h : impl_ValidPath.f l0 = some r) :
  Calls Tryd.prog 11 #[.slice A0 l0.length c0] w fun e w' => e = .returned (.bool r) ∧ Below w.heap.size w w' := by
 unfold impl_ValidPath.f at h
 split at h
 ·
  rename_i hb
  have := Option.some.inj h
  subst this
  exact impl_ValidPath_calls A0 c0 l0 w hr0 hc0 (bytesB_iff.1 hb)
 ·
  cases h
end
end Go.Proofs.YtbgbocdohadhoaaDoor.Print
