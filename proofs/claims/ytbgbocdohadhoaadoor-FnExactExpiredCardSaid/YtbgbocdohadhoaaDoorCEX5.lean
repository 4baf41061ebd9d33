/- Texts of this session, joined by its own program. -/
import Derived.Laws.Cover1
import Derived.Test.YtbgbocdohadhoaaDoorCEX4
namespace Go.Proofs.YtbgbocdohadhoaaDoor.Print
open Go Go.RowKit Go.Proofs.YtbgbocdohadhoaaDoorW.PrintWords Go.Proofs.YtbgbocdohadhoaaDoorW.PrintLast Go.Proofs.YtbgbocdohadhoaaDoorW.PrintMore
set_option linter.unusedVariables false
set_option linter.unusedSimpArgs false
def spec_l3lockOK.j0 : Nat → Bool → List Int → List Int → Int → Int → List Int → Int → Int → List Int → Option (Bool)
 | 0, _, _, _, _, _, _, _, _, _ => none
 | k + 1, x38, x190000, x190001, x190002, x190003, x190004, x190005, x190006, x190007 => if x38 = true then (some false) else (if x190003 = 0 then (some ((x190004.length : Int) == 0)) else (if x190003 = 2 then (some (decide ((x190004.length : Int) ≥ 1))) else (some false)))
def spec_l3lockOK.f (k : Nat) (a0_0 : Int) (a0_1 : Int) (a0_2 : Int) (a0_3 : Int) (l0_4 : List (S70)) (l0_5 : List (S76)) (l1_0 : List Int) (l1_1 : List Int) (a1_2 : Int) (a1_3 : Int) (l1_4 : List Int) (a1_5 : Int) (a1_6 : Int) (l1_7 : List Int) : Option (Bool) := if a1_3 = 1 then (if (l1_4.length : Int) = 1 then (if a1_6 ≥ 1 then (if a1_6 ≤ a0_1 then (some (decide (a1_5 ≤ a0_0))) else (some false)) else (some false)) else (some false)) else (if a1_5 = 0 then (spec_l3lockOK.j0 k (a1_6 != 0) l1_0 l1_1 a1_2 a1_3 l1_4 a1_5 a1_6 l1_7) else (spec_l3lockOK.j0 k true l1_0 l1_1 a1_2 a1_3 l1_4 a1_5 a1_6 l1_7))
set_option maxHeartbeats 8000000 in
set_option maxRecDepth 100000 in
theorem spec_l3lockOK.calls (k : Nat) (a0_0 : Int) (a0_1 : Int) (a0_2 : Int) (a0_3 : Int) (A0_4 : Option Addr) (c0_4 : Nat) (l0_4 : List (S70)) (A0_5 : Option Addr) (c0_5 : Nat) (l0_5 : List (S76)) (A1_0 : Option Addr) (c1_0 : Nat) (l1_0 : List Int) (A1_1 : Option Addr) (c1_1 : Nat) (l1_1 : List Int) (a1_2 : Int) (a1_3 : Int) (A1_4 : Option Addr) (c1_4 : Nat) (l1_4 : List Int) (a1_5 : Int) (a1_6 : Int) (A1_7 : Option Addr) (c1_7 : Nat) (l1_7 : List Int) (r : Bool) (w : World) (hr0_4 : Kd.C k70 w A0_4 l0_4.length l0_4) (hc0_4 : l0_4.length ≤ c0_4) (hr0_5 : Kd.C k76 w A0_5 l0_5.length l0_5) (hc0_5 : l0_5.length ≤ c0_5) (hr1_0 : Kd.C (Kd.int .u8) w A1_0 l1_0.length l1_0) (hc1_0 : l1_0.length ≤ c1_0) (hr1_1 : Kd.C (Kd.int .u8) w A1_1 l1_1.length l1_1) (hc1_1 : l1_1.length ≤ c1_1) (hr1_4 : Kd.C (Kd.int .u64) w A1_4 l1_4.length l1_4) (hc1_4 : l1_4.length ≤ c1_4) (hr1_7 : Kd.C (Kd.int .u64) w A1_7 l1_7.length l1_7) (hc1_7 : l1_7.length ≤ c1_7) (h : spec_l3lockOK.f k a0_0 a0_1 a0_2 a0_3 l0_4 l0_5 l1_0 l1_1 a1_2 a1_3 l1_4 a1_5 a1_6 l1_7 = some r) :
  Calls Tryd.prog 96 #[.agg #[.int .u64 a0_0, .int .u64 a0_1, .int .u64 a0_2, .int .i64 a0_3, .slice A0_4 l0_4.length c0_4, .slice A0_5 l0_5.length c0_5], .agg #[.slice A1_0 l1_0.length c1_0, .slice A1_1 l1_1.length c1_1, .int .u64 a1_2, .int .i64 a1_3, .slice A1_4 l1_4.length c1_4, .int .u64 a1_5, .int .u64 a1_6, .slice A1_7 l1_7.length c1_7]] w fun e w' => e = .returned (.bool r) ∧ Below w.heap.size w w' := by
 have hu36 := Tryd.underlying36
 have hu76 := Tryd.underlying76
 have HR0_4 := Aside0.mk hr0_4
 have HC0_4 := Aside0.mk hc0_4
 clear hr0_4 hc0_4
 have HR0_5 := Aside0.mk hr0_5
 have HC0_5 := Aside0.mk hc0_5
 clear hr0_5 hc0_5
 have HR1_0 := Aside0.mk hr1_0
 have HC1_0 := Aside0.mk hc1_0
 clear hr1_0 hc1_0
 have HR1_1 := Aside0.mk hr1_1
 have HC1_1 := Aside0.mk hc1_1
 clear hr1_1 hc1_1
 have HR1_4 := Aside0.mk hr1_4
 have HC1_4 := Aside0.mk hc1_4
 clear hr1_4 hc1_4
 have HR1_7 := Aside0.mk hr1_7
 have HC1_7 := Aside0.mk hc1_7
 clear hr1_7 hc1_7
 have HB := Aside0.mk (Below.refl w.heap.size w)
 have H : (if a1_3 = 1 then (if (l1_4.length : Int) = 1 then (if a1_6 ≥ 1 then (if a1_6 ≤ a0_1 then (some (decide (a1_5 ≤ a0_0))) else (some false)) else (some false)) else (some false)) else (if a1_5 = 0 then (spec_l3lockOK.j0 k (a1_6 != 0) l1_0 l1_1 a1_2 a1_3 l1_4 a1_5 a1_6 l1_7) else (spec_l3lockOK.j0 k true l1_0 l1_1 a1_2 a1_3 l1_4 a1_5 a1_6 l1_7))) = some r := h
 clear h
 by_cases c3 : a1_3 = 1
 ·
  rw [if_pos c3] at H
  have c3b0 : (a1_3 == 1) = true := beq_iff_eq.mpr c3
  have c3b1 : (a1_3 != 1) = false := bne_eq_false_iff_eq.mpr c3
  clear c3
  by_cases c4 : (l1_4.length : Int) = 1
  ·
   rw [if_pos c4] at H
   have c4b0 : ((l1_4.length : Int) == 1) = true := beq_iff_eq.mpr c4
   have c4b1 : ((l1_4.length : Int) != 1) = false := bne_eq_false_iff_eq.mpr c4
   clear c4
   by_cases c5 : a1_6 ≥ 1
   ·
    rw [if_pos c5] at H
    have c5b0 : decide (1 ≤ a1_6) = true := decide_eq_true c5
    clear c5
    by_cases c6 : a1_6 ≤ a0_1
    ·
     rw [if_pos c6] at H
     have c6b0 : decide (a1_6 ≤ a0_1) = true := decide_eq_true c6
     clear c6
     obtain rfl := Option.some.inj H
     go_enter Tryd.func96, Tryd.ntmps96
     go_wp2_with (first | ((with_reducible refine gate_dst (N := 2) rfl ?_); (try (refine gate_guard (by rfl) ?_; dsimp only)); refine box_event ?hg (N := 2) ?hd (cs := #[.int .u64 a0_0, .int .u64 a0_1, .int .u64 a0_2, .int .i64 a0_3, .slice A0_4 l0_4.length c0_4, .slice A0_5 l0_5.length c0_5]) (t := 36) ?hr ?_; (case hd => rfl); (case hg => rfl); (case hr => first | (go_simp; done) | (go_simp; rfl)); intro gb188 hg w7 hbox hb; have n0_ := Aside0.mk (below_step (by repeat (first | (with_reducible first | exact HB.out | apply below_alloc | apply pw_below_drewN | apply below_drew1) | exact HB.out)) hb); have n1_ := Aside0.mk (hbox); have n2_ := Aside0.mk ((by rw [hg]; exact (below_size (by repeat (first | (with_reducible first | exact HB.out | apply below_alloc | apply pw_below_drewN | apply below_drew1) | exact HB.out))) : w.heap.size ≤ gb188)); have n3_ := Aside0.mk ((by rw [hg]; exact (below_size (by repeat (first | (with_reducible first | exact HB.out | apply below_alloc | apply pw_below_drewN | apply below_drew1) | exact HB.out))) : w.heap.size ≤ gb188)); clear HB; have HB := n0_; have BK188 := n1_; have GW188 := n2_; have GE188 := n3_; clear n0_ n1_ n2_ n3_; clear hb hbox hg) | ((with_reducible refine gate_dst (N := 3) rfl ?_); (try (refine gate_guard (by rfl) ?_; dsimp only)); refine box_event ?hg (N := 3) ?hd (cs := #[.slice A1_0 l1_0.length c1_0, .slice A1_1 l1_1.length c1_1, .int .u64 a1_2, .int .i64 a1_3, .slice A1_4 l1_4.length c1_4, .int .u64 a1_5, .int .u64 a1_6, .slice A1_7 l1_7.length c1_7]) (t := 76) ?hr ?_; (case hd => rfl); (case hg => rfl); (case hr => first | (go_simp; done) | (go_simp; rfl)); intro gb189 hg w8 hbox hb; have n0_ := Aside0.mk (blk_below (g := gb188) (o := .cells #[.int .u64 a0_0, .int .u64 a0_1, .int .u64 a0_2, .int .i64 a0_3, .slice A0_4 l0_4.length c0_4, .slice A0_5 l0_5.length c0_5] 36 (0, 0)) (by (with_reducible repeat (first | refine blk_drewN ?_ _ | refine blk_drew ?_ | refine blk_alloc ?_ _)); exact BK188.out) hb); have n1_ := Aside0.mk (below_step (by repeat (first | (with_reducible first | exact HB.out | apply below_alloc | apply pw_below_drewN | apply below_drew1 | refine below_set ?_ GE188.out) | exact HB.out)) hb); have n2_ := Aside0.mk (hbox); have n3_ := Aside0.mk ((by rw [hg]; exact (below_size (by repeat (first | (with_reducible first | exact HB.out | apply below_alloc | apply pw_below_drewN | apply below_drew1 | refine below_set ?_ GE188.out) | exact HB.out))) : w.heap.size ≤ gb189)); have n4_ := Aside0.mk ((by rw [hg]; exact (below_size (by repeat (first | (with_reducible first | exact HB.out | apply below_alloc | apply pw_below_drewN | apply below_drew1 | refine below_set ?_ GE188.out) | exact HB.out))) : w.heap.size ≤ gb189)); have n5_ := Aside0.mk ((by rw [hg]; exact Nat.ne_of_lt (blk_lt (g := gb188) (o := .cells #[.int .u64 a0_0, .int .u64 a0_1, .int .u64 a0_2, .int .i64 a0_3, .slice A0_4 l0_4.length c0_4, .slice A0_5 l0_5.length c0_5] 36 (0, 0)) (by (with_reducible repeat (first | refine blk_drewN ?_ _ | refine blk_drew ?_ | refine blk_alloc ?_ _)); exact BK188.out)) : gb188 ≠ gb189)); have n6_ := Aside0.mk ((by rw [hg]; exact Nat.ne_of_gt (blk_lt (g := gb188) (o := .cells #[.int .u64 a0_0, .int .u64 a0_1, .int .u64 a0_2, .int .i64 a0_3, .slice A0_4 l0_4.length c0_4, .slice A0_5 l0_5.length c0_5] 36 (0, 0)) (by (with_reducible repeat (first | refine blk_drewN ?_ _ | refine blk_drew ?_ | refine blk_alloc ?_ _)); exact BK188.out)) : gb189 ≠ gb188)); clear BK188; clear HB; have BK188 := n0_; have HB := n1_; have BK189 := n2_; have GW189 := n3_; have GE189 := n4_; have NB188_189 := n5_; have NB189_188 := n6_; clear n0_ n1_ n2_ n3_ n4_ n5_ n6_; clear hb hbox hg; have hnb9 := NB189_188.out; have hnc9 := NB188_189.out; have hcz10_0 : w8.cell? ⟨gb189, 0, none⟩ = some (.slice A1_0 l1_0.length c1_0) := (blk_cell BK189.out 0).trans rfl; have hcz10_1 : w8.cell? ⟨gb189, 1, none⟩ = some (.slice A1_1 l1_1.length c1_1) := (blk_cell BK189.out 1).trans rfl; have hcz10_2 : w8.cell? ⟨gb189, 2, none⟩ = some (.int .u64 a1_2) := (blk_cell BK189.out 2).trans rfl; have hcz10_3 : w8.cell? ⟨gb189, 3, none⟩ = some (.int .i64 a1_3) := (blk_cell BK189.out 3).trans rfl; have hcz10_4 : w8.cell? ⟨gb189, 4, none⟩ = some (.slice A1_4 l1_4.length c1_4) := (blk_cell BK189.out 4).trans rfl; have hcz10_5 : w8.cell? ⟨gb189, 5, none⟩ = some (.int .u64 a1_5) := (blk_cell BK189.out 5).trans rfl; have hcz10_6 : w8.cell? ⟨gb189, 6, none⟩ = some (.int .u64 a1_6) := (blk_cell BK189.out 6).trans rfl; have hcz10_7 : w8.cell? ⟨gb189, 7, none⟩ = some (.slice A1_7 l1_7.length c1_7) := (blk_cell BK189.out 7).trans rfl; have hfz10_0 := blk_frozen BK189.out 0; have hfz10_1 := blk_frozen BK189.out 1; have hfz10_2 := blk_frozen BK189.out 2; have hfz10_3 := blk_frozen BK189.out 3; have hfz10_4 := blk_frozen BK189.out 4; have hfz10_5 := blk_frozen BK189.out 5; have hfz10_6 := blk_frozen BK189.out 6; have hfz10_7 := blk_frozen BK189.out 7; have hcz11_0 : w8.cell? ⟨gb188, 0, none⟩ = some (.int .u64 a0_0) := (blk_cell BK188.out 0).trans rfl; have hcz11_1 : w8.cell? ⟨gb188, 1, none⟩ = some (.int .u64 a0_1) := (blk_cell BK188.out 1).trans rfl; have hcz11_2 : w8.cell? ⟨gb188, 2, none⟩ = some (.int .u64 a0_2) := (blk_cell BK188.out 2).trans rfl; have hcz11_3 : w8.cell? ⟨gb188, 3, none⟩ = some (.int .i64 a0_3) := (blk_cell BK188.out 3).trans rfl; have hcz11_4 : w8.cell? ⟨gb188, 4, none⟩ = some (.slice A0_4 l0_4.length c0_4) := (blk_cell BK188.out 4).trans rfl; have hcz11_5 : w8.cell? ⟨gb188, 5, none⟩ = some (.slice A0_5 l0_5.length c0_5) := (blk_cell BK188.out 5).trans rfl; have hfz11_0 := blk_frozen BK188.out 0; have hfz11_1 := blk_frozen BK188.out 1; have hfz11_2 := blk_frozen BK188.out 2; have hfz11_3 := blk_frozen BK188.out 3; have hfz11_4 := blk_frozen BK188.out 4; have hfz11_5 := blk_frozen BK188.out 5))
     go_ret
     exact ⟨by first | rfl | (simp [errW_none, errW_some] <;> rfl) | (simp [*, errW_none, errW_some] <;> rfl), by repeat (first | (with_reducible first | exact HB.out | apply below_alloc | apply pw_below_drewN | apply below_drew1 | refine below_set ?_ GE188.out | refine below_set ?_ GE189.out) | exact HB.out)⟩
    ·
     rw [if_neg c6] at H
     have c6b0 : decide (a1_6 ≤ a0_1) = false := decide_eq_false c6
     clear c6
     obtain rfl := Option.some.inj H
     go_enter Tryd.func96, Tryd.ntmps96
     go_wp2_with (first | ((with_reducible refine gate_dst (N := 2) rfl ?_); (try (refine gate_guard (by rfl) ?_; dsimp only)); refine box_event ?hg (N := 2) ?hd (cs := #[.int .u64 a0_0, .int .u64 a0_1, .int .u64 a0_2, .int .i64 a0_3, .slice A0_4 l0_4.length c0_4, .slice A0_5 l0_5.length c0_5]) (t := 36) ?hr ?_; (case hd => rfl); (case hg => rfl); (case hr => first | (go_simp; done) | (go_simp; rfl)); intro gb188 hg w12 hbox hb; have n0_ := Aside0.mk (below_step (by repeat (first | (with_reducible first | exact HB.out | apply below_alloc | apply pw_below_drewN | apply below_drew1) | exact HB.out)) hb); have n1_ := Aside0.mk (hbox); have n2_ := Aside0.mk ((by rw [hg]; exact (below_size (by repeat (first | (with_reducible first | exact HB.out | apply below_alloc | apply pw_below_drewN | apply below_drew1) | exact HB.out))) : w.heap.size ≤ gb188)); have n3_ := Aside0.mk ((by rw [hg]; exact (below_size (by repeat (first | (with_reducible first | exact HB.out | apply below_alloc | apply pw_below_drewN | apply below_drew1) | exact HB.out))) : w.heap.size ≤ gb188)); clear HB; have HB := n0_; have BK188 := n1_; have GW188 := n2_; have GE188 := n3_; clear n0_ n1_ n2_ n3_; clear hb hbox hg) | ((with_reducible refine gate_dst (N := 3) rfl ?_); (try (refine gate_guard (by rfl) ?_; dsimp only)); refine box_event ?hg (N := 3) ?hd (cs := #[.slice A1_0 l1_0.length c1_0, .slice A1_1 l1_1.length c1_1, .int .u64 a1_2, .int .i64 a1_3, .slice A1_4 l1_4.length c1_4, .int .u64 a1_5, .int .u64 a1_6, .slice A1_7 l1_7.length c1_7]) (t := 76) ?hr ?_; (case hd => rfl); (case hg => rfl); (case hr => first | (go_simp; done) | (go_simp; rfl)); intro gb189 hg w13 hbox hb; have n0_ := Aside0.mk (blk_below (g := gb188) (o := .cells #[.int .u64 a0_0, .int .u64 a0_1, .int .u64 a0_2, .int .i64 a0_3, .slice A0_4 l0_4.length c0_4, .slice A0_5 l0_5.length c0_5] 36 (0, 0)) (by (with_reducible repeat (first | refine blk_drewN ?_ _ | refine blk_drew ?_ | refine blk_alloc ?_ _)); exact BK188.out) hb); have n1_ := Aside0.mk (below_step (by repeat (first | (with_reducible first | exact HB.out | apply below_alloc | apply pw_below_drewN | apply below_drew1 | refine below_set ?_ GE188.out) | exact HB.out)) hb); have n2_ := Aside0.mk (hbox); have n3_ := Aside0.mk ((by rw [hg]; exact (below_size (by repeat (first | (with_reducible first | exact HB.out | apply below_alloc | apply pw_below_drewN | apply below_drew1 | refine below_set ?_ GE188.out) | exact HB.out))) : w.heap.size ≤ gb189)); have n4_ := Aside0.mk ((by rw [hg]; exact (below_size (by repeat (first | (with_reducible first | exact HB.out | apply below_alloc | apply pw_below_drewN | apply below_drew1 | refine below_set ?_ GE188.out) | exact HB.out))) : w.heap.size ≤ gb189)); have n5_ := Aside0.mk ((by rw [hg]; exact Nat.ne_of_lt (blk_lt (g := gb188) (o := .cells #[.int .u64 a0_0, .int .u64 a0_1, .int .u64 a0_2, .int .i64 a0_3, .slice A0_4 l0_4.length c0_4, .slice A0_5 l0_5.length c0_5] 36 (0, 0)) (by (with_reducible repeat (first | refine blk_drewN ?_ _ | refine blk_drew ?_ | refine blk_alloc ?_ _)); exact BK188.out)) : gb188 ≠ gb189)); have n6_ := Aside0.mk ((by rw [hg]; exact Nat.ne_of_gt (blk_lt (g := gb188) (o := .cells #[.int .u64 a0_0, .int .u64 a0_1, .int .u64 a0_2, .int .i64 a0_3, .slice A0_4 l0_4.length c0_4, .slice A0_5 l0_5.length c0_5] 36 (0, 0)) (by (with_reducible repeat (first | refine blk_drewN ?_ _ | refine blk_drew ?_ | refine blk_alloc ?_ _)); exact BK188.out)) : gb189 ≠ gb188)); clear BK188; clear HB; have BK188 := n0_; have HB := n1_; have BK189 := n2_; have GW189 := n3_; have GE189 := n4_; have NB188_189 := n5_; have NB189_188 := n6_; clear n0_ n1_ n2_ n3_ n4_ n5_ n6_; clear hb hbox hg; have hnb14 := NB189_188.out; have hnc14 := NB188_189.out; have hcz15_0 : w13.cell? ⟨gb189, 0, none⟩ = some (.slice A1_0 l1_0.length c1_0) := (blk_cell BK189.out 0).trans rfl; have hcz15_1 : w13.cell? ⟨gb189, 1, none⟩ = some (.slice A1_1 l1_1.length c1_1) := (blk_cell BK189.out 1).trans rfl; have hcz15_2 : w13.cell? ⟨gb189, 2, none⟩ = some (.int .u64 a1_2) := (blk_cell BK189.out 2).trans rfl; have hcz15_3 : w13.cell? ⟨gb189, 3, none⟩ = some (.int .i64 a1_3) := (blk_cell BK189.out 3).trans rfl; have hcz15_4 : w13.cell? ⟨gb189, 4, none⟩ = some (.slice A1_4 l1_4.length c1_4) := (blk_cell BK189.out 4).trans rfl; have hcz15_5 : w13.cell? ⟨gb189, 5, none⟩ = some (.int .u64 a1_5) := (blk_cell BK189.out 5).trans rfl; have hcz15_6 : w13.cell? ⟨gb189, 6, none⟩ = some (.int .u64 a1_6) := (blk_cell BK189.out 6).trans rfl; have hcz15_7 : w13.cell? ⟨gb189, 7, none⟩ = some (.slice A1_7 l1_7.length c1_7) := (blk_cell BK189.out 7).trans rfl; have hfz15_0 := blk_frozen BK189.out 0; have hfz15_1 := blk_frozen BK189.out 1; have hfz15_2 := blk_frozen BK189.out 2; have hfz15_3 := blk_frozen BK189.out 3; have hfz15_4 := blk_frozen BK189.out 4; have hfz15_5 := blk_frozen BK189.out 5; have hfz15_6 := blk_frozen BK189.out 6; have hfz15_7 := blk_frozen BK189.out 7; have hcz16_0 : w13.cell? ⟨gb188, 0, none⟩ = some (.int .u64 a0_0) := (blk_cell BK188.out 0).trans rfl; have hcz16_1 : w13.cell? ⟨gb188, 1, none⟩ = some (.int .u64 a0_1) := (blk_cell BK188.out 1).trans rfl; have hcz16_2 : w13.cell? ⟨gb188, 2, none⟩ = some (.int .u64 a0_2) := (blk_cell BK188.out 2).trans rfl; have hcz16_3 : w13.cell? ⟨gb188, 3, none⟩ = some (.int .i64 a0_3) := (blk_cell BK188.out 3).trans rfl; have hcz16_4 : w13.cell? ⟨gb188, 4, none⟩ = some (.slice A0_4 l0_4.length c0_4) := (blk_cell BK188.out 4).trans rfl; have hcz16_5 : w13.cell? ⟨gb188, 5, none⟩ = some (.slice A0_5 l0_5.length c0_5) := (blk_cell BK188.out 5).trans rfl; have hfz16_0 := blk_frozen BK188.out 0; have hfz16_1 := blk_frozen BK188.out 1; have hfz16_2 := blk_frozen BK188.out 2; have hfz16_3 := blk_frozen BK188.out 3; have hfz16_4 := blk_frozen BK188.out 4; have hfz16_5 := blk_frozen BK188.out 5))
     go_ret
     exact ⟨by first | rfl | (simp [errW_none, errW_some] <;> rfl) | (simp [*, errW_none, errW_some] <;> rfl), by repeat (first | (with_reducible first | exact HB.out | apply below_alloc | apply pw_below_drewN | apply below_drew1 | refine below_set ?_ GE188.out | refine below_set ?_ GE189.out) | exact HB.out)⟩
   ·
    rw [if_neg c5] at H
    have c5b0 : decide (1 ≤ a1_6) = false := decide_eq_false c5
    clear c5
    obtain rfl := Option.some.inj H
    go_enter Tryd.func96, Tryd.ntmps96
    go_wp2_with (first | ((with_reducible refine gate_dst (N := 2) rfl ?_); (try (refine gate_guard (by rfl) ?_; dsimp only)); refine box_event ?hg (N := 2) ?hd (cs := #[.int .u64 a0_0, .int .u64 a0_1, .int .u64 a0_2, .int .i64 a0_3, .slice A0_4 l0_4.length c0_4, .slice A0_5 l0_5.length c0_5]) (t := 36) ?hr ?_; (case hd => rfl); (case hg => rfl); (case hr => first | (go_simp; done) | (go_simp; rfl)); intro gb188 hg w17 hbox hb; have n0_ := Aside0.mk (below_step (by repeat (first | (with_reducible first | exact HB.out | apply below_alloc | apply pw_below_drewN | apply below_drew1) | exact HB.out)) hb); have n1_ := Aside0.mk (hbox); have n2_ := Aside0.mk ((by rw [hg]; exact (below_size (by repeat (first | (with_reducible first | exact HB.out | apply below_alloc | apply pw_below_drewN | apply below_drew1) | exact HB.out))) : w.heap.size ≤ gb188)); have n3_ := Aside0.mk ((by rw [hg]; exact (below_size (by repeat (first | (with_reducible first | exact HB.out | apply below_alloc | apply pw_below_drewN | apply below_drew1) | exact HB.out))) : w.heap.size ≤ gb188)); clear HB; have HB := n0_; have BK188 := n1_; have GW188 := n2_; have GE188 := n3_; clear n0_ n1_ n2_ n3_; clear hb hbox hg) | ((with_reducible refine gate_dst (N := 3) rfl ?_); (try (refine gate_guard (by rfl) ?_; dsimp only)); refine box_event ?hg (N := 3) ?hd (cs := #[.slice A1_0 l1_0.length c1_0, .slice A1_1 l1_1.length c1_1, .int .u64 a1_2, .int .i64 a1_3, .slice A1_4 l1_4.length c1_4, .int .u64 a1_5, .int .u64 a1_6, .slice A1_7 l1_7.length c1_7]) (t := 76) ?hr ?_; (case hd => rfl); (case hg => rfl); (case hr => first | (go_simp; done) | (go_simp; rfl)); intro gb189 hg w18 hbox hb; have n0_ := Aside0.mk (blk_below (g := gb188) (o := .cells #[.int .u64 a0_0, .int .u64 a0_1, .int .u64 a0_2, .int .i64 a0_3, .slice A0_4 l0_4.length c0_4, .slice A0_5 l0_5.length c0_5] 36 (0, 0)) (by (with_reducible repeat (first | refine blk_drewN ?_ _ | refine blk_drew ?_ | refine blk_alloc ?_ _)); exact BK188.out) hb); have n1_ := Aside0.mk (below_step (by repeat (first | (with_reducible first | exact HB.out | apply below_alloc | apply pw_below_drewN | apply below_drew1 | refine below_set ?_ GE188.out) | exact HB.out)) hb); have n2_ := Aside0.mk (hbox); have n3_ := Aside0.mk ((by rw [hg]; exact (below_size (by repeat (first | (with_reducible first | exact HB.out | apply below_alloc | apply pw_below_drewN | apply below_drew1 | refine below_set ?_ GE188.out) | exact HB.out))) : w.heap.size ≤ gb189)); have n4_ := Aside0.mk ((by rw [hg]; exact (below_size (by repeat (first | (with_reducible first | exact HB.out | apply below_alloc | apply pw_below_drewN | apply below_drew1 | refine below_set ?_ GE188.out) | exact HB.out))) : w.heap.size ≤ gb189)); have n5_ := Aside0.mk ((by rw [hg]; exact Nat.ne_of_lt (blk_lt (g := gb188) (o := .cells #[.int .u64 a0_0, .int .u64 a0_1, .int .u64 a0_2, .int .i64 a0_3, .slice A0_4 l0_4.length c0_4, .slice A0_5 l0_5.length c0_5] 36 (0, 0)) (by (with_reducible repeat (first | refine blk_drewN ?_ _ | refine blk_drew ?_ | refine blk_alloc ?_ _)); exact BK188.out)) : gb188 ≠ gb189)); have n6_ := Aside0.mk ((by rw [hg]; exact Nat.ne_of_gt (blk_lt (g := gb188) (o := .cells #[.int .u64 a0_0, .int .u64 a0_1, .int .u64 a0_2, .int .i64 a0_3, .slice A0_4 l0_4.length c0_4, .slice A0_5 l0_5.length c0_5] 36 (0, 0)) (by (with_reducible repeat (first | refine blk_drewN ?_ _ | refine blk_drew ?_ | refine blk_alloc ?_ _)); exact BK188.out)) : gb189 ≠ gb188)); clear BK188; clear HB; have BK188 := n0_; have HB := n1_; have BK189 := n2_; have GW189 := n3_; have GE189 := n4_; have NB188_189 := n5_; have NB189_188 := n6_; clear n0_ n1_ n2_ n3_ n4_ n5_ n6_; clear hb hbox hg; have hnb19 := NB189_188.out; have hnc19 := NB188_189.out; have hcz20_0 : w18.cell? ⟨gb189, 0, none⟩ = some (.slice A1_0 l1_0.length c1_0) := (blk_cell BK189.out 0).trans rfl; have hcz20_1 : w18.cell? ⟨gb189, 1, none⟩ = some (.slice A1_1 l1_1.length c1_1) := (blk_cell BK189.out 1).trans rfl; have hcz20_2 : w18.cell? ⟨gb189, 2, none⟩ = some (.int .u64 a1_2) := (blk_cell BK189.out 2).trans rfl; have hcz20_3 : w18.cell? ⟨gb189, 3, none⟩ = some (.int .i64 a1_3) := (blk_cell BK189.out 3).trans rfl; have hcz20_4 : w18.cell? ⟨gb189, 4, none⟩ = some (.slice A1_4 l1_4.length c1_4) := (blk_cell BK189.out 4).trans rfl; have hcz20_5 : w18.cell? ⟨gb189, 5, none⟩ = some (.int .u64 a1_5) := (blk_cell BK189.out 5).trans rfl; have hcz20_6 : w18.cell? ⟨gb189, 6, none⟩ = some (.int .u64 a1_6) := (blk_cell BK189.out 6).trans rfl; have hcz20_7 : w18.cell? ⟨gb189, 7, none⟩ = some (.slice A1_7 l1_7.length c1_7) := (blk_cell BK189.out 7).trans rfl; have hfz20_0 := blk_frozen BK189.out 0; have hfz20_1 := blk_frozen BK189.out 1; have hfz20_2 := blk_frozen BK189.out 2; have hfz20_3 := blk_frozen BK189.out 3; have hfz20_4 := blk_frozen BK189.out 4; have hfz20_5 := blk_frozen BK189.out 5; have hfz20_6 := blk_frozen BK189.out 6; have hfz20_7 := blk_frozen BK189.out 7))
    go_ret
    exact ⟨by first | rfl | (simp [errW_none, errW_some] <;> rfl) | (simp [*, errW_none, errW_some] <;> rfl), by repeat (first | (with_reducible first | exact HB.out | apply below_alloc | apply pw_below_drewN | apply below_drew1 | refine below_set ?_ GE188.out | refine below_set ?_ GE189.out) | exact HB.out)⟩
  ·
   rw [if_neg c4] at H
   have c4b0 : ((l1_4.length : Int) == 1) = false := beq_eq_false_iff_ne.mpr c4
   have c4b1 : ((l1_4.length : Int) != 1) = true := bne_iff_ne.mpr c4
   obtain rfl := Option.some.inj H
   go_enter Tryd.func96, Tryd.ntmps96
   go_wp2_with (first | ((with_reducible refine gate_dst (N := 2) rfl ?_); (try (refine gate_guard (by rfl) ?_; dsimp only)); refine box_event ?hg (N := 2) ?hd (cs := #[.int .u64 a0_0, .int .u64 a0_1, .int .u64 a0_2, .int .i64 a0_3, .slice A0_4 l0_4.length c0_4, .slice A0_5 l0_5.length c0_5]) (t := 36) ?hr ?_; (case hd => rfl); (case hg => rfl); (case hr => first | (go_simp; done) | (go_simp; rfl)); intro gb188 hg w21 hbox hb; have n0_ := Aside0.mk (below_step (by repeat (first | (with_reducible first | exact HB.out | apply below_alloc | apply pw_below_drewN | apply below_drew1) | exact HB.out)) hb); have n1_ := Aside0.mk (hbox); have n2_ := Aside0.mk ((by rw [hg]; exact (below_size (by repeat (first | (with_reducible first | exact HB.out | apply below_alloc | apply pw_below_drewN | apply below_drew1) | exact HB.out))) : w.heap.size ≤ gb188)); have n3_ := Aside0.mk ((by rw [hg]; exact (below_size (by repeat (first | (with_reducible first | exact HB.out | apply below_alloc | apply pw_below_drewN | apply below_drew1) | exact HB.out))) : w.heap.size ≤ gb188)); clear HB; have HB := n0_; have BK188 := n1_; have GW188 := n2_; have GE188 := n3_; clear n0_ n1_ n2_ n3_; clear hb hbox hg) | ((with_reducible refine gate_dst (N := 3) rfl ?_); (try (refine gate_guard (by rfl) ?_; dsimp only)); refine box_event ?hg (N := 3) ?hd (cs := #[.slice A1_0 l1_0.length c1_0, .slice A1_1 l1_1.length c1_1, .int .u64 a1_2, .int .i64 a1_3, .slice A1_4 l1_4.length c1_4, .int .u64 a1_5, .int .u64 a1_6, .slice A1_7 l1_7.length c1_7]) (t := 76) ?hr ?_; (case hd => rfl); (case hg => rfl); (case hr => first | (go_simp; done) | (go_simp; rfl)); intro gb189 hg w22 hbox hb; have n0_ := Aside0.mk (blk_below (g := gb188) (o := .cells #[.int .u64 a0_0, .int .u64 a0_1, .int .u64 a0_2, .int .i64 a0_3, .slice A0_4 l0_4.length c0_4, .slice A0_5 l0_5.length c0_5] 36 (0, 0)) (by (with_reducible repeat (first | refine blk_drewN ?_ _ | refine blk_drew ?_ | refine blk_alloc ?_ _)); exact BK188.out) hb); have n1_ := Aside0.mk (below_step (by repeat (first | (with_reducible first | exact HB.out | apply below_alloc | apply pw_below_drewN | apply below_drew1 | refine below_set ?_ GE188.out) | exact HB.out)) hb); have n2_ := Aside0.mk (hbox); have n3_ := Aside0.mk ((by rw [hg]; exact (below_size (by repeat (first | (with_reducible first | exact HB.out | apply below_alloc | apply pw_below_drewN | apply below_drew1 | refine below_set ?_ GE188.out) | exact HB.out))) : w.heap.size ≤ gb189)); have n4_ := Aside0.mk ((by rw [hg]; exact (below_size (by repeat (first | (with_reducible first | exact HB.out | apply below_alloc | apply pw_below_drewN | apply below_drew1 | refine below_set ?_ GE188.out) | exact HB.out))) : w.heap.size ≤ gb189)); have n5_ := Aside0.mk ((by rw [hg]; exact Nat.ne_of_lt (blk_lt (g := gb188) (o := .cells #[.int .u64 a0_0, .int .u64 a0_1, .int .u64 a0_2, .int .i64 a0_3, .slice A0_4 l0_4.length c0_4, .slice A0_5 l0_5.length c0_5] 36 (0, 0)) (by (with_reducible repeat (first | refine blk_drewN ?_ _ | refine blk_drew ?_ | refine blk_alloc ?_ _)); exact BK188.out)) : gb188 ≠ gb189)); have n6_ := Aside0.mk ((by rw [hg]; exact Nat.ne_of_gt (blk_lt (g := gb188) (o := .cells #[.int .u64 a0_0, .int .u64 a0_1, .int .u64 a0_2, .int .i64 a0_3, .slice A0_4 l0_4.length c0_4, .slice A0_5 l0_5.length c0_5] 36 (0, 0)) (by (with_reducible repeat (first | refine blk_drewN ?_ _ | refine blk_drew ?_ | refine blk_alloc ?_ _)); exact BK188.out)) : gb189 ≠ gb188)); clear BK188; clear HB; have BK188 := n0_; have HB := n1_; have BK189 := n2_; have GW189 := n3_; have GE189 := n4_; have NB188_189 := n5_; have NB189_188 := n6_; clear n0_ n1_ n2_ n3_ n4_ n5_ n6_; clear hb hbox hg; have hnb23 := NB189_188.out; have hnc23 := NB188_189.out; have hcz24_0 : w22.cell? ⟨gb189, 0, none⟩ = some (.slice A1_0 l1_0.length c1_0) := (blk_cell BK189.out 0).trans rfl; have hcz24_1 : w22.cell? ⟨gb189, 1, none⟩ = some (.slice A1_1 l1_1.length c1_1) := (blk_cell BK189.out 1).trans rfl; have hcz24_2 : w22.cell? ⟨gb189, 2, none⟩ = some (.int .u64 a1_2) := (blk_cell BK189.out 2).trans rfl; have hcz24_3 : w22.cell? ⟨gb189, 3, none⟩ = some (.int .i64 a1_3) := (blk_cell BK189.out 3).trans rfl; have hcz24_4 : w22.cell? ⟨gb189, 4, none⟩ = some (.slice A1_4 l1_4.length c1_4) := (blk_cell BK189.out 4).trans rfl; have hcz24_5 : w22.cell? ⟨gb189, 5, none⟩ = some (.int .u64 a1_5) := (blk_cell BK189.out 5).trans rfl; have hcz24_6 : w22.cell? ⟨gb189, 6, none⟩ = some (.int .u64 a1_6) := (blk_cell BK189.out 6).trans rfl; have hcz24_7 : w22.cell? ⟨gb189, 7, none⟩ = some (.slice A1_7 l1_7.length c1_7) := (blk_cell BK189.out 7).trans rfl; have hfz24_0 := blk_frozen BK189.out 0; have hfz24_1 := blk_frozen BK189.out 1; have hfz24_2 := blk_frozen BK189.out 2; have hfz24_3 := blk_frozen BK189.out 3; have hfz24_4 := blk_frozen BK189.out 4; have hfz24_5 := blk_frozen BK189.out 5; have hfz24_6 := blk_frozen BK189.out 6; have hfz24_7 := blk_frozen BK189.out 7))
   go_ret
   exact ⟨by first | rfl | (simp [errW_none, errW_some] <;> rfl) | (simp [*, errW_none, errW_some] <;> rfl), by repeat (first | (with_reducible first | exact HB.out | apply below_alloc | apply pw_below_drewN | apply below_drew1 | refine below_set ?_ GE188.out | refine below_set ?_ GE189.out) | exact HB.out)⟩
 ·
  rw [if_neg c3] at H
  have c3b0 : (a1_3 == 1) = false := beq_eq_false_iff_ne.mpr c3
  have c3b1 : (a1_3 != 1) = true := bne_iff_ne.mpr c3
  have HC25 := Aside0.mk H
  clear H
  go_enter Tryd.func96, Tryd.ntmps96
  go_upto_region 3 with (first | ((with_reducible refine gate_dst (N := 2) rfl ?_); (try (refine gate_guard (by rfl) ?_; dsimp only)); refine box_event ?hg (N := 2) ?hd (cs := #[.int .u64 a0_0, .int .u64 a0_1, .int .u64 a0_2, .int .i64 a0_3, .slice A0_4 l0_4.length c0_4, .slice A0_5 l0_5.length c0_5]) (t := 36) ?hr ?_; (case hd => rfl); (case hg => rfl); (case hr => first | (go_simp; done) | (go_simp; rfl)); intro gb188 hg w26 hbox hb; have n0_ := Aside0.mk (below_step (by repeat (first | (with_reducible first | exact HB.out | apply below_alloc | apply pw_below_drewN | apply below_drew1) | exact HB.out)) hb); have n1_ := Aside0.mk (hbox); have n2_ := Aside0.mk ((by rw [hg]; exact (below_size (by repeat (first | (with_reducible first | exact HB.out | apply below_alloc | apply pw_below_drewN | apply below_drew1) | exact HB.out))) : w.heap.size ≤ gb188)); have n3_ := Aside0.mk ((by rw [hg]; exact (below_size (by repeat (first | (with_reducible first | exact HB.out | apply below_alloc | apply pw_below_drewN | apply below_drew1) | exact HB.out))) : w.heap.size ≤ gb188)); clear HB; have HB := n0_; have BK188 := n1_; have GW188 := n2_; have GE188 := n3_; clear n0_ n1_ n2_ n3_; clear hb hbox hg) | ((with_reducible refine gate_dst (N := 3) rfl ?_); (try (refine gate_guard (by rfl) ?_; dsimp only)); refine box_event ?hg (N := 3) ?hd (cs := #[.slice A1_0 l1_0.length c1_0, .slice A1_1 l1_1.length c1_1, .int .u64 a1_2, .int .i64 a1_3, .slice A1_4 l1_4.length c1_4, .int .u64 a1_5, .int .u64 a1_6, .slice A1_7 l1_7.length c1_7]) (t := 76) ?hr ?_; (case hd => rfl); (case hg => rfl); (case hr => first | (go_simp; done) | (go_simp; rfl)); intro gb189 hg w27 hbox hb; have n0_ := Aside0.mk (blk_below (g := gb188) (o := .cells #[.int .u64 a0_0, .int .u64 a0_1, .int .u64 a0_2, .int .i64 a0_3, .slice A0_4 l0_4.length c0_4, .slice A0_5 l0_5.length c0_5] 36 (0, 0)) (by (with_reducible repeat (first | refine blk_drewN ?_ _ | refine blk_drew ?_ | refine blk_alloc ?_ _)); exact BK188.out) hb); have n1_ := Aside0.mk (below_step (by repeat (first | (with_reducible first | exact HB.out | apply below_alloc | apply pw_below_drewN | apply below_drew1 | refine below_set ?_ GE188.out) | exact HB.out)) hb); have n2_ := Aside0.mk (hbox); have n3_ := Aside0.mk ((by rw [hg]; exact (below_size (by repeat (first | (with_reducible first | exact HB.out | apply below_alloc | apply pw_below_drewN | apply below_drew1 | refine below_set ?_ GE188.out) | exact HB.out))) : w.heap.size ≤ gb189)); have n4_ := Aside0.mk ((by rw [hg]; exact (below_size (by repeat (first | (with_reducible first | exact HB.out | apply below_alloc | apply pw_below_drewN | apply below_drew1 | refine below_set ?_ GE188.out) | exact HB.out))) : w.heap.size ≤ gb189)); have n5_ := Aside0.mk ((by rw [hg]; exact Nat.ne_of_lt (blk_lt (g := gb188) (o := .cells #[.int .u64 a0_0, .int .u64 a0_1, .int .u64 a0_2, .int .i64 a0_3, .slice A0_4 l0_4.length c0_4, .slice A0_5 l0_5.length c0_5] 36 (0, 0)) (by (with_reducible repeat (first | refine blk_drewN ?_ _ | refine blk_drew ?_ | refine blk_alloc ?_ _)); exact BK188.out)) : gb188 ≠ gb189)); have n6_ := Aside0.mk ((by rw [hg]; exact Nat.ne_of_gt (blk_lt (g := gb188) (o := .cells #[.int .u64 a0_0, .int .u64 a0_1, .int .u64 a0_2, .int .i64 a0_3, .slice A0_4 l0_4.length c0_4, .slice A0_5 l0_5.length c0_5] 36 (0, 0)) (by (with_reducible repeat (first | refine blk_drewN ?_ _ | refine blk_drew ?_ | refine blk_alloc ?_ _)); exact BK188.out)) : gb189 ≠ gb188)); clear BK188; clear HB; have BK188 := n0_; have HB := n1_; have BK189 := n2_; have GW189 := n3_; have GE189 := n4_; have NB188_189 := n5_; have NB189_188 := n6_; clear n0_ n1_ n2_ n3_ n4_ n5_ n6_; clear hb hbox hg; have hnb28 := NB189_188.out; have hnc28 := NB188_189.out; have hcz29_0 : w27.cell? ⟨gb189, 0, none⟩ = some (.slice A1_0 l1_0.length c1_0) := (blk_cell BK189.out 0).trans rfl; have hcz29_1 : w27.cell? ⟨gb189, 1, none⟩ = some (.slice A1_1 l1_1.length c1_1) := (blk_cell BK189.out 1).trans rfl; have hcz29_2 : w27.cell? ⟨gb189, 2, none⟩ = some (.int .u64 a1_2) := (blk_cell BK189.out 2).trans rfl; have hcz29_3 : w27.cell? ⟨gb189, 3, none⟩ = some (.int .i64 a1_3) := (blk_cell BK189.out 3).trans rfl; have hcz29_4 : w27.cell? ⟨gb189, 4, none⟩ = some (.slice A1_4 l1_4.length c1_4) := (blk_cell BK189.out 4).trans rfl; have hcz29_5 : w27.cell? ⟨gb189, 5, none⟩ = some (.int .u64 a1_5) := (blk_cell BK189.out 5).trans rfl; have hcz29_6 : w27.cell? ⟨gb189, 6, none⟩ = some (.int .u64 a1_6) := (blk_cell BK189.out 6).trans rfl; have hcz29_7 : w27.cell? ⟨gb189, 7, none⟩ = some (.slice A1_7 l1_7.length c1_7) := (blk_cell BK189.out 7).trans rfl; have hfz29_0 := blk_frozen BK189.out 0; have hfz29_1 := blk_frozen BK189.out 1; have hfz29_2 := blk_frozen BK189.out 2; have hfz29_3 := blk_frozen BK189.out 3; have hfz29_4 := blk_frozen BK189.out 4; have hfz29_5 := blk_frozen BK189.out 5; have hfz29_6 := blk_frozen BK189.out 6; have hfz29_7 := blk_frozen BK189.out 7))
  (try simp only [Act.put, List.setIfInBounds_toArray, List.set_cons_zero, List.set_cons_succ])
  go_cut [38] (fun v38 wc => ∃ (kq : Nat) (x38_24 : Bool), v38 = .bool x38_24 ∧ Aside0 (spec_l3lockOK.j0 kq x38_24 l1_0 l1_1 a1_2 a1_3 l1_4 a1_5 a1_6 l1_7 = some r) ∧ Aside0 (kq ≤ k) ∧ Aside0 (wc.heap[gb188]? = some (.cells #[.int .u64 a0_0, .int .u64 a0_1, .int .u64 a0_2, .int .i64 a0_3, (.slice A0_4 l0_4.length c0_4), (.slice A0_5 l0_5.length c0_5)] 36 (0, 0))) ∧ Aside0 (wc.heap[gb189]? = some (.cells #[(.slice A1_0 l1_0.length c1_0), (.slice A1_1 l1_1.length c1_1), .int .u64 a1_2, .int .i64 a1_3, (.slice A1_4 l1_4.length c1_4), .int .u64 a1_5, .int .u64 a1_6, (.slice A1_7 l1_7.length c1_7)] 76 (0, 0))) ∧ Aside0 (Below w.heap.size w wc))
  case first =>
   have H := HC25.out
   clear HC25
   by_cases c30 : a1_5 = 0
   ·
    rw [if_pos c30] at H
    have c30b0 : (a1_5 == 0) = true := beq_iff_eq.mpr c30
    have c30b1 : (a1_5 != 0) = false := bne_eq_false_iff_eq.mpr c30
    clear c30
    (first | rw [c30b0] | (simp only [i64_w, i32_w]; rw [c30b0]) | skip)
    have H' := Aside0.mk H
    clear H
    have hnb31 := NB189_188.out
    have hnc31 := NB188_189.out
    have hcz32_0 : w27.cell? ⟨gb189, 0, none⟩ = some (.slice A1_0 l1_0.length c1_0) := (blk_cell BK189.out 0).trans rfl
    have hcz32_1 : w27.cell? ⟨gb189, 1, none⟩ = some (.slice A1_1 l1_1.length c1_1) := (blk_cell BK189.out 1).trans rfl
    have hcz32_2 : w27.cell? ⟨gb189, 2, none⟩ = some (.int .u64 a1_2) := (blk_cell BK189.out 2).trans rfl
    have hcz32_3 : w27.cell? ⟨gb189, 3, none⟩ = some (.int .i64 a1_3) := (blk_cell BK189.out 3).trans rfl
    have hcz32_4 : w27.cell? ⟨gb189, 4, none⟩ = some (.slice A1_4 l1_4.length c1_4) := (blk_cell BK189.out 4).trans rfl
    have hcz32_5 : w27.cell? ⟨gb189, 5, none⟩ = some (.int .u64 a1_5) := (blk_cell BK189.out 5).trans rfl
    have hcz32_6 : w27.cell? ⟨gb189, 6, none⟩ = some (.int .u64 a1_6) := (blk_cell BK189.out 6).trans rfl
    have hcz32_7 : w27.cell? ⟨gb189, 7, none⟩ = some (.slice A1_7 l1_7.length c1_7) := (blk_cell BK189.out 7).trans rfl
    have hfz32_0 := blk_frozen BK189.out 0
    have hfz32_1 := blk_frozen BK189.out 1
    have hfz32_2 := blk_frozen BK189.out 2
    have hfz32_3 := blk_frozen BK189.out 3
    have hfz32_4 := blk_frozen BK189.out 4
    have hfz32_5 := blk_frozen BK189.out 5
    have hfz32_6 := blk_frozen BK189.out 6
    have hfz32_7 := blk_frozen BK189.out 7
    go_wp2
    go_meet
    case rel => exact ⟨_, ((a1_6 != 0)), (by first | rfl | (simp; done) | (simp [*]; done)), H', ⟨by first | omega | exact Nat.le_refl _⟩, ⟨by (with_reducible repeat (first | refine blk_drewN ?_ _ | refine blk_drew ?_ | refine blk_alloc ?_ _)); exact BK188.out⟩, ⟨by (with_reducible repeat (first | refine blk_drewN ?_ _ | refine blk_drew ?_ | refine blk_alloc ?_ _)); exact BK189.out⟩, ⟨by repeat (first | (with_reducible first | exact HB.out | apply below_alloc | apply pw_below_drewN | apply below_drew1 | refine below_set ?_ GE188.out | refine below_set ?_ GE189.out) | exact HB.out)⟩⟩
   ·
    rw [if_neg c30] at H
    have c30b0 : (a1_5 == 0) = false := beq_eq_false_iff_ne.mpr c30
    have c30b1 : (a1_5 != 0) = true := bne_iff_ne.mpr c30
    (first | rw [c30b0] | (simp only [i64_w, i32_w]; rw [c30b0]) | skip)
    have H' := Aside0.mk H
    clear H
    have hnb33 := NB189_188.out
    have hnc33 := NB188_189.out
    have hcz34_0 : w27.cell? ⟨gb189, 0, none⟩ = some (.slice A1_0 l1_0.length c1_0) := (blk_cell BK189.out 0).trans rfl
    have hcz34_1 : w27.cell? ⟨gb189, 1, none⟩ = some (.slice A1_1 l1_1.length c1_1) := (blk_cell BK189.out 1).trans rfl
    have hcz34_2 : w27.cell? ⟨gb189, 2, none⟩ = some (.int .u64 a1_2) := (blk_cell BK189.out 2).trans rfl
    have hcz34_3 : w27.cell? ⟨gb189, 3, none⟩ = some (.int .i64 a1_3) := (blk_cell BK189.out 3).trans rfl
    have hcz34_4 : w27.cell? ⟨gb189, 4, none⟩ = some (.slice A1_4 l1_4.length c1_4) := (blk_cell BK189.out 4).trans rfl
    have hcz34_5 : w27.cell? ⟨gb189, 5, none⟩ = some (.int .u64 a1_5) := (blk_cell BK189.out 5).trans rfl
    have hcz34_6 : w27.cell? ⟨gb189, 6, none⟩ = some (.int .u64 a1_6) := (blk_cell BK189.out 6).trans rfl
    have hcz34_7 : w27.cell? ⟨gb189, 7, none⟩ = some (.slice A1_7 l1_7.length c1_7) := (blk_cell BK189.out 7).trans rfl
    have hfz34_0 := blk_frozen BK189.out 0
    have hfz34_1 := blk_frozen BK189.out 1
    have hfz34_2 := blk_frozen BK189.out 2
    have hfz34_3 := blk_frozen BK189.out 3
    have hfz34_4 := blk_frozen BK189.out 4
    have hfz34_5 := blk_frozen BK189.out 5
    have hfz34_6 := blk_frozen BK189.out 6
    have hfz34_7 := blk_frozen BK189.out 7
    go_wp2
    go_meet
    case rel => exact ⟨_, (true), (by first | rfl | (simp; done) | (simp [*]; done)), H', ⟨by first | omega | exact Nat.le_refl _⟩, ⟨by (with_reducible repeat (first | refine blk_drewN ?_ _ | refine blk_drew ?_ | refine blk_alloc ?_ _)); exact BK188.out⟩, ⟨by (with_reducible repeat (first | refine blk_drewN ?_ _ | refine blk_drew ?_ | refine blk_alloc ?_ _)); exact BK189.out⟩, ⟨by repeat (first | (with_reducible first | exact HB.out | apply below_alloc | apply pw_below_drewN | apply below_drew1 | refine below_set ?_ GE188.out | refine below_set ?_ GE189.out) | exact HB.out)⟩⟩
  case rest =>
   clear HC25
   try clear c1
   try clear c2
   try clear p2
   try clear c3
   try clear c3b0
   try clear c3b1
   try clear c4
   try clear c4b0
   try clear c4b1
   try clear c5
   try clear c5b0
   try clear c6
   try clear c6b0
   try clear c9
   try clear c14
   try clear c19
   try clear c23
   try clear c28
   try clear c30
   try clear c30b0
   try clear c30b1
   try clear c31
   try clear c33
   try clear hcz10_0
   try clear hcz10_1
   try clear hcz10_2
   try clear hcz10_3
   try clear hcz10_4
   try clear hcz10_5
   try clear hcz10_6
   try clear hcz10_7
   try clear hcz11_0
   try clear hcz11_1
   try clear hcz11_2
   try clear hcz11_3
   try clear hcz11_4
   try clear hcz11_5
   try clear hcz15_0
   try clear hcz15_1
   try clear hcz15_2
   try clear hcz15_3
   try clear hcz15_4
   try clear hcz15_5
   try clear hcz15_6
   try clear hcz15_7
   try clear hcz16_0
   try clear hcz16_1
   try clear hcz16_2
   try clear hcz16_3
   try clear hcz16_4
   try clear hcz16_5
   try clear hcz20_0
   try clear hcz20_1
   try clear hcz20_2
   try clear hcz20_3
   try clear hcz20_4
   try clear hcz20_5
   try clear hcz20_6
   try clear hcz20_7
   try clear hcz24_0
   try clear hcz24_1
   try clear hcz24_2
   try clear hcz24_3
   try clear hcz24_4
   try clear hcz24_5
   try clear hcz24_6
   try clear hcz24_7
   try clear hcz29_0
   try clear hcz29_1
   try clear hcz29_2
   try clear hcz29_3
   try clear hcz29_4
   try clear hcz29_5
   try clear hcz29_6
   try clear hcz29_7
   try clear hcz32_0
   try clear hcz32_1
   try clear hcz32_2
   try clear hcz32_3
   try clear hcz32_4
   try clear hcz32_5
   try clear hcz32_6
   try clear hcz32_7
   try clear hcz34_0
   try clear hcz34_1
   try clear hcz34_2
   try clear hcz34_3
   try clear hcz34_4
   try clear hcz34_5
   try clear hcz34_6
   try clear hcz34_7
   try clear hfz10_0
   try clear hfz10_1
   try clear hfz10_2
   try clear hfz10_3
   try clear hfz10_4
   try clear hfz10_5
   try clear hfz10_6
   try clear hfz10_7
   try clear hfz11_0
   try clear hfz11_1
   try clear hfz11_2
   try clear hfz11_3
   try clear hfz11_4
   try clear hfz11_5
   try clear hfz15_0
   try clear hfz15_1
   try clear hfz15_2
   try clear hfz15_3
   try clear hfz15_4
   try clear hfz15_5
   try clear hfz15_6
   try clear hfz15_7
   try clear hfz16_0
   try clear hfz16_1
   try clear hfz16_2
   try clear hfz16_3
   try clear hfz16_4
   try clear hfz16_5
   try clear hfz20_0
   try clear hfz20_1
   try clear hfz20_2
   try clear hfz20_3
   try clear hfz20_4
   try clear hfz20_5
   try clear hfz20_6
   try clear hfz20_7
   try clear hfz24_0
   try clear hfz24_1
   try clear hfz24_2
   try clear hfz24_3
   try clear hfz24_4
   try clear hfz24_5
   try clear hfz24_6
   try clear hfz24_7
   try clear hfz29_0
   try clear hfz29_1
   try clear hfz29_2
   try clear hfz29_3
   try clear hfz29_4
   try clear hfz29_5
   try clear hfz29_6
   try clear hfz29_7
   try clear hfz32_0
   try clear hfz32_1
   try clear hfz32_2
   try clear hfz32_3
   try clear hfz32_4
   try clear hfz32_5
   try clear hfz32_6
   try clear hfz32_7
   try clear hfz34_0
   try clear hfz34_1
   try clear hfz34_2
   try clear hfz34_3
   try clear hfz34_4
   try clear hfz34_5
   try clear hfz34_6
   try clear hfz34_7
   obtain ⟨kq, x38_24, rfl, HA, HJ24, BK188, BK189, HB⟩ := hcut
   cases kq with
   | zero => exact absurd HA.out (by simp [spec_l3lockOK.j0])
   | succ kj24 =>
    have H := HA.out
    clear HA
    simp only [spec_l3lockOK.j0] at H
    by_cases c35 : x38_24 = true
    ·
     subst c35
     have H1 : (some false) = some r := by first | rfl | (rw [if_pos rfl] at H; exact H)
     clear H
     have H := H1
     clear H1
     obtain rfl := Option.some.inj H
     go_wp2
     go_ret
     exact ⟨by first | rfl | (simp [errW_none, errW_some] <;> rfl) | (simp [*, errW_none, errW_some] <;> rfl), by repeat (first | (with_reducible first | exact HB.out | apply below_alloc | apply pw_below_drewN | apply below_drew1 | refine below_set ?_ GE188.out | refine below_set ?_ GE189.out) | exact HB.out)⟩
    ·
     replace c35 := Bool.eq_false_iff.mpr c35
     subst c35
     have H1 : (if a1_3 = 0 then (some ((l1_4.length : Int) == 0)) else (if a1_3 = 2 then (some (decide ((l1_4.length : Int) ≥ 1))) else (some false))) = some r := by first | rfl | (rw [if_neg (show ¬ (false = true) by decide)] at H; exact H)
     clear H
     have H := H1
     clear H1
     by_cases c36 : a1_3 = 0
     ·
      rw [if_pos c36] at H
      have c36b0 : (a1_3 == 0) = true := beq_iff_eq.mpr c36
      have c36b1 : (a1_3 != 0) = false := bne_eq_false_iff_eq.mpr c36
      clear c36
      obtain rfl := Option.some.inj H
      have hnb37 := NB189_188.out
      have hnc37 := NB188_189.out
      have hcz38_0 : wc.cell? ⟨gb189, 0, none⟩ = some (.slice A1_0 l1_0.length c1_0) := (blk_cell BK189.out 0).trans rfl
      have hcz38_1 : wc.cell? ⟨gb189, 1, none⟩ = some (.slice A1_1 l1_1.length c1_1) := (blk_cell BK189.out 1).trans rfl
      have hcz38_2 : wc.cell? ⟨gb189, 2, none⟩ = some (.int .u64 a1_2) := (blk_cell BK189.out 2).trans rfl
      have hcz38_3 : wc.cell? ⟨gb189, 3, none⟩ = some (.int .i64 a1_3) := (blk_cell BK189.out 3).trans rfl
      have hcz38_4 : wc.cell? ⟨gb189, 4, none⟩ = some (.slice A1_4 l1_4.length c1_4) := (blk_cell BK189.out 4).trans rfl
      have hcz38_5 : wc.cell? ⟨gb189, 5, none⟩ = some (.int .u64 a1_5) := (blk_cell BK189.out 5).trans rfl
      have hcz38_6 : wc.cell? ⟨gb189, 6, none⟩ = some (.int .u64 a1_6) := (blk_cell BK189.out 6).trans rfl
      have hcz38_7 : wc.cell? ⟨gb189, 7, none⟩ = some (.slice A1_7 l1_7.length c1_7) := (blk_cell BK189.out 7).trans rfl
      have hfz38_0 := blk_frozen BK189.out 0
      have hfz38_1 := blk_frozen BK189.out 1
      have hfz38_2 := blk_frozen BK189.out 2
      have hfz38_3 := blk_frozen BK189.out 3
      have hfz38_4 := blk_frozen BK189.out 4
      have hfz38_5 := blk_frozen BK189.out 5
      have hfz38_6 := blk_frozen BK189.out 6
      have hfz38_7 := blk_frozen BK189.out 7
      go_wp2
      go_ret
      exact ⟨by first | rfl | (simp [errW_none, errW_some] <;> rfl) | (simp [*, errW_none, errW_some] <;> rfl), by repeat (first | (with_reducible first | exact HB.out | apply below_alloc | apply pw_below_drewN | apply below_drew1 | refine below_set ?_ GE188.out | refine below_set ?_ GE189.out) | exact HB.out)⟩
     ·
      rw [if_neg c36] at H
      have c36b0 : (a1_3 == 0) = false := beq_eq_false_iff_ne.mpr c36
      have c36b1 : (a1_3 != 0) = true := bne_iff_ne.mpr c36
      by_cases c39 : a1_3 = 2
      ·
       rw [if_pos c39] at H
       have c39b0 : (a1_3 == 2) = true := beq_iff_eq.mpr c39
       have c39b1 : (a1_3 != 2) = false := bne_eq_false_iff_eq.mpr c39
       clear c39
       obtain rfl := Option.some.inj H
       have hnb40 := NB189_188.out
       have hnc40 := NB188_189.out
       have hcz41_0 : wc.cell? ⟨gb189, 0, none⟩ = some (.slice A1_0 l1_0.length c1_0) := (blk_cell BK189.out 0).trans rfl
       have hcz41_1 : wc.cell? ⟨gb189, 1, none⟩ = some (.slice A1_1 l1_1.length c1_1) := (blk_cell BK189.out 1).trans rfl
       have hcz41_2 : wc.cell? ⟨gb189, 2, none⟩ = some (.int .u64 a1_2) := (blk_cell BK189.out 2).trans rfl
       have hcz41_3 : wc.cell? ⟨gb189, 3, none⟩ = some (.int .i64 a1_3) := (blk_cell BK189.out 3).trans rfl
       have hcz41_4 : wc.cell? ⟨gb189, 4, none⟩ = some (.slice A1_4 l1_4.length c1_4) := (blk_cell BK189.out 4).trans rfl
       have hcz41_5 : wc.cell? ⟨gb189, 5, none⟩ = some (.int .u64 a1_5) := (blk_cell BK189.out 5).trans rfl
       have hcz41_6 : wc.cell? ⟨gb189, 6, none⟩ = some (.int .u64 a1_6) := (blk_cell BK189.out 6).trans rfl
       have hcz41_7 : wc.cell? ⟨gb189, 7, none⟩ = some (.slice A1_7 l1_7.length c1_7) := (blk_cell BK189.out 7).trans rfl
       have hfz41_0 := blk_frozen BK189.out 0
       have hfz41_1 := blk_frozen BK189.out 1
       have hfz41_2 := blk_frozen BK189.out 2
       have hfz41_3 := blk_frozen BK189.out 3
       have hfz41_4 := blk_frozen BK189.out 4
       have hfz41_5 := blk_frozen BK189.out 5
       have hfz41_6 := blk_frozen BK189.out 6
       have hfz41_7 := blk_frozen BK189.out 7
       go_wp2
       go_ret
       exact ⟨by first | rfl | (simp [errW_none, errW_some] <;> rfl) | (simp [*, errW_none, errW_some] <;> rfl), by repeat (first | (with_reducible first | exact HB.out | apply below_alloc | apply pw_below_drewN | apply below_drew1 | refine below_set ?_ GE188.out | refine below_set ?_ GE189.out) | exact HB.out)⟩
      ·
       rw [if_neg c39] at H
       have c39b0 : (a1_3 == 2) = false := beq_eq_false_iff_ne.mpr c39
       have c39b1 : (a1_3 != 2) = true := bne_iff_ne.mpr c39
       obtain rfl := Option.some.inj H
       have hnb42 := NB189_188.out
       have hnc42 := NB188_189.out
       have hcz43_0 : wc.cell? ⟨gb189, 0, none⟩ = some (.slice A1_0 l1_0.length c1_0) := (blk_cell BK189.out 0).trans rfl
       have hcz43_1 : wc.cell? ⟨gb189, 1, none⟩ = some (.slice A1_1 l1_1.length c1_1) := (blk_cell BK189.out 1).trans rfl
       have hcz43_2 : wc.cell? ⟨gb189, 2, none⟩ = some (.int .u64 a1_2) := (blk_cell BK189.out 2).trans rfl
       have hcz43_3 : wc.cell? ⟨gb189, 3, none⟩ = some (.int .i64 a1_3) := (blk_cell BK189.out 3).trans rfl
       have hcz43_4 : wc.cell? ⟨gb189, 4, none⟩ = some (.slice A1_4 l1_4.length c1_4) := (blk_cell BK189.out 4).trans rfl
       have hcz43_5 : wc.cell? ⟨gb189, 5, none⟩ = some (.int .u64 a1_5) := (blk_cell BK189.out 5).trans rfl
       have hcz43_6 : wc.cell? ⟨gb189, 6, none⟩ = some (.int .u64 a1_6) := (blk_cell BK189.out 6).trans rfl
       have hcz43_7 : wc.cell? ⟨gb189, 7, none⟩ = some (.slice A1_7 l1_7.length c1_7) := (blk_cell BK189.out 7).trans rfl
       have hfz43_0 := blk_frozen BK189.out 0
       have hfz43_1 := blk_frozen BK189.out 1
       have hfz43_2 := blk_frozen BK189.out 2
       have hfz43_3 := blk_frozen BK189.out 3
       have hfz43_4 := blk_frozen BK189.out 4
       have hfz43_5 := blk_frozen BK189.out 5
       have hfz43_6 := blk_frozen BK189.out 6
       have hfz43_7 := blk_frozen BK189.out 7
       go_wp2
       go_ret
       exact ⟨by first | rfl | (simp [errW_none, errW_some] <;> rfl) | (simp [*, errW_none, errW_some] <;> rfl), by repeat (first | (with_reducible first | exact HB.out | apply below_alloc | apply pw_below_drewN | apply below_drew1 | refine below_set ?_ GE188.out | refine below_set ?_ GE189.out) | exact HB.out)⟩
theorem rd_se (xs : List Se) (i : Nat) (h : i < xs.length) : rd_T70 xs (i : Int) = xs[i] := by unfold rd_T70; rw [Int.toNat_natCast, List.getD_eq_getElem?_getD, List.getElem?_eq_getElem h]; rfl
theorem rd_no (xs : List No) (i : Nat) (h : i < xs.length) : rd_T76 xs (i : Int) = xs[i] := by unfold rd_T76; rw [Int.toNat_natCast, List.getD_eq_getElem?_getD, List.getElem?_eq_getElem h]; rfl
theorem live_loop (e g n t : Int) (xs : List Se) (ns : List No) (id : Int) (hl : xs.length ≤ 2097152) : ∀ (d k i : Nat), i + d = xs.length → d < k → spec_l3live.l0 k id (i : Int) e g n t xs ns = some ((xs.drop i).any fun x => x.f0 == id) := by
 intro d
 induction d with
 | zero =>
  intro k i hi hk
  obtain ⟨k, rfl⟩ : ∃ m, k = m + 1 := ⟨k - 1, by omega⟩
  rw [spec_l3live.l0, if_neg (by omega), List.drop_eq_nil_of_le (by omega)]
  rfl
 | succ d ih =>
  intro k i hi hk
  obtain ⟨k, rfl⟩ : ∃ m, k = m + 1 := ⟨k - 1, by omega⟩
  have hlt : i < xs.length := by omega
  rw [spec_l3live.l0, if_pos (by omega), if_pos (by omega), rd_se xs i hlt, List.drop_eq_getElem_cons hlt, List.any_cons]
  by_cases c : xs[i].f0 = id
  ·
   rw [if_pos c, beq_iff_eq.2 c]
   rfl
  ·
   rw [if_neg c, wrap_up i (by omega), ih k (i + 1) (by omega) (by omega), beq_eq_false_iff_ne.2 c, Bool.false_or]
theorem live_f (e g n t : Int) (xs : List Se) (ns : List No) (id : Int) (hl : xs.length ≤ 2097152) (k : Nat) (hk : 2097152 < k) : spec_l3live.f k e g n t xs ns id = some (liveB xs id) := by
 unfold spec_l3live.f liveB
 have := live_loop e g n t xs ns id hl xs.length k 0 (by omega) (by omega)
 rw [List.drop_zero] at this
 exact this
theorem wrap_down (i : Nat) (h0 : 0 < i) (h : i ≤ 140737488355328) : wrap64 ((i : Int) - 1) = ((i - 1 : Nat) : Int) := by unfold wrap64; omega
theorem ids_loop (e g n t : Int) (xs : List Se) (ns : List No) (l : List Int) (hl : xs.length ≤ 2097152) (hl2 : l.length ≤ 2097152) : ∀ (d k i : Nat), i + d = l.length → d + 2097153 < k →
  spec_l3idsOK.l0 k l (i : Int) e g n t xs ns = some (allI (fun i x => liveB xs x && (i == 0 || decide (l.getD (i - 1) 0 < x))) i (l.drop i)) := by
 intro d
 induction d with
 | zero =>
  intro k i hi hk
  obtain ⟨k, rfl⟩ : ∃ m, k = m + 1 := ⟨k - 1, by omega⟩
  rw [spec_l3idsOK.l0, if_neg (by omega), allI_end _ l i (by omega)]
 | succ d ih =>
  intro k i hi hk
  obtain ⟨k, rfl⟩ : ∃ m, k = m + 1 := ⟨k - 1, by omega⟩
  have hlt : i < l.length := by omega
  rw [spec_l3idsOK.l0, if_pos (by omega), if_pos (by omega), live_f e g n t xs ns _ hl k (by omega), Option.bind_some, rd_nat, getD_at l i hlt, allI_drop _ l i hlt]
  cases hb : liveB xs l[i] with
  | false => rw [if_neg (by decide)]; rfl
  | true =>
   rw [if_pos rfl]
   by_cases h0 : i = 0
   ·
    subst h0
    rw [if_neg (by omega), wrap_up 0 (by omega), ih k 1 (by omega) (by omega)]
    rfl
   ·
    rw [if_pos (by omega), wrap_down i (by omega) (by omega), if_pos (by omega), if_pos (by omega), rd_nat]
    have e0 : (i == 0) = false := by rw [beq_eq_false_iff_ne]; exact h0
    simp only [e0, Bool.false_or, Bool.true_and]
    by_cases hc : l[i] ≤ l.getD (i - 1) 0
    ·
     rw [if_pos hc, decide_eq_false (by omega)]
     rfl
    ·
     rw [if_neg hc, wrap_up i (by omega), ih k (i + 1) (by omega) (by omega), decide_eq_true (by omega)]
     rfl
theorem ids_f (e g n t : Int) (xs : List Se) (ns : List No) (l : List Int) (hl : xs.length ≤ 2097152) (hl2 : l.length ≤ 2097152) : spec_l3idsOK.f 10000000 e g n t xs ns l = some (idsB xs l) := by
 unfold spec_l3idsOK.f idsB
 have := ids_loop e g n t xs ns l hl hl2 l.length 10000000 0 (by omega) (by omega)
 rw [List.drop_zero] at this
 exact this
theorem lock_f (e g n t : Int) (xs : List Se) (ns : List No) (p v : List Int) (o m : Int) (h : List Int) (ep ge : Int) (wa : List Int) : spec_l3lockOK.f 10 e g n t xs ns p v o m h ep ge wa = some (lockB e g ⟨p, v, o, m, h, ep, ge, wa⟩) := by
 unfold spec_l3lockOK.f lockB
 simp only
 by_cases c1 : m = 1
 ·
  rw [if_pos c1, if_pos c1]
  by_cases c2 : (h.length : Int) = 1
  ·
   rw [if_pos c2, show (h.length == 1) = true from beq_iff_eq.2 (by omega)]
   by_cases c3 : ge ≥ 1
   ·
    rw [if_pos c3, decide_eq_true (show 1 ≤ ge from c3)]
    by_cases c4 : ge ≤ g
    ·
     rw [if_pos c4, decide_eq_true c4]
     rfl
    ·
     rw [if_neg c4, decide_eq_false c4]
     rfl
   ·
    rw [if_neg c3, decide_eq_false (show ¬ 1 ≤ ge from c3)]
    rfl
  ·
   rw [if_neg c2, show (h.length == 1) = false from beq_eq_false_iff_ne.2 (by omega)]
   rfl
 ·
  rw [if_neg c1, if_neg c1]
  by_cases c2 : ep = 0
  ·
   rw [if_pos c2, show (ep == 0) = true from beq_iff_eq.2 c2, spec_l3lockOK.j0]
   by_cases c3 : ge = 0
   ·
    rw [if_neg (by simp [c3]), show (ge == 0) = true from beq_iff_eq.2 c3]
    by_cases c4 : m = 0
    ·
     rw [if_pos c4, if_pos c4]
     have : ((h.length : Int) == 0) = (h.length == 0) := by
      by_cases c5 : h.length = 0
      ·
       simp [c5]
      ·
       rw [beq_eq_false_iff_ne.2 c5, beq_eq_false_iff_ne.2 (show ¬ (h.length : Int) = 0 by omega)]
     rw [this]
     simp
    ·
     rw [if_neg c4, if_neg c4]
     by_cases c5 : m = 2
     ·
      rw [if_pos c5, show (m == 2) = true from beq_iff_eq.2 c5]
      have : decide ((h.length : Int) ≥ 1) = decide (1 ≤ h.length) := by
       by_cases c6 : 1 ≤ h.length
       ·
        rw [decide_eq_true c6, decide_eq_true (by omega)]
       ·
        rw [decide_eq_false c6, decide_eq_false (by omega)]
      rw [this]
      simp
     ·
      rw [if_neg c5, show (m == 2) = false from beq_eq_false_iff_ne.2 c5]
      simp
   ·
    rw [if_pos (by simp [c3]), show (ge == 0) = false from beq_eq_false_iff_ne.2 c3]
    simp
  ·
   rw [if_neg c2, show (ep == 0) = false from beq_eq_false_iff_ne.2 c2, spec_l3lockOK.j0, if_pos rfl]
   simp
structure SmS (xs : List Se) (ns : List No) : Prop where
 x : xs.length ≤ 2097152
 n : ns.length ≤ 2097152
 e : ∀ x ∈ xs, x.f2.length ≤ 2097152 ∧ ∀ y ∈ x.f2, y.f1.length ≤ 2097152 ∧ ∀ z ∈ y.f1, 0 ≤ z ∧ z < 256
 m : ∀ x ∈ ns, ((x.f0.length ≤ 2097152 ∧ ∀ z ∈ x.f0, 0 ≤ z ∧ z < 256) ∧ x.f1.length ≤ 2097152) ∧ x.f4.length ≤ 2097152 ∧ x.f7.length ≤ 2097152
theorem parentL_bytes {p : List Int} (h : ∀ z ∈ p, 0 ≤ z ∧ z < 256) : ∀ z ∈ parentL p, 0 ≤ z ∧ z < 256 := by
 unfold parentL
 split
 ·
  simp
 ·
  exact fun z hz => h z (List.mem_of_mem_take hz)
set_option maxHeartbeats 8000000 in
set_option maxRecDepth 100000 in
theorem spec_nodeOK_calls (e g n t : Int) (As : Option Addr) (cs : Nat) (xs : List Se) (An : Option Addr) (cn : Nat) (ns : List No) (i : Nat) (w : World) (h1 : Kd.C kSe w As xs.length xs) (hc1 : xs.length ≤ cs) (h2 : Kd.C kNo w An ns.length ns) (hc2 : ns.length ≤ cn) (hs : SmS xs ns) (hi : i < ns.length) :
  Calls Tryd.prog 44 #[.agg #[.int .u64 e, .int .u64 g, .int .u64 n, .int .i64 t, .slice As xs.length cs, .slice An ns.length cn], .int .i64 (i : Int)] w fun r w' => r = .returned (.bool (nodeB e g xs ns i ns[i])) ∧ Below w.heap.size w w' := by
 have HR := Aside0.mk (And.intro h1 h2)
 have HL := Aside0.mk (And.intro hc1 hc2)
 have HSM := Aside0.mk hs
 have ci : (0 : Int) ≤ (i : Int) := by omega
 have ci2 : (i : Int) < (ns.length : Int) := by omega
 have hnl := hs.n
 obtain ⟨ad, A0, c0, A1, c1, A4, c4, A7, c7, eA, hx0, hx1, hx2, hx3, hx4, hx5, hx6, hx7, hl0, hi0, hl1, hi1, hl4, hi4, hl7, hi7⟩ := at_T76 h2 (i : Int) ci ci2
 rw [rd_no ns i hi] at hx0 hx1 hx2 hx3 hx4 hx5 hx6 hx7 hl0 hi0 hl1 hi1 hl4 hi4 hl7 hi7
 rw [Int.toNat_natCast] at hx0 hx1 hx2 hx3 hx4 hx5 hx6 hx7
 cases eA
 have hsm := hs.m ns[i] (List.getElem_mem hi)
 have hprev : 0 < i → ∃ Ap cp, w.cell? (ad.add ((i - 1) * 8)) = some (.slice Ap (ns.getD (i - 1) zNo).f0.length cp) ∧ Kd.C (Kd.int .u8) w Ap (ns.getD (i - 1) zNo).f0.length (ns.getD (i - 1) zNo).f0 := by
  intro h0
  have hj : i - 1 < ns.length := by omega
  obtain ⟨ad', B0, b0, B1, b1, B4, b4, B7, b7, eA', hy0, _, _, _, _, _, _, _, _, hyi, _⟩ := at_T76 h2 ((i - 1 : Nat) : Int) (by omega) (by omega)
  rw [rd_no ns (i - 1) hj] at hy0 hyi
  rw [Int.toNat_natCast] at hy0
  cases eA'
  rw [show ns.getD (i - 1) zNo = ns[i - 1] by rw [List.getD_eq_getElem?_getD, List.getElem?_eq_getElem hj]; rfl]
  exact ⟨B0, b0, hy0, hyi⟩
 obtain ⟨y, hy⟩ : ∃ y, ns[i] = y := ⟨_, rfl⟩
 rw [hy] at hx0 hx1 hx2 hx3 hx4 hx5 hx6 hx7 hl0 hi0 hl1 hi1 hl4 hi4 hl7 hi7 hsm ⊢
 clear hy
 obtain ⟨p, v, o, m, h, ep, ge, wa⟩ := y
 simp only at hx0 hx1 hx2 hx3 hx4 hx5 hx6 hx7 hl0 hi0 hl1 hi1 hl4 hi4 hl7 hi7 hsm
 obtain ⟨q, hq⟩ : ∃ q, (ns.getD (i - 1) zNo).f0 = q := ⟨_, rfl⟩
 rw [hq] at hprev
 have hE : nodeB e g xs ns i ⟨p, v, o, m, h, ep, ge, wa⟩ = (pathB p && (i == 0 || !leB p q) && canParB ns (parentL p) && decide (v.length ≤ 40) && (o == 0 || liveB xs o) && idsB xs h && idsB xs wa && lockB e g ⟨p, v, o, m, h, ep, ge, wa⟩) := by rw [← hq]; rfl
 have VP := Aside0.mk (fun (W : World) (hW : Below w.heap.size w W) => spec_ValidPath.calls 10000000 A0 c0 p (pathB p) W (Kd.C_below hi0 hW) hl0 (validPath_f p hsm.1.1.1 _ (by have := hsm.1.1.1; omega)))
 have PAR := Aside0.mk (fun (W : World) (hW : Below w.heap.size w W) => spec_parent_calls A0 c0 p W (Kd.C_below hi0 hW) hl0 hsm.1.1.1)
 have CAN := Aside0.mk (fun (B : Option Addr) (d : Nat) (W : World) (hW : Below w.heap.size w W) (hB : Kd.C (Kd.int .u8) W B (parentL p).length (parentL p)) (hd : (parentL p).length ≤ d) => spec_canParent_calls e g n t As cs xs (some ad) cn ns B d (parentL p) W (Kd.C_below h1 hW) hc1 (Kd.C_below h2 hW) hc2 hB hd hs.n (parentL_bytes hsm.1.1.2) (fun z hz => (hs.m z hz).1.1.2))
 have LIV := Aside0.mk (fun (W : World) (hW : Below w.heap.size w W) => spec_l3live.calls 10000000 e g n t As cs xs (some ad) cn ns o (liveB xs o) W (Kd.C_below h1 hW) hc1 (Kd.C_below h2 hW) hc2 (live_f e g n t xs ns o hs.x _ (by omega)))
 have ID4 := Aside0.mk (fun (W : World) (hW : Below w.heap.size w W) => spec_l3idsOK.calls 10000000 e g n t As cs xs (some ad) cn ns A4 c4 h (idsB xs h) W (Kd.C_below h1 hW) hc1 (Kd.C_below h2 hW) hc2 (Kd.C_below hi4 hW) hl4 (ids_f e g n t xs ns h hs.x hsm.2.1))
 have ID7 := Aside0.mk (fun (W : World) (hW : Below w.heap.size w W) => spec_l3idsOK.calls 10000000 e g n t As cs xs (some ad) cn ns A7 c7 wa (idsB xs wa) W (Kd.C_below h1 hW) hc1 (Kd.C_below h2 hW) hc2 (Kd.C_below hi7 hW) hl7 (ids_f e g n t xs ns wa hs.x hsm.2.2))
 have LOC := Aside0.mk (fun (W : World) (hW : Below w.heap.size w W) => spec_l3lockOK.calls 10 e g n t As cs xs (some ad) cn ns A0 c0 p A1 c1 v o m A4 c4 h ep ge A7 c7 wa (lockB e g ⟨p, v, o, m, h, ep, ge, wa⟩) W (Kd.C_below h1 hW) hc1 (Kd.C_below h2 hW) hc2 (Kd.C_below hi0 hW) hl0 (Kd.C_below hi1 hW) hl1 (Kd.C_below hi4 hW) hl4 (Kd.C_below hi7 hW) hl7 (lock_f e g n t xs ns p v o m h ep ge wa))
 have HP := Aside0.mk hi0
 have HPV := Aside0.mk hprev
 obtain ⟨b1, hb1⟩ : ∃ b, pathB p = b := ⟨_, rfl⟩
 obtain ⟨b2, hb2⟩ : ∃ b, leB p q = b := ⟨_, rfl⟩
 obtain ⟨b3, hb3⟩ : ∃ b, canParB ns (parentL p) = b := ⟨_, rfl⟩
 obtain ⟨b5, hb5⟩ : ∃ b, liveB xs o = b := ⟨_, rfl⟩
 obtain ⟨b6, hb6⟩ : ∃ b, idsB xs h = b := ⟨_, rfl⟩
 obtain ⟨b7, hb7⟩ : ∃ b, idsB xs wa = b := ⟨_, rfl⟩
 obtain ⟨b8, hb8⟩ : ∃ b, lockB e g ⟨p, v, o, m, h, ep, ge, wa⟩ = b := ⟨_, rfl⟩
 rw [hb1] at VP hE
 rw [hb2, hb3, hb5, hb6, hb7, hb8] at hE
 rw [hb3] at CAN
 rw [hb5] at LIV
 rw [hb6] at ID4
 rw [hb7] at ID7
 rw [hb8] at LOC
 have HE := Aside0.mk hE
 have HLE : Aside0 ((Op.bytesLess (strOfNums p).toList (strOfNums q).toList || (strOfNums p).toList == (strOfNums q).toList) = b2) := ⟨by rw [Lib.strOfNums_toList, Lib.strOfNums_toList]; exact hb2⟩
 clear hb1 hb2 hb3 hb5 hb6 hb7 hb8 hE h1 h2 hc1 hc2 hs hl0 hi0 hl1 hi1 hl4 hi4 hl7 hi7 hsm hprev hq
 have hal : ∀ {a : Addr} {z : Value}, w.cell? a = some z → (w.alloc (.cells #[.int .u64 e, .int .u64 g, .int .u64 n, .int .i64 t, .slice As xs.length cs, .slice (some ad) ns.length cn] 36)).cell? a = some z := fun hz => (World.cell?_alloc_lt _ _ _ (World.block_lt_of_cell? w _ hz)).trans hz
 replace hx0 := hal hx0
 replace hx1 := hal hx1
 replace hx2 := hal hx2
 replace hx3 := hal hx3
 replace hx4 := hal hx4
 replace hx5 := hal hx5
 replace hx6 := hal hx6
 replace hx7 := hal hx7
 clear hal
 go_enter Tryd.func44, Tryd.ntmps44
 go_wp2_with fail
 have b0 := blk_alloc (blk_new w (.cells #[.int .u64 e, .int .u64 g, .int .u64 n, .int .i64 t, .slice As xs.length cs, .slice (some ad) ns.length cn] 36)) (.cells #[.slice A0 p.length c0, .slice A1 v.length c1, .int .u64 o, .int .i64 m, .slice A4 h.length c4, .int .u64 ep, .int .u64 ge, .slice A7 wa.length c7] 76)
 have bn := blk_new (w.alloc (.cells #[.int .u64 e, .int .u64 g, .int .u64 n, .int .i64 t, .slice As xs.length cs, .slice (some ad) ns.length cn] 36)) (.cells #[.slice A0 p.length c0, .slice A1 v.length c1, .int .u64 o, .int .i64 m, .slice A4 h.length c4, .int .u64 ep, .int .u64 ge, .slice A7 wa.length c7] 76)
 have hB := below_alloc (below_alloc (Below.refl w.heap.size w) (.cells #[.int .u64 e, .int .u64 g, .int .u64 n, .int .i64 t, .slice As xs.length cs, .slice (some ad) ns.length cn] 36)) (.cells #[.slice A0 p.length c0, .slice A1 v.length c1, .int .u64 o, .int .i64 m, .slice A4 h.length c4, .int .u64 ep, .int .u64 ge, .slice A7 wa.length c7] 76)
 simp only [World.size_alloc] at bn
 generalize (w.alloc (.cells #[.int .u64 e, .int .u64 g, .int .u64 n, .int .i64 t, .slice As xs.length cs, .slice (some ad) ns.length cn] 36)).alloc (.cells #[.slice A0 p.length c0, .slice A1 v.length c1, .int .u64 o, .int .i64 m, .slice A4 h.length c4, .int .u64 ep, .int .u64 ge, .slice A7 wa.length c7] 76) = W0 at *
 have BS := Aside0.mk b0
 have BN := Aside0.mk bn
 have HB := Aside0.mk hB
 clear b0 bn hB hx0 hx1 hx2 hx3 hx4 hx5 hx6 hx7
 have s0 := blk_cell BS.out 0
 have s1 := blk_cell BS.out 1
 have s2 := blk_cell BS.out 2
 have s3 := blk_cell BS.out 3
 have s4 := blk_cell BS.out 4
 have s5 := blk_cell BS.out 5
 have m0 := blk_cell BN.out 0
 have m1 := blk_cell BN.out 1
 have m2 := blk_cell BN.out 2
 have m3 := blk_cell BN.out 3
 have m4 := blk_cell BN.out 4
 have m5 := blk_cell BN.out 5
 have m6 := blk_cell BN.out 6
 have m7 := blk_cell BN.out 7
 simp only [List.getElem?_toArray, List.getElem?_cons_zero, List.getElem?_cons_succ] at s0 s1 s2 s3 s4 s5 m0 m1 m2 m3 m4 m5 m6 m7
 cases b1 with
 | false =>
  by_cases hi0 : i = 0
  ·
   have di : decide (0 < i) = false := decide_eq_false (by omega)
   have CF : Aside0 (∀ w' : World, BelowOf W0 w' → (w'.cell? ⟨w.heap.size, 0, none⟩ = some (.int .u64 e) ∧ w'.cell? ⟨w.heap.size, 1, none⟩ = some (.int .u64 g) ∧ w'.cell? ⟨w.heap.size, 2, none⟩ = some (.int .u64 n) ∧ w'.cell? ⟨w.heap.size, 3, none⟩ = some (.int .i64 t) ∧ w'.cell? ⟨w.heap.size, 4, none⟩ = some (.slice As xs.length cs) ∧ w'.cell? ⟨w.heap.size, 5, none⟩ = some (.slice (some ad) ns.length cn) ∧ w'.cell? ⟨w.heap.size + 1, 0, none⟩ = some (.slice A0 p.length c0) ∧ w'.cell? ⟨w.heap.size + 1, 1, none⟩ = some (.slice A1 v.length c1) ∧ w'.cell? ⟨w.heap.size + 1, 2, none⟩ = some (.int .u64 o) ∧ w'.cell? ⟨w.heap.size + 1, 3, none⟩ = some (.int .i64 m) ∧ w'.cell? ⟨w.heap.size + 1, 4, none⟩ = some (.slice A4 h.length c4) ∧ w'.cell? ⟨w.heap.size + 1, 5, none⟩ = some (.int .u64 ep) ∧ w'.cell? ⟨w.heap.size + 1, 6, none⟩ = some (.int .u64 ge) ∧ w'.cell? ⟨w.heap.size + 1, 7, none⟩ = some (.slice A7 wa.length c7))) := ⟨fun w' hC => ⟨(hC.out.cell (World.block_lt_of_cell? _ _ s0)).trans s0, (hC.out.cell (World.block_lt_of_cell? _ _ s1)).trans s1, (hC.out.cell (World.block_lt_of_cell? _ _ s2)).trans s2, (hC.out.cell (World.block_lt_of_cell? _ _ s3)).trans s3, (hC.out.cell (World.block_lt_of_cell? _ _ s4)).trans s4, (hC.out.cell (World.block_lt_of_cell? _ _ s5)).trans s5, (hC.out.cell (World.block_lt_of_cell? _ _ m0)).trans m0, (hC.out.cell (World.block_lt_of_cell? _ _ m1)).trans m1, (hC.out.cell (World.block_lt_of_cell? _ _ m2)).trans m2, (hC.out.cell (World.block_lt_of_cell? _ _ m3)).trans m3, (hC.out.cell (World.block_lt_of_cell? _ _ m4)).trans m4, (hC.out.cell (World.block_lt_of_cell? _ _ m5)).trans m5, (hC.out.cell (World.block_lt_of_cell? _ _ m6)).trans m6, (hC.out.cell (World.block_lt_of_cell? _ _ m7)).trans m7⟩⟩
   have VP1 := Aside0.mk (fun (w' : World) (hC : BelowOf W0 w') => (VP.out w' (below_step HB.out hC.out)).mono (fun e w'' h => show e = .returned (.bool false) ∧ BelowOf W0 w'' from ⟨h.1, ⟨below_step hC.out h.2⟩⟩))
   clear s0 s1 s2 s3 s4 s5 m0 m1 m2 m3 m4 m5 m6 m7
   refine wp_region_below (by kernel_rfl) (by kernel_rfl) ?_
   repeat (first | go_big_quiet_skip | (go_big_quiet_want; rename_i K hK; refine quiet_mk (v := ?_) ?_ (hK _ ?_); rotate_left 1; (focus (intro w' hC; first | (go_simp; first | done | with_reducible rfl) | (obtain ⟨s0, s1, s2, s3, s4, s5, m0, m1, m2, m3, m4, m5, m6, m7⟩ := CF.out w' hC; go_simp; first | done | with_reducible rfl) | (go_simp; go_at_call 9; exact VP1.out w' hC))); clear hK K); try simp only [Act.put, List.setIfInBounds_toArray, List.set_cons_zero, List.set_cons_succ])
   refine wpQuiet_nil ?_
   intro W1 hb1
   have hb := hb1.out
   clear hb1 CF VP1
   replace BS := Aside0.mk (blk_below BS.out hb)
   replace BN := Aside0.mk (blk_below BN.out hb)
   replace HB := Aside0.mk (below_step HB.out hb)
   clear hb
   have s0 := blk_cell BS.out 0
   have s1 := blk_cell BS.out 1
   have s2 := blk_cell BS.out 2
   have s3 := blk_cell BS.out 3
   have s4 := blk_cell BS.out 4
   have s5 := blk_cell BS.out 5
   have m0 := blk_cell BN.out 0
   have m1 := blk_cell BN.out 1
   have m2 := blk_cell BN.out 2
   have m3 := blk_cell BN.out 3
   have m4 := blk_cell BN.out 4
   have m5 := blk_cell BN.out 5
   have m6 := blk_cell BN.out 6
   have m7 := blk_cell BN.out 7
   simp only [List.getElem?_toArray, List.getElem?_cons_zero, List.getElem?_cons_succ] at s0 s1 s2 s3 s4 s5 m0 m1 m2 m3 m4 m5 m6 m7
   go_wp2_with fail
   go_ret
   rw [HE.out]
   exact ⟨by simp, HB.out⟩
  ·
   have di : decide (0 < i) = true := decide_eq_true (by omega)
   have CF : Aside0 (∀ w' : World, BelowOf W0 w' → (w'.cell? ⟨w.heap.size, 0, none⟩ = some (.int .u64 e) ∧ w'.cell? ⟨w.heap.size, 1, none⟩ = some (.int .u64 g) ∧ w'.cell? ⟨w.heap.size, 2, none⟩ = some (.int .u64 n) ∧ w'.cell? ⟨w.heap.size, 3, none⟩ = some (.int .i64 t) ∧ w'.cell? ⟨w.heap.size, 4, none⟩ = some (.slice As xs.length cs) ∧ w'.cell? ⟨w.heap.size, 5, none⟩ = some (.slice (some ad) ns.length cn) ∧ w'.cell? ⟨w.heap.size + 1, 0, none⟩ = some (.slice A0 p.length c0) ∧ w'.cell? ⟨w.heap.size + 1, 1, none⟩ = some (.slice A1 v.length c1) ∧ w'.cell? ⟨w.heap.size + 1, 2, none⟩ = some (.int .u64 o) ∧ w'.cell? ⟨w.heap.size + 1, 3, none⟩ = some (.int .i64 m) ∧ w'.cell? ⟨w.heap.size + 1, 4, none⟩ = some (.slice A4 h.length c4) ∧ w'.cell? ⟨w.heap.size + 1, 5, none⟩ = some (.int .u64 ep) ∧ w'.cell? ⟨w.heap.size + 1, 6, none⟩ = some (.int .u64 ge) ∧ w'.cell? ⟨w.heap.size + 1, 7, none⟩ = some (.slice A7 wa.length c7))) := ⟨fun w' hC => ⟨(hC.out.cell (World.block_lt_of_cell? _ _ s0)).trans s0, (hC.out.cell (World.block_lt_of_cell? _ _ s1)).trans s1, (hC.out.cell (World.block_lt_of_cell? _ _ s2)).trans s2, (hC.out.cell (World.block_lt_of_cell? _ _ s3)).trans s3, (hC.out.cell (World.block_lt_of_cell? _ _ s4)).trans s4, (hC.out.cell (World.block_lt_of_cell? _ _ s5)).trans s5, (hC.out.cell (World.block_lt_of_cell? _ _ m0)).trans m0, (hC.out.cell (World.block_lt_of_cell? _ _ m1)).trans m1, (hC.out.cell (World.block_lt_of_cell? _ _ m2)).trans m2, (hC.out.cell (World.block_lt_of_cell? _ _ m3)).trans m3, (hC.out.cell (World.block_lt_of_cell? _ _ m4)).trans m4, (hC.out.cell (World.block_lt_of_cell? _ _ m5)).trans m5, (hC.out.cell (World.block_lt_of_cell? _ _ m6)).trans m6, (hC.out.cell (World.block_lt_of_cell? _ _ m7)).trans m7⟩⟩
   have VP1 := Aside0.mk (fun (w' : World) (hC : BelowOf W0 w') => (VP.out w' (below_step HB.out hC.out)).mono (fun e w'' h => show e = .returned (.bool false) ∧ BelowOf W0 w'' from ⟨h.1, ⟨below_step hC.out h.2⟩⟩))
   clear s0 s1 s2 s3 s4 s5 m0 m1 m2 m3 m4 m5 m6 m7
   refine wp_region_below (by kernel_rfl) (by kernel_rfl) ?_
   repeat (first | go_big_quiet_skip | (go_big_quiet_want; rename_i K hK; refine quiet_mk (v := ?_) ?_ (hK _ ?_); rotate_left 1; (focus (intro w' hC; first | (go_simp; first | done | with_reducible rfl) | (obtain ⟨s0, s1, s2, s3, s4, s5, m0, m1, m2, m3, m4, m5, m6, m7⟩ := CF.out w' hC; go_simp; first | done | with_reducible rfl) | (go_simp; go_at_call 9; exact VP1.out w' hC))); clear hK K); try simp only [Act.put, List.setIfInBounds_toArray, List.set_cons_zero, List.set_cons_succ])
   refine wpQuiet_nil ?_
   intro W1 hb1
   have hb := hb1.out
   clear hb1 CF VP1
   replace BS := Aside0.mk (blk_below BS.out hb)
   replace BN := Aside0.mk (blk_below BN.out hb)
   replace HB := Aside0.mk (below_step HB.out hb)
   clear hb
   have s0 := blk_cell BS.out 0
   have s1 := blk_cell BS.out 1
   have s2 := blk_cell BS.out 2
   have s3 := blk_cell BS.out 3
   have s4 := blk_cell BS.out 4
   have s5 := blk_cell BS.out 5
   have m0 := blk_cell BN.out 0
   have m1 := blk_cell BN.out 1
   have m2 := blk_cell BN.out 2
   have m3 := blk_cell BN.out 3
   have m4 := blk_cell BN.out 4
   have m5 := blk_cell BN.out 5
   have m6 := blk_cell BN.out 6
   have m7 := blk_cell BN.out 7
   simp only [List.getElem?_toArray, List.getElem?_cons_zero, List.getElem?_cons_succ] at s0 s1 s2 s3 s4 s5 m0 m1 m2 m3 m4 m5 m6 m7
   go_wp2_with fail
   go_ret
   rw [HE.out]
   exact ⟨by simp, HB.out⟩
 | true =>
  by_cases hi0 : i = 0
  ·
   have di : decide (0 < i) = false := decide_eq_false (by omega)
   have HI0 := Aside0.mk (show (i == 0) = true from beq_iff_eq.2 hi0)
   clear hi0
   have CF : Aside0 (∀ w' : World, BelowOf W0 w' → (w'.cell? ⟨w.heap.size, 0, none⟩ = some (.int .u64 e) ∧ w'.cell? ⟨w.heap.size, 1, none⟩ = some (.int .u64 g) ∧ w'.cell? ⟨w.heap.size, 2, none⟩ = some (.int .u64 n) ∧ w'.cell? ⟨w.heap.size, 3, none⟩ = some (.int .i64 t) ∧ w'.cell? ⟨w.heap.size, 4, none⟩ = some (.slice As xs.length cs) ∧ w'.cell? ⟨w.heap.size, 5, none⟩ = some (.slice (some ad) ns.length cn) ∧ w'.cell? ⟨w.heap.size + 1, 0, none⟩ = some (.slice A0 p.length c0) ∧ w'.cell? ⟨w.heap.size + 1, 1, none⟩ = some (.slice A1 v.length c1) ∧ w'.cell? ⟨w.heap.size + 1, 2, none⟩ = some (.int .u64 o) ∧ w'.cell? ⟨w.heap.size + 1, 3, none⟩ = some (.int .i64 m) ∧ w'.cell? ⟨w.heap.size + 1, 4, none⟩ = some (.slice A4 h.length c4) ∧ w'.cell? ⟨w.heap.size + 1, 5, none⟩ = some (.int .u64 ep) ∧ w'.cell? ⟨w.heap.size + 1, 6, none⟩ = some (.int .u64 ge) ∧ w'.cell? ⟨w.heap.size + 1, 7, none⟩ = some (.slice A7 wa.length c7))) := ⟨fun w' hC => ⟨(hC.out.cell (World.block_lt_of_cell? _ _ s0)).trans s0, (hC.out.cell (World.block_lt_of_cell? _ _ s1)).trans s1, (hC.out.cell (World.block_lt_of_cell? _ _ s2)).trans s2, (hC.out.cell (World.block_lt_of_cell? _ _ s3)).trans s3, (hC.out.cell (World.block_lt_of_cell? _ _ s4)).trans s4, (hC.out.cell (World.block_lt_of_cell? _ _ s5)).trans s5, (hC.out.cell (World.block_lt_of_cell? _ _ m0)).trans m0, (hC.out.cell (World.block_lt_of_cell? _ _ m1)).trans m1, (hC.out.cell (World.block_lt_of_cell? _ _ m2)).trans m2, (hC.out.cell (World.block_lt_of_cell? _ _ m3)).trans m3, (hC.out.cell (World.block_lt_of_cell? _ _ m4)).trans m4, (hC.out.cell (World.block_lt_of_cell? _ _ m5)).trans m5, (hC.out.cell (World.block_lt_of_cell? _ _ m6)).trans m6, (hC.out.cell (World.block_lt_of_cell? _ _ m7)).trans m7⟩⟩
   have VP1 := Aside0.mk (fun (w' : World) (hC : BelowOf W0 w') => (VP.out w' (below_step HB.out hC.out)).mono (fun e w'' h => show e = .returned (.bool true) ∧ BelowOf W0 w'' from ⟨h.1, ⟨below_step hC.out h.2⟩⟩))
   clear s0 s1 s2 s3 s4 s5 m0 m1 m2 m3 m4 m5 m6 m7
   refine wp_region_below (by kernel_rfl) (by kernel_rfl) ?_
   repeat (first | go_big_quiet_skip | (go_big_quiet_want; rename_i K hK; refine quiet_mk (v := ?_) ?_ (hK _ ?_); rotate_left 1; (focus (intro w' hC; first | (go_simp; first | done | with_reducible rfl) | (obtain ⟨s0, s1, s2, s3, s4, s5, m0, m1, m2, m3, m4, m5, m6, m7⟩ := CF.out w' hC; go_simp; first | done | with_reducible rfl) | (go_simp; go_at_call 9; exact VP1.out w' hC))); clear hK K); try simp only [Act.put, List.setIfInBounds_toArray, List.set_cons_zero, List.set_cons_succ])
   refine wpQuiet_nil ?_
   intro W1 hb1
   have hb := hb1.out
   clear hb1 CF VP1
   replace BS := Aside0.mk (blk_below BS.out hb)
   replace BN := Aside0.mk (blk_below BN.out hb)
   replace HB := Aside0.mk (below_step HB.out hb)
   clear hb
   have s0 := blk_cell BS.out 0
   have s1 := blk_cell BS.out 1
   have s2 := blk_cell BS.out 2
   have s3 := blk_cell BS.out 3
   have s4 := blk_cell BS.out 4
   have s5 := blk_cell BS.out 5
   have m0 := blk_cell BN.out 0
   have m1 := blk_cell BN.out 1
   have m2 := blk_cell BN.out 2
   have m3 := blk_cell BN.out 3
   have m4 := blk_cell BN.out 4
   have m5 := blk_cell BN.out 5
   have m6 := blk_cell BN.out 6
   have m7 := blk_cell BN.out 7
   simp only [List.getElem?_toArray, List.getElem?_cons_zero, List.getElem?_cons_succ] at s0 s1 s2 s3 s4 s5 m0 m1 m2 m3 m4 m5 m6 m7
   go_wp2_with fail
   rw [HI0.out] at HE
   cases b3 with
   | false =>
    (first | go_region_with (first | (go_at_call 93; refine (PAR.out _ (by with_reducible repeat (first | exact HB.out | apply below_drew1))).mono ?_; rintro r W2 ⟨B, d, rfl, hd, hC, hb0⟩; have hb : Below W1.heap.size W1 W2 := (by first | exact hb0 | exact (below_drew1 (Below.refl W1.heap.size W1)).trans hb0); clear hb0; replace BS := Aside0.mk (blk_below BS.out hb); replace BN := Aside0.mk (blk_below BN.out hb); replace HB := Aside0.mk (below_step HB.out hb); have HC := Aside0.mk hC; have HD := Aside0.mk hd; clear hb hC hd; clear s0 s1 s2 s3 s4 s5 m0 m1 m2 m3 m4 m5 m6 m7; have s0 := blk_cell BS.out 0; have s1 := blk_cell BS.out 1; have s2 := blk_cell BS.out 2; have s3 := blk_cell BS.out 3; have s4 := blk_cell BS.out 4; have s5 := blk_cell BS.out 5; have m0 := blk_cell BN.out 0; have m1 := blk_cell BN.out 1; have m2 := blk_cell BN.out 2; have m3 := blk_cell BN.out 3; have m4 := blk_cell BN.out 4; have m5 := blk_cell BN.out 5; have m6 := blk_cell BN.out 6; have m7 := blk_cell BN.out 7; simp only [List.getElem?_toArray, List.getElem?_cons_zero, List.getElem?_cons_succ] at s0 s1 s2 s3 s4 s5 m0 m1 m2 m3 m4 m5 m6 m7) | (go_at_call 92; refine (CAN.out B d _ (by with_reducible repeat (first | exact HB.out | apply below_drew1)) (by repeat (first | exact HC.out | refine Kd.C_drew ?_)) HD.out).mono ?_; rintro r W3 ⟨rfl, hb0⟩; have hb : Below W2.heap.size W2 W3 := (by first | exact hb0 | exact (below_drew1 (Below.refl W2.heap.size W2)).trans hb0); clear hb0; replace BS := Aside0.mk (blk_below BS.out hb); replace BN := Aside0.mk (blk_below BN.out hb); replace HB := Aside0.mk (below_step HB.out hb); clear hb HC HD; clear s0 s1 s2 s3 s4 s5 m0 m1 m2 m3 m4 m5 m6 m7; have s0 := blk_cell BS.out 0; have s1 := blk_cell BS.out 1; have s2 := blk_cell BS.out 2; have s3 := blk_cell BS.out 3; have s4 := blk_cell BS.out 4; have s5 := blk_cell BS.out 5; have m0 := blk_cell BN.out 0; have m1 := blk_cell BN.out 1; have m2 := blk_cell BN.out 2; have m3 := blk_cell BN.out 3; have m4 := blk_cell BN.out 4; have m5 := blk_cell BN.out 5; have m6 := blk_cell BN.out 6; have m7 := blk_cell BN.out 7; simp only [List.getElem?_toArray, List.getElem?_cons_zero, List.getElem?_cons_succ] at s0 s1 s2 s3 s4 s5 m0 m1 m2 m3 m4 m5 m6 m7)) | fail)
    all_goals (go_wp2_with fail; go_ret; rw [HE.out]; exact ⟨by simp, HB.out⟩)
   | true =>
    by_cases hv : 40 < v.length
    ·
     have hv1 : decide ((40 : Int) < (v.length : Int)) = true := decide_eq_true (by omega)
     have HV := Aside0.mk (show decide (v.length ≤ 40) = false from decide_eq_false (by omega))
     clear hv
     (first | go_region_held3 (fun w' => w'.cell? ⟨w.heap.size, 0, none⟩ = some (.int .u64 e) ∧ w'.cell? ⟨w.heap.size, 1, none⟩ = some (.int .u64 g) ∧ w'.cell? ⟨w.heap.size, 2, none⟩ = some (.int .u64 n) ∧ w'.cell? ⟨w.heap.size, 3, none⟩ = some (.int .i64 t) ∧ w'.cell? ⟨w.heap.size, 4, none⟩ = some (.slice As xs.length cs) ∧ w'.cell? ⟨w.heap.size, 5, none⟩ = some (.slice (some ad) ns.length cn) ∧ w'.cell? ⟨w.heap.size + 1, 0, none⟩ = some (.slice A0 p.length c0) ∧ w'.cell? ⟨w.heap.size + 1, 1, none⟩ = some (.slice A1 v.length c1) ∧ w'.cell? ⟨w.heap.size + 1, 2, none⟩ = some (.int .u64 o) ∧ w'.cell? ⟨w.heap.size + 1, 3, none⟩ = some (.int .i64 m) ∧ w'.cell? ⟨w.heap.size + 1, 4, none⟩ = some (.slice A4 h.length c4) ∧ w'.cell? ⟨w.heap.size + 1, 5, none⟩ = some (.int .u64 ep) ∧ w'.cell? ⟨w.heap.size + 1, 6, none⟩ = some (.int .u64 ge) ∧ w'.cell? ⟨w.heap.size + 1, 7, none⟩ = some (.slice A7 wa.length c7)) (first | exact ⟨s0, s1, s2, s3, s4, s5, m0, m1, m2, m3, m4, m5, m6, m7⟩) (first | (go_at_call 93; refine (PAR.out _ (by with_reducible repeat (first | exact HB.out | apply below_drew1))).mono ?_; rintro r W2 ⟨B, d, rfl, hd, hC, hb0⟩; have hb : Below W1.heap.size W1 W2 := (by first | exact hb0 | exact (below_drew1 (Below.refl W1.heap.size W1)).trans hb0); clear hb0; replace BS := Aside0.mk (blk_below BS.out hb); replace BN := Aside0.mk (blk_below BN.out hb); replace HB := Aside0.mk (below_step HB.out hb); have HC := Aside0.mk hC; have HD := Aside0.mk hd; clear hb hC hd; clear s0 s1 s2 s3 s4 s5 m0 m1 m2 m3 m4 m5 m6 m7; have s0 := blk_cell BS.out 0; have s1 := blk_cell BS.out 1; have s2 := blk_cell BS.out 2; have s3 := blk_cell BS.out 3; have s4 := blk_cell BS.out 4; have s5 := blk_cell BS.out 5; have m0 := blk_cell BN.out 0; have m1 := blk_cell BN.out 1; have m2 := blk_cell BN.out 2; have m3 := blk_cell BN.out 3; have m4 := blk_cell BN.out 4; have m5 := blk_cell BN.out 5; have m6 := blk_cell BN.out 6; have m7 := blk_cell BN.out 7; simp only [List.getElem?_toArray, List.getElem?_cons_zero, List.getElem?_cons_succ] at s0 s1 s2 s3 s4 s5 m0 m1 m2 m3 m4 m5 m6 m7) | (go_at_call 92; refine (CAN.out B d _ (by with_reducible repeat (first | exact HB.out | apply below_drew1)) (by repeat (first | exact HC.out | refine Kd.C_drew ?_)) HD.out).mono ?_; rintro r W3 ⟨rfl, hb0⟩; have hb : Below W2.heap.size W2 W3 := (by first | exact hb0 | exact (below_drew1 (Below.refl W2.heap.size W2)).trans hb0); clear hb0; replace BS := Aside0.mk (blk_below BS.out hb); replace BN := Aside0.mk (blk_below BN.out hb); replace HB := Aside0.mk (below_step HB.out hb); clear hb HC HD; clear s0 s1 s2 s3 s4 s5 m0 m1 m2 m3 m4 m5 m6 m7; have s0 := blk_cell BS.out 0; have s1 := blk_cell BS.out 1; have s2 := blk_cell BS.out 2; have s3 := blk_cell BS.out 3; have s4 := blk_cell BS.out 4; have s5 := blk_cell BS.out 5; have m0 := blk_cell BN.out 0; have m1 := blk_cell BN.out 1; have m2 := blk_cell BN.out 2; have m3 := blk_cell BN.out 3; have m4 := blk_cell BN.out 4; have m5 := blk_cell BN.out 5; have m6 := blk_cell BN.out 6; have m7 := blk_cell BN.out 7; simp only [List.getElem?_toArray, List.getElem?_cons_zero, List.getElem?_cons_succ] at s0 s1 s2 s3 s4 s5 m0 m1 m2 m3 m4 m5 m6 m7)) | fail)
     go_wp2_with fail
     go_ret
     rw [HE.out, HV.out]
     exact ⟨by simp, HB.out⟩
    ·
     have hv1 : decide ((40 : Int) < (v.length : Int)) = false := decide_eq_false (by omega)
     have HV := Aside0.mk (show decide (v.length ≤ 40) = true from decide_eq_true (by omega))
     clear hv
     (first | go_region_held3 (fun w' => w'.cell? ⟨w.heap.size, 0, none⟩ = some (.int .u64 e) ∧ w'.cell? ⟨w.heap.size, 1, none⟩ = some (.int .u64 g) ∧ w'.cell? ⟨w.heap.size, 2, none⟩ = some (.int .u64 n) ∧ w'.cell? ⟨w.heap.size, 3, none⟩ = some (.int .i64 t) ∧ w'.cell? ⟨w.heap.size, 4, none⟩ = some (.slice As xs.length cs) ∧ w'.cell? ⟨w.heap.size, 5, none⟩ = some (.slice (some ad) ns.length cn) ∧ w'.cell? ⟨w.heap.size + 1, 0, none⟩ = some (.slice A0 p.length c0) ∧ w'.cell? ⟨w.heap.size + 1, 1, none⟩ = some (.slice A1 v.length c1) ∧ w'.cell? ⟨w.heap.size + 1, 2, none⟩ = some (.int .u64 o) ∧ w'.cell? ⟨w.heap.size + 1, 3, none⟩ = some (.int .i64 m) ∧ w'.cell? ⟨w.heap.size + 1, 4, none⟩ = some (.slice A4 h.length c4) ∧ w'.cell? ⟨w.heap.size + 1, 5, none⟩ = some (.int .u64 ep) ∧ w'.cell? ⟨w.heap.size + 1, 6, none⟩ = some (.int .u64 ge) ∧ w'.cell? ⟨w.heap.size + 1, 7, none⟩ = some (.slice A7 wa.length c7)) (first | exact ⟨s0, s1, s2, s3, s4, s5, m0, m1, m2, m3, m4, m5, m6, m7⟩) (first | (go_at_call 93; refine (PAR.out _ (by with_reducible repeat (first | exact HB.out | apply below_drew1))).mono ?_; rintro r W2 ⟨B, d, rfl, hd, hC, hb0⟩; have hb : Below W1.heap.size W1 W2 := (by first | exact hb0 | exact (below_drew1 (Below.refl W1.heap.size W1)).trans hb0); clear hb0; replace BS := Aside0.mk (blk_below BS.out hb); replace BN := Aside0.mk (blk_below BN.out hb); replace HB := Aside0.mk (below_step HB.out hb); have HC := Aside0.mk hC; have HD := Aside0.mk hd; clear hb hC hd; clear s0 s1 s2 s3 s4 s5 m0 m1 m2 m3 m4 m5 m6 m7; have s0 := blk_cell BS.out 0; have s1 := blk_cell BS.out 1; have s2 := blk_cell BS.out 2; have s3 := blk_cell BS.out 3; have s4 := blk_cell BS.out 4; have s5 := blk_cell BS.out 5; have m0 := blk_cell BN.out 0; have m1 := blk_cell BN.out 1; have m2 := blk_cell BN.out 2; have m3 := blk_cell BN.out 3; have m4 := blk_cell BN.out 4; have m5 := blk_cell BN.out 5; have m6 := blk_cell BN.out 6; have m7 := blk_cell BN.out 7; simp only [List.getElem?_toArray, List.getElem?_cons_zero, List.getElem?_cons_succ] at s0 s1 s2 s3 s4 s5 m0 m1 m2 m3 m4 m5 m6 m7) | (go_at_call 92; refine (CAN.out B d _ (by with_reducible repeat (first | exact HB.out | apply below_drew1)) (by repeat (first | exact HC.out | refine Kd.C_drew ?_)) HD.out).mono ?_; rintro r W3 ⟨rfl, hb0⟩; have hb : Below W2.heap.size W2 W3 := (by first | exact hb0 | exact (below_drew1 (Below.refl W2.heap.size W2)).trans hb0); clear hb0; replace BS := Aside0.mk (blk_below BS.out hb); replace BN := Aside0.mk (blk_below BN.out hb); replace HB := Aside0.mk (below_step HB.out hb); clear hb HC HD; clear s0 s1 s2 s3 s4 s5 m0 m1 m2 m3 m4 m5 m6 m7; have s0 := blk_cell BS.out 0; have s1 := blk_cell BS.out 1; have s2 := blk_cell BS.out 2; have s3 := blk_cell BS.out 3; have s4 := blk_cell BS.out 4; have s5 := blk_cell BS.out 5; have m0 := blk_cell BN.out 0; have m1 := blk_cell BN.out 1; have m2 := blk_cell BN.out 2; have m3 := blk_cell BN.out 3; have m4 := blk_cell BN.out 4; have m5 := blk_cell BN.out 5; have m6 := blk_cell BN.out 6; have m7 := blk_cell BN.out 7; simp only [List.getElem?_toArray, List.getElem?_cons_zero, List.getElem?_cons_succ] at s0 s1 s2 s3 s4 s5 m0 m1 m2 m3 m4 m5 m6 m7)) | fail)
     by_cases h0 : o = 0
     ·
      subst h0
      have HO := Aside0.mk (show ((0 : Int) == 0) = true from rfl)
      go_wp2_with fail
      refine (ID4.out _ HB.out).mono ?_
      rintro r Wi ⟨rfl, hb⟩
      replace BS := Aside0.mk (blk_below BS.out hb)
      replace BN := Aside0.mk (blk_below BN.out hb)
      replace HB := Aside0.mk (below_step HB.out hb)
      clear hb
      clear s0 s1 s2 s3 s4 s5 m0 m1 m2 m3 m4 m5 m6 m7
      have s0 := blk_cell BS.out 0
      have s1 := blk_cell BS.out 1
      have s2 := blk_cell BS.out 2
      have s3 := blk_cell BS.out 3
      have s4 := blk_cell BS.out 4
      have s5 := blk_cell BS.out 5
      have m0 := blk_cell BN.out 0
      have m1 := blk_cell BN.out 1
      have m2 := blk_cell BN.out 2
      have m3 := blk_cell BN.out 3
      have m4 := blk_cell BN.out 4
      have m5 := blk_cell BN.out 5
      have m6 := blk_cell BN.out 6
      have m7 := blk_cell BN.out 7
      simp only [List.getElem?_toArray, List.getElem?_cons_zero, List.getElem?_cons_succ] at s0 s1 s2 s3 s4 s5 m0 m1 m2 m3 m4 m5 m6 m7
      cases b6 with
      | false =>
       go_wp2_with fail
       go_ret
       rw [HE.out, HO.out]
       exact ⟨by simp, HB.out⟩
      | true =>
       go_wp2_with fail
       refine (ID7.out _ HB.out).mono ?_
       rintro r Wj ⟨rfl, hb⟩
       replace BS := Aside0.mk (blk_below BS.out hb)
       replace BN := Aside0.mk (blk_below BN.out hb)
       replace HB := Aside0.mk (below_step HB.out hb)
       clear hb
       clear s0 s1 s2 s3 s4 s5 m0 m1 m2 m3 m4 m5 m6 m7
       have s0 := blk_cell BS.out 0
       have s1 := blk_cell BS.out 1
       have s2 := blk_cell BS.out 2
       have s3 := blk_cell BS.out 3
       have s4 := blk_cell BS.out 4
       have s5 := blk_cell BS.out 5
       have m0 := blk_cell BN.out 0
       have m1 := blk_cell BN.out 1
       have m2 := blk_cell BN.out 2
       have m3 := blk_cell BN.out 3
       have m4 := blk_cell BN.out 4
       have m5 := blk_cell BN.out 5
       have m6 := blk_cell BN.out 6
       have m7 := blk_cell BN.out 7
       simp only [List.getElem?_toArray, List.getElem?_cons_zero, List.getElem?_cons_succ] at s0 s1 s2 s3 s4 s5 m0 m1 m2 m3 m4 m5 m6 m7
       cases b7 with
       | false =>
        go_wp2_with fail
        go_ret
        rw [HE.out, HO.out]
        exact ⟨by simp, HB.out⟩
       | true =>
        go_wp2_with fail
        refine (LOC.out _ HB.out).mono ?_
        rintro r Wk ⟨rfl, hb⟩
        replace BS := Aside0.mk (blk_below BS.out hb)
        replace BN := Aside0.mk (blk_below BN.out hb)
        replace HB := Aside0.mk (below_step HB.out hb)
        clear hb
        clear s0 s1 s2 s3 s4 s5 m0 m1 m2 m3 m4 m5 m6 m7
        have s0 := blk_cell BS.out 0
        have s1 := blk_cell BS.out 1
        have s2 := blk_cell BS.out 2
        have s3 := blk_cell BS.out 3
        have s4 := blk_cell BS.out 4
        have s5 := blk_cell BS.out 5
        have m0 := blk_cell BN.out 0
        have m1 := blk_cell BN.out 1
        have m2 := blk_cell BN.out 2
        have m3 := blk_cell BN.out 3
        have m4 := blk_cell BN.out 4
        have m5 := blk_cell BN.out 5
        have m6 := blk_cell BN.out 6
        have m7 := blk_cell BN.out 7
        simp only [List.getElem?_toArray, List.getElem?_cons_zero, List.getElem?_cons_succ] at s0 s1 s2 s3 s4 s5 m0 m1 m2 m3 m4 m5 m6 m7
        go_wp2_with fail
        go_ret
        rw [HE.out, HO.out, HV.out]
        exact ⟨by simp, HB.out⟩
     ·
      have d0 : decide (o = 0) = false := decide_eq_false h0
      have d1 : (o == 0) = false := beq_eq_false_iff_ne.2 h0
      have HO := Aside0.mk d1
      clear d1
      go_wp2_with fail
      refine (LIV.out _ HB.out).mono ?_
      rintro r Wl ⟨rfl, hb⟩
      replace BS := Aside0.mk (blk_below BS.out hb)
      replace BN := Aside0.mk (blk_below BN.out hb)
      replace HB := Aside0.mk (below_step HB.out hb)
      clear hb
      clear s0 s1 s2 s3 s4 s5 m0 m1 m2 m3 m4 m5 m6 m7
      have s0 := blk_cell BS.out 0
      have s1 := blk_cell BS.out 1
      have s2 := blk_cell BS.out 2
      have s3 := blk_cell BS.out 3
      have s4 := blk_cell BS.out 4
      have s5 := blk_cell BS.out 5
      have m0 := blk_cell BN.out 0
      have m1 := blk_cell BN.out 1
      have m2 := blk_cell BN.out 2
      have m3 := blk_cell BN.out 3
      have m4 := blk_cell BN.out 4
      have m5 := blk_cell BN.out 5
      have m6 := blk_cell BN.out 6
      have m7 := blk_cell BN.out 7
      simp only [List.getElem?_toArray, List.getElem?_cons_zero, List.getElem?_cons_succ] at s0 s1 s2 s3 s4 s5 m0 m1 m2 m3 m4 m5 m6 m7
      cases b5 with
      | false =>
       go_wp2_with fail
       go_ret
       rw [HE.out, HO.out]
       exact ⟨by simp, HB.out⟩
      | true =>
       go_wp2_with fail
       refine (ID4.out _ HB.out).mono ?_
       rintro r Wi ⟨rfl, hb⟩
       replace BS := Aside0.mk (blk_below BS.out hb)
       replace BN := Aside0.mk (blk_below BN.out hb)
       replace HB := Aside0.mk (below_step HB.out hb)
       clear hb
       clear s0 s1 s2 s3 s4 s5 m0 m1 m2 m3 m4 m5 m6 m7
       have s0 := blk_cell BS.out 0
       have s1 := blk_cell BS.out 1
       have s2 := blk_cell BS.out 2
       have s3 := blk_cell BS.out 3
       have s4 := blk_cell BS.out 4
       have s5 := blk_cell BS.out 5
       have m0 := blk_cell BN.out 0
       have m1 := blk_cell BN.out 1
       have m2 := blk_cell BN.out 2
       have m3 := blk_cell BN.out 3
       have m4 := blk_cell BN.out 4
       have m5 := blk_cell BN.out 5
       have m6 := blk_cell BN.out 6
       have m7 := blk_cell BN.out 7
       simp only [List.getElem?_toArray, List.getElem?_cons_zero, List.getElem?_cons_succ] at s0 s1 s2 s3 s4 s5 m0 m1 m2 m3 m4 m5 m6 m7
       cases b6 with
       | false =>
        go_wp2_with fail
        go_ret
        rw [HE.out, HO.out]
        exact ⟨by simp, HB.out⟩
       | true =>
        go_wp2_with fail
        refine (ID7.out _ HB.out).mono ?_
        rintro r Wj ⟨rfl, hb⟩
        replace BS := Aside0.mk (blk_below BS.out hb)
        replace BN := Aside0.mk (blk_below BN.out hb)
        replace HB := Aside0.mk (below_step HB.out hb)
        clear hb
        clear s0 s1 s2 s3 s4 s5 m0 m1 m2 m3 m4 m5 m6 m7
        have s0 := blk_cell BS.out 0
        have s1 := blk_cell BS.out 1
        have s2 := blk_cell BS.out 2
        have s3 := blk_cell BS.out 3
        have s4 := blk_cell BS.out 4
        have s5 := blk_cell BS.out 5
        have m0 := blk_cell BN.out 0
        have m1 := blk_cell BN.out 1
        have m2 := blk_cell BN.out 2
        have m3 := blk_cell BN.out 3
        have m4 := blk_cell BN.out 4
        have m5 := blk_cell BN.out 5
        have m6 := blk_cell BN.out 6
        have m7 := blk_cell BN.out 7
        simp only [List.getElem?_toArray, List.getElem?_cons_zero, List.getElem?_cons_succ] at s0 s1 s2 s3 s4 s5 m0 m1 m2 m3 m4 m5 m6 m7
        cases b7 with
        | false =>
         go_wp2_with fail
         go_ret
         rw [HE.out, HO.out]
         exact ⟨by simp, HB.out⟩
        | true =>
         go_wp2_with fail
         refine (LOC.out _ HB.out).mono ?_
         rintro r Wk ⟨rfl, hb⟩
         replace BS := Aside0.mk (blk_below BS.out hb)
         replace BN := Aside0.mk (blk_below BN.out hb)
         replace HB := Aside0.mk (below_step HB.out hb)
         clear hb
         clear s0 s1 s2 s3 s4 s5 m0 m1 m2 m3 m4 m5 m6 m7
         have s0 := blk_cell BS.out 0
         have s1 := blk_cell BS.out 1
         have s2 := blk_cell BS.out 2
         have s3 := blk_cell BS.out 3
         have s4 := blk_cell BS.out 4
         have s5 := blk_cell BS.out 5
         have m0 := blk_cell BN.out 0
         have m1 := blk_cell BN.out 1
         have m2 := blk_cell BN.out 2
         have m3 := blk_cell BN.out 3
         have m4 := blk_cell BN.out 4
         have m5 := blk_cell BN.out 5
         have m6 := blk_cell BN.out 6
         have m7 := blk_cell BN.out 7
         simp only [List.getElem?_toArray, List.getElem?_cons_zero, List.getElem?_cons_succ] at s0 s1 s2 s3 s4 s5 m0 m1 m2 m3 m4 m5 m6 m7
         go_wp2_with fail
         go_ret
         rw [HE.out, HO.out, HV.out]
         exact ⟨by simp, HB.out⟩
  ·
   have di : decide (0 < i) = true := decide_eq_true (by omega)
   obtain ⟨Ap, cp, hpc1, hpc2⟩ := HPV.out (by omega)
   have wd0 := wrap_down i (by omega) (by omega)
   have wd3 : ((i - 1 : Nat) : Int) < (ns.length : Int) := by omega
   obtain ⟨j, hj⟩ : ∃ j, i - 1 = j := ⟨_, rfl⟩
   rw [hj] at wd0 wd3 hpc1
   have wd := (i64_w ((i : Int) - 1)).trans wd0
   have wd2 : (0 : Int) ≤ (j : Int) := by omega
   have HPC := Aside0.mk (And.intro hpc1 hpc2)
   have HI0 := Aside0.mk (show (i == 0) = false from beq_eq_false_iff_ne.2 hi0)
   clear wd0 hj hi0 hpc1 hpc2
   have CF : Aside0 (∀ w' : World, BelowOf W0 w' → (w'.cell? ⟨w.heap.size, 0, none⟩ = some (.int .u64 e) ∧ w'.cell? ⟨w.heap.size, 1, none⟩ = some (.int .u64 g) ∧ w'.cell? ⟨w.heap.size, 2, none⟩ = some (.int .u64 n) ∧ w'.cell? ⟨w.heap.size, 3, none⟩ = some (.int .i64 t) ∧ w'.cell? ⟨w.heap.size, 4, none⟩ = some (.slice As xs.length cs) ∧ w'.cell? ⟨w.heap.size, 5, none⟩ = some (.slice (some ad) ns.length cn) ∧ w'.cell? ⟨w.heap.size + 1, 0, none⟩ = some (.slice A0 p.length c0) ∧ w'.cell? ⟨w.heap.size + 1, 1, none⟩ = some (.slice A1 v.length c1) ∧ w'.cell? ⟨w.heap.size + 1, 2, none⟩ = some (.int .u64 o) ∧ w'.cell? ⟨w.heap.size + 1, 3, none⟩ = some (.int .i64 m) ∧ w'.cell? ⟨w.heap.size + 1, 4, none⟩ = some (.slice A4 h.length c4) ∧ w'.cell? ⟨w.heap.size + 1, 5, none⟩ = some (.int .u64 ep) ∧ w'.cell? ⟨w.heap.size + 1, 6, none⟩ = some (.int .u64 ge) ∧ w'.cell? ⟨w.heap.size + 1, 7, none⟩ = some (.slice A7 wa.length c7))) := ⟨fun w' hC => ⟨(hC.out.cell (World.block_lt_of_cell? _ _ s0)).trans s0, (hC.out.cell (World.block_lt_of_cell? _ _ s1)).trans s1, (hC.out.cell (World.block_lt_of_cell? _ _ s2)).trans s2, (hC.out.cell (World.block_lt_of_cell? _ _ s3)).trans s3, (hC.out.cell (World.block_lt_of_cell? _ _ s4)).trans s4, (hC.out.cell (World.block_lt_of_cell? _ _ s5)).trans s5, (hC.out.cell (World.block_lt_of_cell? _ _ m0)).trans m0, (hC.out.cell (World.block_lt_of_cell? _ _ m1)).trans m1, (hC.out.cell (World.block_lt_of_cell? _ _ m2)).trans m2, (hC.out.cell (World.block_lt_of_cell? _ _ m3)).trans m3, (hC.out.cell (World.block_lt_of_cell? _ _ m4)).trans m4, (hC.out.cell (World.block_lt_of_cell? _ _ m5)).trans m5, (hC.out.cell (World.block_lt_of_cell? _ _ m6)).trans m6, (hC.out.cell (World.block_lt_of_cell? _ _ m7)).trans m7⟩⟩
   have VP1 := Aside0.mk (fun (w' : World) (hC : BelowOf W0 w') => (VP.out w' (below_step HB.out hC.out)).mono (fun e w'' h => show e = .returned (.bool true) ∧ BelowOf W0 w'' from ⟨h.1, ⟨below_step hC.out h.2⟩⟩))
   clear s0 s1 s2 s3 s4 s5 m0 m1 m2 m3 m4 m5 m6 m7
   refine wp_region_below (by kernel_rfl) (by kernel_rfl) ?_
   repeat (first | go_big_quiet_skip | (go_big_quiet_want; rename_i K hK; refine quiet_mk (v := ?_) ?_ (hK _ ?_); rotate_left 1; (focus (intro w' hC; first | (go_simp; first | done | with_reducible rfl) | (obtain ⟨s0, s1, s2, s3, s4, s5, m0, m1, m2, m3, m4, m5, m6, m7⟩ := CF.out w' hC; go_simp; first | done | with_reducible rfl) | (have hp0 := ((below_step HB.out hC.out).cell (World.block_lt_of_cell? w _ HPC.out.1)).trans HPC.out.1; go_simp; first | done | with_reducible rfl) | (have hcv1 := Kd.C_string (P := Tryd.prog) (A := A0) (c := c0) Tryd.underlying22 Tryd.underlying5 Tryd.underlying9 (Kd.C_below HP.out (below_step HB.out hC.out)); go_simp; first | done | with_reducible rfl) | (have hcv2 := Kd.C_string (P := Tryd.prog) (A := Ap) (c := cp) Tryd.underlying22 Tryd.underlying5 Tryd.underlying9 (Kd.C_below HPC.out.2 (below_step HB.out hC.out)); go_simp; first | done | with_reducible rfl) | (have hle := HLE.out; go_simp; first | done | with_reducible rfl) | (go_simp; go_at_call 9; exact VP1.out w' hC))); clear hK K); try simp only [Act.put, List.setIfInBounds_toArray, List.set_cons_zero, List.set_cons_succ])
   refine wpQuiet_nil ?_
   intro W1 hb1
   have hb := hb1.out
   clear hb1 CF VP1
   replace BS := Aside0.mk (blk_below BS.out hb)
   replace BN := Aside0.mk (blk_below BN.out hb)
   replace HB := Aside0.mk (below_step HB.out hb)
   clear hb
   have s0 := blk_cell BS.out 0
   have s1 := blk_cell BS.out 1
   have s2 := blk_cell BS.out 2
   have s3 := blk_cell BS.out 3
   have s4 := blk_cell BS.out 4
   have s5 := blk_cell BS.out 5
   have m0 := blk_cell BN.out 0
   have m1 := blk_cell BN.out 1
   have m2 := blk_cell BN.out 2
   have m3 := blk_cell BN.out 3
   have m4 := blk_cell BN.out 4
   have m5 := blk_cell BN.out 5
   have m6 := blk_cell BN.out 6
   have m7 := blk_cell BN.out 7
   simp only [List.getElem?_toArray, List.getElem?_cons_zero, List.getElem?_cons_succ] at s0 s1 s2 s3 s4 s5 m0 m1 m2 m3 m4 m5 m6 m7
   rw [HLE.out]
   clear HLE
   cases b2 with
   | true =>
    go_wp2_with fail
    go_ret
    rw [HE.out, HI0.out]
    exact ⟨by simp, HB.out⟩
   | false =>
    rw [HI0.out] at HE
    go_wp2_with fail
    cases b3 with
    | false =>
     (first | go_region_with (first | (go_at_call 93; refine (PAR.out _ (by with_reducible repeat (first | exact HB.out | apply below_drew1))).mono ?_; rintro r W2 ⟨B, d, rfl, hd, hC, hb0⟩; have hb : Below W1.heap.size W1 W2 := (by first | exact hb0 | exact (below_drew1 (Below.refl W1.heap.size W1)).trans hb0); clear hb0; replace BS := Aside0.mk (blk_below BS.out hb); replace BN := Aside0.mk (blk_below BN.out hb); replace HB := Aside0.mk (below_step HB.out hb); have HC := Aside0.mk hC; have HD := Aside0.mk hd; clear hb hC hd; clear s0 s1 s2 s3 s4 s5 m0 m1 m2 m3 m4 m5 m6 m7; have s0 := blk_cell BS.out 0; have s1 := blk_cell BS.out 1; have s2 := blk_cell BS.out 2; have s3 := blk_cell BS.out 3; have s4 := blk_cell BS.out 4; have s5 := blk_cell BS.out 5; have m0 := blk_cell BN.out 0; have m1 := blk_cell BN.out 1; have m2 := blk_cell BN.out 2; have m3 := blk_cell BN.out 3; have m4 := blk_cell BN.out 4; have m5 := blk_cell BN.out 5; have m6 := blk_cell BN.out 6; have m7 := blk_cell BN.out 7; simp only [List.getElem?_toArray, List.getElem?_cons_zero, List.getElem?_cons_succ] at s0 s1 s2 s3 s4 s5 m0 m1 m2 m3 m4 m5 m6 m7) | (go_at_call 92; refine (CAN.out B d _ (by with_reducible repeat (first | exact HB.out | apply below_drew1)) (by repeat (first | exact HC.out | refine Kd.C_drew ?_)) HD.out).mono ?_; rintro r W3 ⟨rfl, hb0⟩; have hb : Below W2.heap.size W2 W3 := (by first | exact hb0 | exact (below_drew1 (Below.refl W2.heap.size W2)).trans hb0); clear hb0; replace BS := Aside0.mk (blk_below BS.out hb); replace BN := Aside0.mk (blk_below BN.out hb); replace HB := Aside0.mk (below_step HB.out hb); clear hb HC HD; clear s0 s1 s2 s3 s4 s5 m0 m1 m2 m3 m4 m5 m6 m7; have s0 := blk_cell BS.out 0; have s1 := blk_cell BS.out 1; have s2 := blk_cell BS.out 2; have s3 := blk_cell BS.out 3; have s4 := blk_cell BS.out 4; have s5 := blk_cell BS.out 5; have m0 := blk_cell BN.out 0; have m1 := blk_cell BN.out 1; have m2 := blk_cell BN.out 2; have m3 := blk_cell BN.out 3; have m4 := blk_cell BN.out 4; have m5 := blk_cell BN.out 5; have m6 := blk_cell BN.out 6; have m7 := blk_cell BN.out 7; simp only [List.getElem?_toArray, List.getElem?_cons_zero, List.getElem?_cons_succ] at s0 s1 s2 s3 s4 s5 m0 m1 m2 m3 m4 m5 m6 m7)) | fail)
     all_goals (go_wp2_with fail; go_ret; rw [HE.out]; exact ⟨by simp, HB.out⟩)
    | true =>
     by_cases hv : 40 < v.length
     ·
      have hv1 : decide ((40 : Int) < (v.length : Int)) = true := decide_eq_true (by omega)
      have HV := Aside0.mk (show decide (v.length ≤ 40) = false from decide_eq_false (by omega))
      clear hv
      (first | go_region_held3 (fun w' => w'.cell? ⟨w.heap.size, 0, none⟩ = some (.int .u64 e) ∧ w'.cell? ⟨w.heap.size, 1, none⟩ = some (.int .u64 g) ∧ w'.cell? ⟨w.heap.size, 2, none⟩ = some (.int .u64 n) ∧ w'.cell? ⟨w.heap.size, 3, none⟩ = some (.int .i64 t) ∧ w'.cell? ⟨w.heap.size, 4, none⟩ = some (.slice As xs.length cs) ∧ w'.cell? ⟨w.heap.size, 5, none⟩ = some (.slice (some ad) ns.length cn) ∧ w'.cell? ⟨w.heap.size + 1, 0, none⟩ = some (.slice A0 p.length c0) ∧ w'.cell? ⟨w.heap.size + 1, 1, none⟩ = some (.slice A1 v.length c1) ∧ w'.cell? ⟨w.heap.size + 1, 2, none⟩ = some (.int .u64 o) ∧ w'.cell? ⟨w.heap.size + 1, 3, none⟩ = some (.int .i64 m) ∧ w'.cell? ⟨w.heap.size + 1, 4, none⟩ = some (.slice A4 h.length c4) ∧ w'.cell? ⟨w.heap.size + 1, 5, none⟩ = some (.int .u64 ep) ∧ w'.cell? ⟨w.heap.size + 1, 6, none⟩ = some (.int .u64 ge) ∧ w'.cell? ⟨w.heap.size + 1, 7, none⟩ = some (.slice A7 wa.length c7)) (first | exact ⟨s0, s1, s2, s3, s4, s5, m0, m1, m2, m3, m4, m5, m6, m7⟩) (first | (go_at_call 93; refine (PAR.out _ (by with_reducible repeat (first | exact HB.out | apply below_drew1))).mono ?_; rintro r W2 ⟨B, d, rfl, hd, hC, hb0⟩; have hb : Below W1.heap.size W1 W2 := (by first | exact hb0 | exact (below_drew1 (Below.refl W1.heap.size W1)).trans hb0); clear hb0; replace BS := Aside0.mk (blk_below BS.out hb); replace BN := Aside0.mk (blk_below BN.out hb); replace HB := Aside0.mk (below_step HB.out hb); have HC := Aside0.mk hC; have HD := Aside0.mk hd; clear hb hC hd; clear s0 s1 s2 s3 s4 s5 m0 m1 m2 m3 m4 m5 m6 m7; have s0 := blk_cell BS.out 0; have s1 := blk_cell BS.out 1; have s2 := blk_cell BS.out 2; have s3 := blk_cell BS.out 3; have s4 := blk_cell BS.out 4; have s5 := blk_cell BS.out 5; have m0 := blk_cell BN.out 0; have m1 := blk_cell BN.out 1; have m2 := blk_cell BN.out 2; have m3 := blk_cell BN.out 3; have m4 := blk_cell BN.out 4; have m5 := blk_cell BN.out 5; have m6 := blk_cell BN.out 6; have m7 := blk_cell BN.out 7; simp only [List.getElem?_toArray, List.getElem?_cons_zero, List.getElem?_cons_succ] at s0 s1 s2 s3 s4 s5 m0 m1 m2 m3 m4 m5 m6 m7) | (go_at_call 92; refine (CAN.out B d _ (by with_reducible repeat (first | exact HB.out | apply below_drew1)) (by repeat (first | exact HC.out | refine Kd.C_drew ?_)) HD.out).mono ?_; rintro r W3 ⟨rfl, hb0⟩; have hb : Below W2.heap.size W2 W3 := (by first | exact hb0 | exact (below_drew1 (Below.refl W2.heap.size W2)).trans hb0); clear hb0; replace BS := Aside0.mk (blk_below BS.out hb); replace BN := Aside0.mk (blk_below BN.out hb); replace HB := Aside0.mk (below_step HB.out hb); clear hb HC HD; clear s0 s1 s2 s3 s4 s5 m0 m1 m2 m3 m4 m5 m6 m7; have s0 := blk_cell BS.out 0; have s1 := blk_cell BS.out 1; have s2 := blk_cell BS.out 2; have s3 := blk_cell BS.out 3; have s4 := blk_cell BS.out 4; have s5 := blk_cell BS.out 5; have m0 := blk_cell BN.out 0; have m1 := blk_cell BN.out 1; have m2 := blk_cell BN.out 2; have m3 := blk_cell BN.out 3; have m4 := blk_cell BN.out 4; have m5 := blk_cell BN.out 5; have m6 := blk_cell BN.out 6; have m7 := blk_cell BN.out 7; simp only [List.getElem?_toArray, List.getElem?_cons_zero, List.getElem?_cons_succ] at s0 s1 s2 s3 s4 s5 m0 m1 m2 m3 m4 m5 m6 m7)) | fail)
      go_wp2_with fail
      go_ret
      rw [HE.out, HV.out]
      exact ⟨by simp, HB.out⟩
     ·
      have hv1 : decide ((40 : Int) < (v.length : Int)) = false := decide_eq_false (by omega)
      have HV := Aside0.mk (show decide (v.length ≤ 40) = true from decide_eq_true (by omega))
      clear hv
      (first | go_region_held3 (fun w' => w'.cell? ⟨w.heap.size, 0, none⟩ = some (.int .u64 e) ∧ w'.cell? ⟨w.heap.size, 1, none⟩ = some (.int .u64 g) ∧ w'.cell? ⟨w.heap.size, 2, none⟩ = some (.int .u64 n) ∧ w'.cell? ⟨w.heap.size, 3, none⟩ = some (.int .i64 t) ∧ w'.cell? ⟨w.heap.size, 4, none⟩ = some (.slice As xs.length cs) ∧ w'.cell? ⟨w.heap.size, 5, none⟩ = some (.slice (some ad) ns.length cn) ∧ w'.cell? ⟨w.heap.size + 1, 0, none⟩ = some (.slice A0 p.length c0) ∧ w'.cell? ⟨w.heap.size + 1, 1, none⟩ = some (.slice A1 v.length c1) ∧ w'.cell? ⟨w.heap.size + 1, 2, none⟩ = some (.int .u64 o) ∧ w'.cell? ⟨w.heap.size + 1, 3, none⟩ = some (.int .i64 m) ∧ w'.cell? ⟨w.heap.size + 1, 4, none⟩ = some (.slice A4 h.length c4) ∧ w'.cell? ⟨w.heap.size + 1, 5, none⟩ = some (.int .u64 ep) ∧ w'.cell? ⟨w.heap.size + 1, 6, none⟩ = some (.int .u64 ge) ∧ w'.cell? ⟨w.heap.size + 1, 7, none⟩ = some (.slice A7 wa.length c7)) (first | exact ⟨s0, s1, s2, s3, s4, s5, m0, m1, m2, m3, m4, m5, m6, m7⟩) (first | (go_at_call 93; refine (PAR.out _ (by with_reducible repeat (first | exact HB.out | apply below_drew1))).mono ?_; rintro r W2 ⟨B, d, rfl, hd, hC, hb0⟩; have hb : Below W1.heap.size W1 W2 := (by first | exact hb0 | exact (below_drew1 (Below.refl W1.heap.size W1)).trans hb0); clear hb0; replace BS := Aside0.mk (blk_below BS.out hb); replace BN := Aside0.mk (blk_below BN.out hb); replace HB := Aside0.mk (below_step HB.out hb); have HC := Aside0.mk hC; have HD := Aside0.mk hd; clear hb hC hd; clear s0 s1 s2 s3 s4 s5 m0 m1 m2 m3 m4 m5 m6 m7; have s0 := blk_cell BS.out 0; have s1 := blk_cell BS.out 1; have s2 := blk_cell BS.out 2; have s3 := blk_cell BS.out 3; have s4 := blk_cell BS.out 4; have s5 := blk_cell BS.out 5; have m0 := blk_cell BN.out 0; have m1 := blk_cell BN.out 1; have m2 := blk_cell BN.out 2; have m3 := blk_cell BN.out 3; have m4 := blk_cell BN.out 4; have m5 := blk_cell BN.out 5; have m6 := blk_cell BN.out 6; have m7 := blk_cell BN.out 7; simp only [List.getElem?_toArray, List.getElem?_cons_zero, List.getElem?_cons_succ] at s0 s1 s2 s3 s4 s5 m0 m1 m2 m3 m4 m5 m6 m7) | (go_at_call 92; refine (CAN.out B d _ (by with_reducible repeat (first | exact HB.out | apply below_drew1)) (by repeat (first | exact HC.out | refine Kd.C_drew ?_)) HD.out).mono ?_; rintro r W3 ⟨rfl, hb0⟩; have hb : Below W2.heap.size W2 W3 := (by first | exact hb0 | exact (below_drew1 (Below.refl W2.heap.size W2)).trans hb0); clear hb0; replace BS := Aside0.mk (blk_below BS.out hb); replace BN := Aside0.mk (blk_below BN.out hb); replace HB := Aside0.mk (below_step HB.out hb); clear hb HC HD; clear s0 s1 s2 s3 s4 s5 m0 m1 m2 m3 m4 m5 m6 m7; have s0 := blk_cell BS.out 0; have s1 := blk_cell BS.out 1; have s2 := blk_cell BS.out 2; have s3 := blk_cell BS.out 3; have s4 := blk_cell BS.out 4; have s5 := blk_cell BS.out 5; have m0 := blk_cell BN.out 0; have m1 := blk_cell BN.out 1; have m2 := blk_cell BN.out 2; have m3 := blk_cell BN.out 3; have m4 := blk_cell BN.out 4; have m5 := blk_cell BN.out 5; have m6 := blk_cell BN.out 6; have m7 := blk_cell BN.out 7; simp only [List.getElem?_toArray, List.getElem?_cons_zero, List.getElem?_cons_succ] at s0 s1 s2 s3 s4 s5 m0 m1 m2 m3 m4 m5 m6 m7)) | fail)
      by_cases h0 : o = 0
      ·
       subst h0
       have HO := Aside0.mk (show ((0 : Int) == 0) = true from rfl)
       go_wp2_with fail
       refine (ID4.out _ HB.out).mono ?_
       rintro r Wi ⟨rfl, hb⟩
       replace BS := Aside0.mk (blk_below BS.out hb)
       replace BN := Aside0.mk (blk_below BN.out hb)
       replace HB := Aside0.mk (below_step HB.out hb)
       clear hb
       clear s0 s1 s2 s3 s4 s5 m0 m1 m2 m3 m4 m5 m6 m7
       have s0 := blk_cell BS.out 0
       have s1 := blk_cell BS.out 1
       have s2 := blk_cell BS.out 2
       have s3 := blk_cell BS.out 3
       have s4 := blk_cell BS.out 4
       have s5 := blk_cell BS.out 5
       have m0 := blk_cell BN.out 0
       have m1 := blk_cell BN.out 1
       have m2 := blk_cell BN.out 2
       have m3 := blk_cell BN.out 3
       have m4 := blk_cell BN.out 4
       have m5 := blk_cell BN.out 5
       have m6 := blk_cell BN.out 6
       have m7 := blk_cell BN.out 7
       simp only [List.getElem?_toArray, List.getElem?_cons_zero, List.getElem?_cons_succ] at s0 s1 s2 s3 s4 s5 m0 m1 m2 m3 m4 m5 m6 m7
       cases b6 with
       | false =>
        go_wp2_with fail
        go_ret
        rw [HE.out, HO.out]
        exact ⟨by simp, HB.out⟩
       | true =>
        go_wp2_with fail
        refine (ID7.out _ HB.out).mono ?_
        rintro r Wj ⟨rfl, hb⟩
        replace BS := Aside0.mk (blk_below BS.out hb)
        replace BN := Aside0.mk (blk_below BN.out hb)
        replace HB := Aside0.mk (below_step HB.out hb)
        clear hb
        clear s0 s1 s2 s3 s4 s5 m0 m1 m2 m3 m4 m5 m6 m7
        have s0 := blk_cell BS.out 0
        have s1 := blk_cell BS.out 1
        have s2 := blk_cell BS.out 2
        have s3 := blk_cell BS.out 3
        have s4 := blk_cell BS.out 4
        have s5 := blk_cell BS.out 5
        have m0 := blk_cell BN.out 0
        have m1 := blk_cell BN.out 1
        have m2 := blk_cell BN.out 2
        have m3 := blk_cell BN.out 3
        have m4 := blk_cell BN.out 4
        have m5 := blk_cell BN.out 5
        have m6 := blk_cell BN.out 6
        have m7 := blk_cell BN.out 7
        simp only [List.getElem?_toArray, List.getElem?_cons_zero, List.getElem?_cons_succ] at s0 s1 s2 s3 s4 s5 m0 m1 m2 m3 m4 m5 m6 m7
        cases b7 with
        | false =>
         go_wp2_with fail
         go_ret
         rw [HE.out, HO.out]
         exact ⟨by simp, HB.out⟩
        | true =>
         go_wp2_with fail
         refine (LOC.out _ HB.out).mono ?_
         rintro r Wk ⟨rfl, hb⟩
         replace BS := Aside0.mk (blk_below BS.out hb)
         replace BN := Aside0.mk (blk_below BN.out hb)
         replace HB := Aside0.mk (below_step HB.out hb)
         clear hb
         clear s0 s1 s2 s3 s4 s5 m0 m1 m2 m3 m4 m5 m6 m7
         have s0 := blk_cell BS.out 0
         have s1 := blk_cell BS.out 1
         have s2 := blk_cell BS.out 2
         have s3 := blk_cell BS.out 3
         have s4 := blk_cell BS.out 4
         have s5 := blk_cell BS.out 5
         have m0 := blk_cell BN.out 0
         have m1 := blk_cell BN.out 1
         have m2 := blk_cell BN.out 2
         have m3 := blk_cell BN.out 3
         have m4 := blk_cell BN.out 4
         have m5 := blk_cell BN.out 5
         have m6 := blk_cell BN.out 6
         have m7 := blk_cell BN.out 7
         simp only [List.getElem?_toArray, List.getElem?_cons_zero, List.getElem?_cons_succ] at s0 s1 s2 s3 s4 s5 m0 m1 m2 m3 m4 m5 m6 m7
         go_wp2_with fail
         go_ret
         rw [HE.out, HO.out, HV.out]
         exact ⟨by simp, HB.out⟩
      ·
       have d0 : decide (o = 0) = false := decide_eq_false h0
       have d1 : (o == 0) = false := beq_eq_false_iff_ne.2 h0
       have HO := Aside0.mk d1
       clear d1
       go_wp2_with fail
       refine (LIV.out _ HB.out).mono ?_
       rintro r Wl ⟨rfl, hb⟩
       replace BS := Aside0.mk (blk_below BS.out hb)
       replace BN := Aside0.mk (blk_below BN.out hb)
       replace HB := Aside0.mk (below_step HB.out hb)
       clear hb
       clear s0 s1 s2 s3 s4 s5 m0 m1 m2 m3 m4 m5 m6 m7
       have s0 := blk_cell BS.out 0
       have s1 := blk_cell BS.out 1
       have s2 := blk_cell BS.out 2
       have s3 := blk_cell BS.out 3
       have s4 := blk_cell BS.out 4
       have s5 := blk_cell BS.out 5
       have m0 := blk_cell BN.out 0
       have m1 := blk_cell BN.out 1
       have m2 := blk_cell BN.out 2
       have m3 := blk_cell BN.out 3
       have m4 := blk_cell BN.out 4
       have m5 := blk_cell BN.out 5
       have m6 := blk_cell BN.out 6
       have m7 := blk_cell BN.out 7
       simp only [List.getElem?_toArray, List.getElem?_cons_zero, List.getElem?_cons_succ] at s0 s1 s2 s3 s4 s5 m0 m1 m2 m3 m4 m5 m6 m7
       cases b5 with
       | false =>
        go_wp2_with fail
        go_ret
        rw [HE.out, HO.out]
        exact ⟨by simp, HB.out⟩
       | true =>
        go_wp2_with fail
        refine (ID4.out _ HB.out).mono ?_
        rintro r Wi ⟨rfl, hb⟩
        replace BS := Aside0.mk (blk_below BS.out hb)
        replace BN := Aside0.mk (blk_below BN.out hb)
        replace HB := Aside0.mk (below_step HB.out hb)
        clear hb
        clear s0 s1 s2 s3 s4 s5 m0 m1 m2 m3 m4 m5 m6 m7
        have s0 := blk_cell BS.out 0
        have s1 := blk_cell BS.out 1
        have s2 := blk_cell BS.out 2
        have s3 := blk_cell BS.out 3
        have s4 := blk_cell BS.out 4
        have s5 := blk_cell BS.out 5
        have m0 := blk_cell BN.out 0
        have m1 := blk_cell BN.out 1
        have m2 := blk_cell BN.out 2
        have m3 := blk_cell BN.out 3
        have m4 := blk_cell BN.out 4
        have m5 := blk_cell BN.out 5
        have m6 := blk_cell BN.out 6
        have m7 := blk_cell BN.out 7
        simp only [List.getElem?_toArray, List.getElem?_cons_zero, List.getElem?_cons_succ] at s0 s1 s2 s3 s4 s5 m0 m1 m2 m3 m4 m5 m6 m7
        cases b6 with
        | false =>
         go_wp2_with fail
         go_ret
         rw [HE.out, HO.out]
         exact ⟨by simp, HB.out⟩
        | true =>
         go_wp2_with fail
         refine (ID7.out _ HB.out).mono ?_
         rintro r Wj ⟨rfl, hb⟩
         replace BS := Aside0.mk (blk_below BS.out hb)
         replace BN := Aside0.mk (blk_below BN.out hb)
         replace HB := Aside0.mk (below_step HB.out hb)
         clear hb
         clear s0 s1 s2 s3 s4 s5 m0 m1 m2 m3 m4 m5 m6 m7
         have s0 := blk_cell BS.out 0
         have s1 := blk_cell BS.out 1
         have s2 := blk_cell BS.out 2
         have s3 := blk_cell BS.out 3
         have s4 := blk_cell BS.out 4
         have s5 := blk_cell BS.out 5
         have m0 := blk_cell BN.out 0
         have m1 := blk_cell BN.out 1
         have m2 := blk_cell BN.out 2
         have m3 := blk_cell BN.out 3
         have m4 := blk_cell BN.out 4
         have m5 := blk_cell BN.out 5
         have m6 := blk_cell BN.out 6
         have m7 := blk_cell BN.out 7
         simp only [List.getElem?_toArray, List.getElem?_cons_zero, List.getElem?_cons_succ] at s0 s1 s2 s3 s4 s5 m0 m1 m2 m3 m4 m5 m6 m7
         cases b7 with
         | false =>
          go_wp2_with fail
          go_ret
          rw [HE.out, HO.out]
          exact ⟨by simp, HB.out⟩
         | true =>
          go_wp2_with fail
          refine (LOC.out _ HB.out).mono ?_
          rintro r Wk ⟨rfl, hb⟩
          replace BS := Aside0.mk (blk_below BS.out hb)
          replace BN := Aside0.mk (blk_below BN.out hb)
          replace HB := Aside0.mk (below_step HB.out hb)
          clear hb
          clear s0 s1 s2 s3 s4 s5 m0 m1 m2 m3 m4 m5 m6 m7
          have s0 := blk_cell BS.out 0
          have s1 := blk_cell BS.out 1
          have s2 := blk_cell BS.out 2
          have s3 := blk_cell BS.out 3
          have s4 := blk_cell BS.out 4
          have s5 := blk_cell BS.out 5
          have m0 := blk_cell BN.out 0
          have m1 := blk_cell BN.out 1
          have m2 := blk_cell BN.out 2
          have m3 := blk_cell BN.out 3
          have m4 := blk_cell BN.out 4
          have m5 := blk_cell BN.out 5
          have m6 := blk_cell BN.out 6
          have m7 := blk_cell BN.out 7
          simp only [List.getElem?_toArray, List.getElem?_cons_zero, List.getElem?_cons_succ] at s0 s1 s2 s3 s4 s5 m0 m1 m2 m3 m4 m5 m6 m7
          go_wp2_with fail
          go_ret
          rw [HE.out, HO.out, HV.out]
          exact ⟨by simp, HB.out⟩
def byB (l : List Int) : Bool := l.all fun z => decide (0 ≤ z) && decide (z < 256)
theorem byB_iff (l : List Int) : byB l = true ↔ ∀ z ∈ l, 0 ≤ z ∧ z < 256 := by
 unfold byB
 simp only [List.all_eq_true, Bool.and_eq_true, decide_eq_true_eq]
def smB (xs : List Se) (ns : List No) : Bool :=
 decide (xs.length ≤ 2097152) && decide (ns.length ≤ 2097152) && (xs.all fun x => decide (x.f2.length ≤ 2097152) && x.f2.all fun y => decide (y.f1.length ≤ 2097152) && byB y.f1) &&
  ns.all fun x => decide (x.f0.length ≤ 2097152) && byB x.f0 && decide (x.f1.length ≤ 2097152) && decide (x.f4.length ≤ 2097152) && decide (x.f7.length ≤ 2097152)
theorem smB_iff (xs : List Se) (ns : List No) : smB xs ns = true ↔ SmS xs ns := by
 unfold smB
 simp only [Bool.and_eq_true, List.all_eq_true, decide_eq_true_eq, byB_iff]
 constructor
 ·
  rintro ⟨⟨⟨h1, h2⟩, h3⟩, h4⟩
  exact ⟨h1, h2, fun x hx => ⟨(h3 x hx).1, (h3 x hx).2⟩, fun x hx => by
   obtain ⟨⟨⟨⟨a, b⟩, c⟩, d⟩, e⟩ := h4 x hx
   exact ⟨⟨⟨a, b⟩, c⟩, d, e⟩⟩
 ·
  intro h
  exact ⟨⟨⟨h.x, h.n⟩, fun x hx => h.e x hx⟩, fun x hx => by
   obtain ⟨⟨⟨a, b⟩, c⟩, d, e⟩ := h.m x hx
   exact ⟨⟨⟨⟨a, b⟩, c⟩, d⟩, e⟩⟩
def spec_l3nodeOK.f (a0_0 : Int) (a0_1 : Int) (a0_2 : Int) (a0_3 : Int) (l0_4 : List Se) (l0_5 : List No) (a1 : Int) : Option Bool :=
 if (smB l0_4 l0_5 && decide (0 ≤ a1) && decide (a1 < (l0_5.length : Int))) = true then some (nodeB a0_0 a0_1 l0_4 l0_5 a1.toNat (rd_T76 l0_5 a1)) else none
theorem spec_l3nodeOK.calls (a0_0 : Int) (a0_1 : Int) (a0_2 : Int) (a0_3 : Int) (A0_4 : Option Addr) (c0_4 : Nat) (l0_4 : List Se) (A0_5 : Option Addr) (c0_5 : Nat) (l0_5 : List No) (a1 : Int) (r : Bool) (w : World) (hr0_4 : Kd.C kSe w A0_4 l0_4.length l0_4) (hc0_4 : l0_4.length ≤ c0_4) (hr0_5 : Kd.C kNo w A0_5 l0_5.length l0_5) (hc0_5 : l0_5.length ≤ c0_5) (h : spec_l3nodeOK.f a0_0 a0_1 a0_2 a0_3 l0_4 l0_5 a1 = some r) :
  Calls Tryd.prog 44 #[.agg #[.int .u64 a0_0, .int .u64 a0_1, .int .u64 a0_2, .int .i64 a0_3, .slice A0_4 l0_4.length c0_4, .slice A0_5 l0_5.length c0_5], .int .i64 a1] w fun e w' => e = .returned (.bool r) ∧ Below w.heap.size w w' := by
 unfold spec_l3nodeOK.f at h
 split at h
 ·
  rename_i hb
  have := Option.some.inj h
  subst this
  simp only [Bool.and_eq_true, decide_eq_true_eq, smB_iff] at hb
  obtain ⟨⟨hs, h0⟩, h1⟩ := hb
  obtain ⟨i, rfl⟩ : ∃ i : Nat, a1 = (i : Int) := ⟨a1.toNat, by omega⟩
  have hi : i < l0_5.length := by omega
  rw [rd_no l0_5 i hi, Int.toNat_natCast]
  exact spec_nodeOK_calls a0_0 a0_1 a0_2 a0_3 A0_4 c0_4 l0_4 A0_5 c0_5 l0_5 i w hr0_4 hc0_4 hr0_5 hc0_5 hs hi
 ·
  cases h
end Go.Proofs.YtbgbocdohadhoaaDoor.Print
