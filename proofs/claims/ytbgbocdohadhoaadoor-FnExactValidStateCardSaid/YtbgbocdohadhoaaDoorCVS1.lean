/- Texts of this session, joined by its own program. -/
import Derived.Test.YtbgbocdohadhoaaDoorCVS0
namespace Go.Proofs.YtbgbocdohadhoaaDoor.Print
open Go.RowKit Go.Proofs.YtbgbocdohadhoaaDoorW.PrintWords Go.Proofs.YtbgbocdohadhoaaDoorW.PrintLast Go.Proofs.YtbgbocdohadhoaaDoorW.PrintMore
set_option linter.unusedVariables false
set_option linter.unusedSimpArgs false
def laws_toNode.f (k : Nat) (l0_0 : List Int) (l0_1 : List Int) (a0_2 : Int) (a0_3 : Int) (l0_4 : List Int) (a0_5 : Int) (a0_6 : Int) (l0_7 : List Int) : Option (List Int × List Int × Int × Int × List Int × Int × Int × List Int) := (laws_toByteS.f k l0_0).bind fun t200 => ((laws_toByteS.f k l0_1).bind fun t203 => ((laws_toUint64S.f k l0_4).bind fun t206 => ((laws_toUint64S.f k l0_7).bind fun t209 => (some (t200, t203, a0_2, a0_3, t206, a0_5, a0_6, t209)))))
set_option maxHeartbeats 8000000 in
set_option maxRecDepth 100000 in
theorem laws_toNode.calls (k : Nat) (A0_0 : Option Addr) (c0_0 : Nat) (l0_0 : List Int) (A0_1 : Option Addr) (c0_1 : Nat) (l0_1 : List Int) (a0_2 : Int) (a0_3 : Int) (A0_4 : Option Addr) (c0_4 : Nat) (l0_4 : List Int) (a0_5 : Int) (a0_6 : Int) (A0_7 : Option Addr) (c0_7 : Nat) (l0_7 : List Int) (r1 : List Int) (r2 : List Int) (r3 : Int) (r4 : Int) (r5 : List Int) (r6 : Int) (r7 : Int) (r8 : List Int) (w : World) (hr0_0 : Kd.C (Kd.int .u8) w A0_0 l0_0.length l0_0) (hc0_0 : l0_0.length ≤ c0_0) (hr0_1 : Kd.C (Kd.int .u8) w A0_1 l0_1.length l0_1) (hc0_1 : l0_1.length ≤ c0_1) (hr0_4 : Kd.C (Kd.int .u64) w A0_4 l0_4.length l0_4) (hc0_4 : l0_4.length ≤ c0_4) (hr0_7 : Kd.C (Kd.int .u64) w A0_7 l0_7.length l0_7) (hc0_7 : l0_7.length ≤ c0_7) (h : laws_toNode.f k l0_0 l0_1 a0_2 a0_3 l0_4 a0_5 a0_6 l0_7 = some (r1, r2, r3, r4, r5, r6, r7, r8)) :
  Calls Tryd.prog 98 #[.agg #[.slice A0_0 l0_0.length c0_0, .slice A0_1 l0_1.length c0_1, .int .u64 a0_2, .int .i64 a0_3, .slice A0_4 l0_4.length c0_4, .int .u64 a0_5, .int .u64 a0_6, .slice A0_7 l0_7.length c0_7]] w fun e w' => ∃ v0_ v1_ v4_ v7_ : Value, e = .returned (.agg #[v0_, v1_, .int .u64 r3, .int .i64 r4, v4_, .int .u64 r6, .int .u64 r7, v7_]) ∧ Kd.R (Kd.int .u8) 5 w' w.heap.size (fun k_ => some k_ ≠ (v1_ : Value).ownBlock) v0_ r1 ∧ Kd.R (Kd.int .u8) 5 w' w.heap.size (fun k_ => some k_ ≠ (v0_ : Value).ownBlock) v1_ r2 ∧ Kd.R (Kd.int .u64) 26 w' w.heap.size (fun k_ => some k_ ≠ (v7_ : Value).ownBlock) v4_ r5 ∧ Kd.R (Kd.int .u64) 26 w' w.heap.size (fun k_ => some k_ ≠ (v4_ : Value).ownBlock) v7_ r8 ∧ Below w.heap.size w w' := by
 have hu131 := Tryd.underlying131
 have hu76 := Tryd.underlying76
 have HR0_0 := Aside0.mk hr0_0
 have HC0_0 := Aside0.mk hc0_0
 clear hr0_0 hc0_0
 have HR0_1 := Aside0.mk hr0_1
 have HC0_1 := Aside0.mk hc0_1
 clear hr0_1 hc0_1
 have HR0_4 := Aside0.mk hr0_4
 have HC0_4 := Aside0.mk hc0_4
 clear hr0_4 hc0_4
 have HR0_7 := Aside0.mk hr0_7
 have HC0_7 := Aside0.mk hc0_7
 clear hr0_7 hc0_7
 have HB := Aside0.mk (Below.refl w.heap.size w)
 have H : ((laws_toByteS.f k l0_0).bind fun t200 => ((laws_toByteS.f k l0_1).bind fun t203 => ((laws_toUint64S.f k l0_4).bind fun t206 => ((laws_toUint64S.f k l0_7).bind fun t209 => (some (t200, t203, a0_2, a0_3, t206, a0_5, a0_6, t209)))))) = some (r1, r2, r3, r4, r5, r6, r7, r8) := h
 clear h
 replace H := Option.bind_eq_some_iff.mp H
 obtain ⟨t200, A20, H⟩ := H
 replace H : ((laws_toByteS.f k l0_1).bind fun t203 => ((laws_toUint64S.f k l0_4).bind fun t206 => ((laws_toUint64S.f k l0_7).bind fun t209 => (some (t200, t203, a0_2, a0_3, t206, a0_5, a0_6, t209))))) = some (r1, r2, r3, r4, r5, r6, r7, r8) := H
 have A2 := Aside0.mk A20
 clear A20
 replace H := Option.bind_eq_some_iff.mp H
 obtain ⟨t203, A30, H⟩ := H
 replace H : ((laws_toUint64S.f k l0_4).bind fun t206 => ((laws_toUint64S.f k l0_7).bind fun t209 => (some (t200, t203, a0_2, a0_3, t206, a0_5, a0_6, t209)))) = some (r1, r2, r3, r4, r5, r6, r7, r8) := H
 have A3 := Aside0.mk A30
 clear A30
 replace H := Option.bind_eq_some_iff.mp H
 obtain ⟨t206, A40, H⟩ := H
 replace H : ((laws_toUint64S.f k l0_7).bind fun t209 => (some (t200, t203, a0_2, a0_3, t206, a0_5, a0_6, t209))) = some (r1, r2, r3, r4, r5, r6, r7, r8) := H
 have A4 := Aside0.mk A40
 clear A40
 replace H := Option.bind_eq_some_iff.mp H
 obtain ⟨t209, A50, H⟩ := H
 replace H : (some (t200, t203, a0_2, a0_3, t206, a0_5, a0_6, t209)) = some (r1, r2, r3, r4, r5, r6, r7, r8) := H
 have A5 := Aside0.mk A50
 clear A50
 simp only [Option.some.injEq, Prod.mk.injEq] at H
 obtain ⟨rfl, rfl, rfl, rfl, rfl, rfl, rfl, rfl⟩ := H
 go_enter Tryd.func98, Tryd.ntmps98
 go_wp2_with (first | ((with_reducible refine gate_dst (N := 1) rfl ?_); refine box_event ?hg (N := 1) ?hd (cs := #[.slice A0_0 l0_0.length c0_0, .slice A0_1 l0_1.length c0_1, .int .u64 a0_2, .int .i64 a0_3, .slice A0_4 l0_4.length c0_4, .int .u64 a0_5, .int .u64 a0_6, .slice A0_7 l0_7.length c0_7]) (t := 131) ?hr ?_; (case hd => rfl); (case hg => rfl); (case hr => first | (go_simp; done) | (go_simp; rfl)); intro gb197 hg w6 hbox hb; have n0_ := Aside0.mk (below_step (by repeat (first | (with_reducible first | exact HB.out | apply below_alloc | apply pw_below_drewN | apply below_drew1) | exact HB.out)) hb); have n1_ := Aside0.mk (hbox); have n2_ := Aside0.mk ((by rw [hg]; exact (below_size (by repeat (first | (with_reducible first | exact HB.out | apply below_alloc | apply pw_below_drewN | apply below_drew1) | exact HB.out))) : w.heap.size ≤ gb197)); have n3_ := Aside0.mk ((by rw [hg]; exact (below_size (by repeat (first | (with_reducible first | exact HB.out | apply below_alloc | apply pw_below_drewN | apply below_drew1) | exact HB.out))) : w.heap.size ≤ gb197)); clear HB; have HB := n0_; have BK197 := n1_; have GW197 := n2_; have GE197 := n3_; clear n0_ n1_ n2_ n3_; clear hb hbox hg) | ((with_reducible refine gate_dst (N := 2) rfl ?_); refine box_event ?hg (N := 2) ?hd (cs := #[.slice none 0 0, .slice none 0 0, .int .u64 0, .int .i64 0, .slice none 0 0, .int .u64 0, .int .u64 0, .slice none 0 0]) (t := 76) ?hr ?_; (case hd => rfl); (case hg => rfl); (case hr => first | (go_simp; done) | (go_simp; rfl)); intro gb198 hg w7 hbox hb; have n0_ := Aside0.mk (blk_below (g := gb197) (o := .cells #[.slice A0_0 l0_0.length c0_0, .slice A0_1 l0_1.length c0_1, .int .u64 a0_2, .int .i64 a0_3, .slice A0_4 l0_4.length c0_4, .int .u64 a0_5, .int .u64 a0_6, .slice A0_7 l0_7.length c0_7] 131 (0, 0)) (by (with_reducible repeat (first | refine blk_drewN ?_ _ | refine blk_drew ?_ | refine blk_alloc ?_ _)); exact BK197.out) hb); have n1_ := Aside0.mk (below_step (by repeat (first | (with_reducible first | exact HB.out | apply below_alloc | apply pw_below_drewN | apply below_drew1 | refine below_set ?_ GE197.out) | exact HB.out)) hb); have n2_ := Aside0.mk (hbox); have n3_ := Aside0.mk ((by rw [hg]; exact (below_size (by repeat (first | (with_reducible first | exact HB.out | apply below_alloc | apply pw_below_drewN | apply below_drew1 | refine below_set ?_ GE197.out) | exact HB.out))) : w.heap.size ≤ gb198)); have n4_ := Aside0.mk ((by rw [hg]; exact (below_size (by repeat (first | (with_reducible first | exact HB.out | apply below_alloc | apply pw_below_drewN | apply below_drew1 | refine below_set ?_ GE197.out) | exact HB.out))) : w.heap.size ≤ gb198)); have n5_ := Aside0.mk ((by rw [hg]; exact Nat.ne_of_lt (blk_lt (g := gb197) (o := .cells #[.slice A0_0 l0_0.length c0_0, .slice A0_1 l0_1.length c0_1, .int .u64 a0_2, .int .i64 a0_3, .slice A0_4 l0_4.length c0_4, .int .u64 a0_5, .int .u64 a0_6, .slice A0_7 l0_7.length c0_7] 131 (0, 0)) (by (with_reducible repeat (first | refine blk_drewN ?_ _ | refine blk_drew ?_ | refine blk_alloc ?_ _)); exact BK197.out)) : gb197 ≠ gb198)); have n6_ := Aside0.mk ((by rw [hg]; exact Nat.ne_of_gt (blk_lt (g := gb197) (o := .cells #[.slice A0_0 l0_0.length c0_0, .slice A0_1 l0_1.length c0_1, .int .u64 a0_2, .int .i64 a0_3, .slice A0_4 l0_4.length c0_4, .int .u64 a0_5, .int .u64 a0_6, .slice A0_7 l0_7.length c0_7] 131 (0, 0)) (by (with_reducible repeat (first | refine blk_drewN ?_ _ | refine blk_drew ?_ | refine blk_alloc ?_ _)); exact BK197.out)) : gb198 ≠ gb197)); clear BK197; clear HB; have BK197 := n0_; have HB := n1_; have BK198 := n2_; have GW198 := n3_; have GE198 := n4_; have NB197_198 := n5_; have NB198_197 := n6_; clear n0_ n1_ n2_ n3_ n4_ n5_ n6_; clear hb hbox hg) | ((with_reducible refine gate_dst (N := 3) rfl ?_); refine box_event ?hg (N := 3) ?hd (cs := #[.slice none 0 0, .slice none 0 0, .int .u64 0, .int .i64 0, .slice none 0 0, .int .u64 0, .int .u64 0, .slice none 0 0]) (t := 76) ?hr ?_; (case hd => rfl); (case hg => rfl); (case hr => first | (go_simp; done) | (go_simp; rfl)); intro gb199 hg w8 hbox hb; have n0_ := Aside0.mk (blk_below (g := gb197) (o := .cells #[.slice A0_0 l0_0.length c0_0, .slice A0_1 l0_1.length c0_1, .int .u64 a0_2, .int .i64 a0_3, .slice A0_4 l0_4.length c0_4, .int .u64 a0_5, .int .u64 a0_6, .slice A0_7 l0_7.length c0_7] 131 (0, 0)) (by (with_reducible repeat (first | refine blk_drewN ?_ _ | refine blk_drew ?_ | refine blk_alloc ?_ _)); exact BK197.out) hb); have n1_ := Aside0.mk (blk_below (g := gb198) (o := .cells #[.slice none 0 0, .slice none 0 0, .int .u64 0, .int .i64 0, .slice none 0 0, .int .u64 0, .int .u64 0, .slice none 0 0] 76 (0, 0)) (by (with_reducible repeat (first | refine blk_drewN ?_ _ | refine blk_drew ?_ | refine blk_alloc ?_ _)); exact BK198.out) hb); have n2_ := Aside0.mk (below_step (by repeat (first | (with_reducible first | exact HB.out | apply below_alloc | apply pw_below_drewN | apply below_drew1 | refine below_set ?_ GE197.out | refine below_set ?_ GE198.out) | exact HB.out)) hb); have n3_ := Aside0.mk (hbox); have n4_ := Aside0.mk ((by rw [hg]; exact (below_size (by repeat (first | (with_reducible first | exact HB.out | apply below_alloc | apply pw_below_drewN | apply below_drew1 | refine below_set ?_ GE197.out | refine below_set ?_ GE198.out) | exact HB.out))) : w.heap.size ≤ gb199)); have n5_ := Aside0.mk ((by rw [hg]; exact (below_size (by repeat (first | (with_reducible first | exact HB.out | apply below_alloc | apply pw_below_drewN | apply below_drew1 | refine below_set ?_ GE197.out | refine below_set ?_ GE198.out) | exact HB.out))) : w.heap.size ≤ gb199)); have n6_ := Aside0.mk ((by rw [hg]; exact Nat.ne_of_lt (blk_lt (g := gb197) (o := .cells #[.slice A0_0 l0_0.length c0_0, .slice A0_1 l0_1.length c0_1, .int .u64 a0_2, .int .i64 a0_3, .slice A0_4 l0_4.length c0_4, .int .u64 a0_5, .int .u64 a0_6, .slice A0_7 l0_7.length c0_7] 131 (0, 0)) (by (with_reducible repeat (first | refine blk_drewN ?_ _ | refine blk_drew ?_ | refine blk_alloc ?_ _)); exact BK197.out)) : gb197 ≠ gb199)); have n7_ := Aside0.mk ((by rw [hg]; exact Nat.ne_of_gt (blk_lt (g := gb197) (o := .cells #[.slice A0_0 l0_0.length c0_0, .slice A0_1 l0_1.length c0_1, .int .u64 a0_2, .int .i64 a0_3, .slice A0_4 l0_4.length c0_4, .int .u64 a0_5, .int .u64 a0_6, .slice A0_7 l0_7.length c0_7] 131 (0, 0)) (by (with_reducible repeat (first | refine blk_drewN ?_ _ | refine blk_drew ?_ | refine blk_alloc ?_ _)); exact BK197.out)) : gb199 ≠ gb197)); have n8_ := Aside0.mk ((by rw [hg]; exact Nat.ne_of_lt (blk_lt (g := gb198) (o := .cells #[.slice none 0 0, .slice none 0 0, .int .u64 0, .int .i64 0, .slice none 0 0, .int .u64 0, .int .u64 0, .slice none 0 0] 76 (0, 0)) (by (with_reducible repeat (first | refine blk_drewN ?_ _ | refine blk_drew ?_ | refine blk_alloc ?_ _)); exact BK198.out)) : gb198 ≠ gb199)); have n9_ := Aside0.mk ((by rw [hg]; exact Nat.ne_of_gt (blk_lt (g := gb198) (o := .cells #[.slice none 0 0, .slice none 0 0, .int .u64 0, .int .i64 0, .slice none 0 0, .int .u64 0, .int .u64 0, .slice none 0 0] 76 (0, 0)) (by (with_reducible repeat (first | refine blk_drewN ?_ _ | refine blk_drew ?_ | refine blk_alloc ?_ _)); exact BK198.out)) : gb199 ≠ gb198)); clear BK197; clear BK198; clear HB; have BK197 := n0_; have BK198 := n1_; have HB := n2_; have BK199 := n3_; have GW199 := n4_; have GE199 := n5_; have NB197_199 := n6_; have NB199_197 := n7_; have NB198_199 := n8_; have NB199_198 := n9_; clear n0_ n1_ n2_ n3_ n4_ n5_ n6_ n7_ n8_ n9_; clear hb hbox hg; have hnb9 := NB197_198.out; have hnc9 := NB198_197.out; have hnb10 := NB197_199.out; have hnc10 := NB199_197.out; have hcz11_0 : w8.cell? ⟨gb197, 0, none⟩ = some (.slice A0_0 l0_0.length c0_0) := (blk_cell BK197.out 0).trans rfl; have hcz11_1 : w8.cell? ⟨gb197, 1, none⟩ = some (.slice A0_1 l0_1.length c0_1) := (blk_cell BK197.out 1).trans rfl; have hcz11_2 : w8.cell? ⟨gb197, 2, none⟩ = some (.int .u64 a0_2) := (blk_cell BK197.out 2).trans rfl; have hcz11_3 : w8.cell? ⟨gb197, 3, none⟩ = some (.int .i64 a0_3) := (blk_cell BK197.out 3).trans rfl; have hcz11_4 : w8.cell? ⟨gb197, 4, none⟩ = some (.slice A0_4 l0_4.length c0_4) := (blk_cell BK197.out 4).trans rfl; have hcz11_5 : w8.cell? ⟨gb197, 5, none⟩ = some (.int .u64 a0_5) := (blk_cell BK197.out 5).trans rfl; have hcz11_6 : w8.cell? ⟨gb197, 6, none⟩ = some (.int .u64 a0_6) := (blk_cell BK197.out 6).trans rfl; have hcz11_7 : w8.cell? ⟨gb197, 7, none⟩ = some (.slice A0_7 l0_7.length c0_7) := (blk_cell BK197.out 7).trans rfl; have hfz11_0 := blk_frozen BK197.out 0; have hfz11_1 := blk_frozen BK197.out 1; have hfz11_2 := blk_frozen BK197.out 2; have hfz11_3 := blk_frozen BK197.out 3; have hfz11_4 := blk_frozen BK197.out 4; have hfz11_5 := blk_frozen BK197.out 5; have hfz11_6 := blk_frozen BK197.out 6; have hfz11_7 := blk_frozen BK197.out 7) | ((with_reducible refine gate_callee (f := 10) rfl ?_); refine goesL_ (some 6) rfl rfl Tryd.func10 (by kernel_rfl) rfl #[.slice A0_0 l0_0.length c0_0] rfl (by (try simp only [List.map_toArray, List.map_cons, List.map_nil]); first | done | rfl | (simp only [List.length_drop, List.length_take]; rfl)) ?_; (with_reducible refine (laws_toByteS.calls k _ _ l0_0 t200 _ ?side1 ?side2 A2.out).mono ?_); (case side1 => repeat (first | exact (Kd.C_below HR0_0.out HB.out) | (with_reducible refine Kd.C_alloc ?_ _) | (with_reducible refine Kd.C_drewN ?_ _) | (with_reducible refine Kd.C_drew ?_))); (case side2 => exact HC0_0.out); rintro e w12 ⟨v201, rfl, ho0, hb⟩; refine ⟨_, rfl, ?_⟩; have n0_ := Aside0.mk (Kd.R_lower ho0 (below_size (by repeat (first | (with_reducible first | exact HB.out | apply below_alloc | apply pw_below_drewN | apply below_drew1 | refine below_set ?_ GE197.out | refine below_set ?_ GE198.out | refine below_set ?_ GE199.out) | exact HB.out)))); have n1_ := Aside0.mk (blk_below (g := gb197) (o := .cells #[.slice A0_0 l0_0.length c0_0, .slice A0_1 l0_1.length c0_1, .int .u64 a0_2, .int .i64 a0_3, .slice A0_4 l0_4.length c0_4, .int .u64 a0_5, .int .u64 a0_6, .slice A0_7 l0_7.length c0_7] 131 (0, 0)) (by (with_reducible repeat (first | refine blk_drewN ?_ _ | refine blk_drew ?_ | refine blk_alloc ?_ _)); exact BK197.out) hb); have n2_ := Aside0.mk (blk_below (g := gb198) (o := .cells #[.slice none 0 0, .slice none 0 0, .int .u64 0, .int .i64 0, .slice none 0 0, .int .u64 0, .int .u64 0, .slice none 0 0] 76 (0, 0)) (by (with_reducible repeat (first | refine blk_drewN ?_ _ | refine blk_drew ?_ | refine blk_alloc ?_ _)); exact BK198.out) hb); have n3_ := Aside0.mk (blk_below (g := gb199) (o := .cells #[.slice none 0 0, .slice none 0 0, .int .u64 0, .int .i64 0, .slice none 0 0, .int .u64 0, .int .u64 0, .slice none 0 0] 76 (0, 0)) (by (with_reducible repeat (first | refine blk_drewN ?_ _ | refine blk_drew ?_ | refine blk_alloc ?_ _)); exact BK199.out) hb); have n4_ := Aside0.mk (below_step (by repeat (first | (with_reducible first | exact HB.out | apply below_alloc | apply pw_below_drewN | apply below_drew1 | refine below_set ?_ GE197.out | refine below_set ?_ GE198.out | refine below_set ?_ GE199.out) | exact HB.out)) hb); clear BK197; clear BK198; clear BK199; clear HB; have HO202 := n0_; have BK197 := n1_; have BK198 := n2_; have BK199 := n3_; have HB := n4_; clear n0_ n1_ n2_ n3_ n4_; (try clear hb); (try clear hb2); (try clear hk); (try clear hi); (try clear ho0); obtain ⟨Ao13, co13, eo13⟩ := Kd.R_slice HO202.out; subst eo13; have hnb14 := NB199_198.out; have hnc14 := NB198_199.out; have hcz15_0 : w12.cell? ⟨gb199, 0, none⟩ = some (.slice none 0 0) := (blk_cell BK199.out 0).trans rfl; have hcz15_1 : w12.cell? ⟨gb199, 1, none⟩ = some (.slice none 0 0) := (blk_cell BK199.out 1).trans rfl; have hcz15_2 : w12.cell? ⟨gb199, 2, none⟩ = some (.int .u64 0) := (blk_cell BK199.out 2).trans rfl; have hcz15_3 : w12.cell? ⟨gb199, 3, none⟩ = some (.int .i64 0) := (blk_cell BK199.out 3).trans rfl; have hcz15_4 : w12.cell? ⟨gb199, 4, none⟩ = some (.slice none 0 0) := (blk_cell BK199.out 4).trans rfl; have hcz15_5 : w12.cell? ⟨gb199, 5, none⟩ = some (.int .u64 0) := (blk_cell BK199.out 5).trans rfl; have hcz15_6 : w12.cell? ⟨gb199, 6, none⟩ = some (.int .u64 0) := (blk_cell BK199.out 6).trans rfl; have hcz15_7 : w12.cell? ⟨gb199, 7, none⟩ = some (.slice none 0 0) := (blk_cell BK199.out 7).trans rfl; have hfz15_0 := blk_frozen BK199.out 0; have hfz15_1 := blk_frozen BK199.out 1; have hfz15_2 := blk_frozen BK199.out 2; have hfz15_3 := blk_frozen BK199.out 3; have hfz15_4 := blk_frozen BK199.out 4; have hfz15_5 := blk_frozen BK199.out 5; have hfz15_6 := blk_frozen BK199.out 6; have hfz15_7 := blk_frozen BK199.out 7; have hcz16_0 : w12.cell? ⟨gb197, 0, none⟩ = some (.slice A0_0 l0_0.length c0_0) := (blk_cell BK197.out 0).trans rfl; have hcz16_1 : w12.cell? ⟨gb197, 1, none⟩ = some (.slice A0_1 l0_1.length c0_1) := (blk_cell BK197.out 1).trans rfl; have hcz16_2 : w12.cell? ⟨gb197, 2, none⟩ = some (.int .u64 a0_2) := (blk_cell BK197.out 2).trans rfl; have hcz16_3 : w12.cell? ⟨gb197, 3, none⟩ = some (.int .i64 a0_3) := (blk_cell BK197.out 3).trans rfl; have hcz16_4 : w12.cell? ⟨gb197, 4, none⟩ = some (.slice A0_4 l0_4.length c0_4) := (blk_cell BK197.out 4).trans rfl; have hcz16_5 : w12.cell? ⟨gb197, 5, none⟩ = some (.int .u64 a0_5) := (blk_cell BK197.out 5).trans rfl; have hcz16_6 : w12.cell? ⟨gb197, 6, none⟩ = some (.int .u64 a0_6) := (blk_cell BK197.out 6).trans rfl; have hcz16_7 : w12.cell? ⟨gb197, 7, none⟩ = some (.slice A0_7 l0_7.length c0_7) := (blk_cell BK197.out 7).trans rfl; have hfz16_0 := blk_frozen BK197.out 0; have hfz16_1 := blk_frozen BK197.out 1; have hfz16_2 := blk_frozen BK197.out 2; have hfz16_3 := blk_frozen BK197.out 3; have hfz16_4 := blk_frozen BK197.out 4; have hfz16_5 := blk_frozen BK197.out 5; have hfz16_6 := blk_frozen BK197.out 6; have hfz16_7 := blk_frozen BK197.out 7) | ((with_reducible refine gate_callee (f := 10) rfl ?_); refine goesL_ (some 10) rfl rfl Tryd.func10 (by kernel_rfl) rfl #[.slice A0_1 l0_1.length c0_1] rfl (by (try simp only [List.map_toArray, List.map_cons, List.map_nil]); first | done | rfl | (simp only [List.length_drop, List.length_take]; rfl)) ?_; (with_reducible refine (laws_toByteS.calls k _ _ l0_1 t203 _ ?side1 ?side2 A3.out).mono ?_); (case side1 => exact Kd.C_below HR0_1.out (by repeat (first | (with_reducible first | exact HB.out | apply below_alloc | apply pw_below_drewN | apply below_drew1 | refine below_set ?_ GE197.out | refine below_set ?_ GE198.out | refine below_set ?_ GE199.out) | exact HB.out))); (case side2 => exact HC0_1.out); rintro e w17 ⟨v204, rfl, ho0, hb⟩; refine ⟨_, rfl, ?_⟩; have n0_ := Aside0.mk (Kd.R_elder' (by (with_reducible repeat (first | apply Kd.R_alloc | apply Kd.R_drewN | apply Kd.R_drew)); exact (Kd.R_mono (Kd.R_far (p := ⟨gb199, 0, none⟩) (Kd.R_types HO202.out BK199.out (by decide)) (fun _ hk => hk.2) (.slice Ao13 t200.length co13)) (fun _ h_ => h_.1))) (Kd.R_base ho0) hb); have n1_ := Aside0.mk (Kd.R_lower (Kd.R_new' ho0 (Kd.R_lt (by (with_reducible repeat (first | apply Kd.R_alloc | apply Kd.R_drewN | apply Kd.R_drew)); exact (Kd.R_mono (Kd.R_far (p := ⟨gb199, 0, none⟩) (Kd.R_types HO202.out BK199.out (by decide)) (fun _ hk => hk.2) (.slice Ao13 t200.length co13)) (fun _ h_ => h_.1))))) (below_size (by repeat (first | (with_reducible first | exact HB.out | apply below_alloc | apply pw_below_drewN | apply below_drew1 | refine below_set ?_ GE197.out | refine below_set ?_ GE198.out | refine below_set ?_ GE199.out) | exact HB.out)))); have n2_ := Aside0.mk (blk_below (g := gb197) (o := .cells #[.slice A0_0 l0_0.length c0_0, .slice A0_1 l0_1.length c0_1, .int .u64 a0_2, .int .i64 a0_3, .slice A0_4 l0_4.length c0_4, .int .u64 a0_5, .int .u64 a0_6, .slice A0_7 l0_7.length c0_7] 131 (0, 0)) (by (with_reducible repeat (first | refine blk_drewN ?_ _ | refine blk_drew ?_ | refine blk_alloc ?_ _)); refine blk_far ?_ NB197_199.out _; (with_reducible repeat (first | refine blk_drewN ?_ _ | refine blk_drew ?_ | refine blk_alloc ?_ _)); exact BK197.out) hb); have n3_ := Aside0.mk (blk_below (g := gb198) (o := .cells #[.slice none 0 0, .slice none 0 0, .int .u64 0, .int .i64 0, .slice none 0 0, .int .u64 0, .int .u64 0, .slice none 0 0] 76 (0, 0)) (by (with_reducible repeat (first | refine blk_drewN ?_ _ | refine blk_drew ?_ | refine blk_alloc ?_ _)); refine blk_far ?_ NB198_199.out _; (with_reducible repeat (first | refine blk_drewN ?_ _ | refine blk_drew ?_ | refine blk_alloc ?_ _)); exact BK198.out) hb); have n4_ := Aside0.mk (blk_below (g := gb199) (o := .cells #[.slice Ao13 t200.length co13, .slice none 0 0, .int .u64 0, .int .i64 0, .slice none 0 0, .int .u64 0, .int .u64 0, .slice none 0 0] 76 (0, 0)) (by (with_reducible repeat (first | refine blk_drewN ?_ _ | refine blk_drew ?_ | refine blk_alloc ?_ _)); refine blk_put (cs := #[.slice none 0 0, .slice none 0 0, .int .u64 0, .int .i64 0, .slice none 0 0, .int .u64 0, .int .u64 0, .slice none 0 0]) ?_ 0 _ rfl; (with_reducible repeat (first | refine blk_drewN ?_ _ | refine blk_drew ?_ | refine blk_alloc ?_ _)); exact BK199.out) hb); have n5_ := Aside0.mk (below_step (by repeat (first | (with_reducible first | exact HB.out | apply below_alloc | apply pw_below_drewN | apply below_drew1 | refine below_set ?_ GE197.out | refine below_set ?_ GE198.out | refine below_set ?_ GE199.out) | exact HB.out)) hb); clear HO202; clear BK197; clear BK198; clear BK199; clear HB; have HO202 := n0_; have HO205 := n1_; have BK197 := n2_; have BK198 := n3_; have BK199 := n4_; have HB := n5_; clear n0_ n1_ n2_ n3_ n4_ n5_; (try clear hb); (try clear hb2); (try clear hk); (try clear hi); (try clear ho0); obtain ⟨Ao18, co18, eo18⟩ := Kd.R_slice HO205.out; subst eo18; have hcz19_0 : w17.cell? ⟨gb199, 0, none⟩ = some (.slice Ao13 t200.length co13) := (blk_cell BK199.out 0).trans rfl; have hcz19_1 : w17.cell? ⟨gb199, 1, none⟩ = some (.slice none 0 0) := (blk_cell BK199.out 1).trans rfl; have hcz19_2 : w17.cell? ⟨gb199, 2, none⟩ = some (.int .u64 0) := (blk_cell BK199.out 2).trans rfl; have hcz19_3 : w17.cell? ⟨gb199, 3, none⟩ = some (.int .i64 0) := (blk_cell BK199.out 3).trans rfl; have hcz19_4 : w17.cell? ⟨gb199, 4, none⟩ = some (.slice none 0 0) := (blk_cell BK199.out 4).trans rfl; have hcz19_5 : w17.cell? ⟨gb199, 5, none⟩ = some (.int .u64 0) := (blk_cell BK199.out 5).trans rfl; have hcz19_6 : w17.cell? ⟨gb199, 6, none⟩ = some (.int .u64 0) := (blk_cell BK199.out 6).trans rfl; have hcz19_7 : w17.cell? ⟨gb199, 7, none⟩ = some (.slice none 0 0) := (blk_cell BK199.out 7).trans rfl; have hfz19_0 := blk_frozen BK199.out 0; have hfz19_1 := blk_frozen BK199.out 1; have hfz19_2 := blk_frozen BK199.out 2; have hfz19_3 := blk_frozen BK199.out 3; have hfz19_4 := blk_frozen BK199.out 4; have hfz19_5 := blk_frozen BK199.out 5; have hfz19_6 := blk_frozen BK199.out 6; have hfz19_7 := blk_frozen BK199.out 7; have hcz20_0 : w17.cell? ⟨gb197, 0, none⟩ = some (.slice A0_0 l0_0.length c0_0) := (blk_cell BK197.out 0).trans rfl; have hcz20_1 : w17.cell? ⟨gb197, 1, none⟩ = some (.slice A0_1 l0_1.length c0_1) := (blk_cell BK197.out 1).trans rfl; have hcz20_2 : w17.cell? ⟨gb197, 2, none⟩ = some (.int .u64 a0_2) := (blk_cell BK197.out 2).trans rfl; have hcz20_3 : w17.cell? ⟨gb197, 3, none⟩ = some (.int .i64 a0_3) := (blk_cell BK197.out 3).trans rfl; have hcz20_4 : w17.cell? ⟨gb197, 4, none⟩ = some (.slice A0_4 l0_4.length c0_4) := (blk_cell BK197.out 4).trans rfl; have hcz20_5 : w17.cell? ⟨gb197, 5, none⟩ = some (.int .u64 a0_5) := (blk_cell BK197.out 5).trans rfl; have hcz20_6 : w17.cell? ⟨gb197, 6, none⟩ = some (.int .u64 a0_6) := (blk_cell BK197.out 6).trans rfl; have hcz20_7 : w17.cell? ⟨gb197, 7, none⟩ = some (.slice A0_7 l0_7.length c0_7) := (blk_cell BK197.out 7).trans rfl; have hfz20_0 := blk_frozen BK197.out 0; have hfz20_1 := blk_frozen BK197.out 1; have hfz20_2 := blk_frozen BK197.out 2; have hfz20_3 := blk_frozen BK197.out 3; have hfz20_4 := blk_frozen BK197.out 4; have hfz20_5 := blk_frozen BK197.out 5; have hfz20_6 := blk_frozen BK197.out 6; have hfz20_7 := blk_frozen BK197.out 7) | ((with_reducible refine gate_callee (f := 127) rfl ?_); refine goesL_ (some 20) rfl rfl Tryd.func127 (by kernel_rfl) rfl #[.slice A0_4 l0_4.length c0_4] rfl (by (try simp only [List.map_toArray, List.map_cons, List.map_nil]); first | done | rfl | (simp only [List.length_drop, List.length_take]; rfl)) ?_; (with_reducible refine (laws_toUint64S.calls k _ _ l0_4 t206 _ ?side1 ?side2 A4.out).mono ?_); (case side1 => exact Kd.C_below HR0_4.out (by repeat (first | (with_reducible first | exact HB.out | apply below_alloc | apply pw_below_drewN | apply below_drew1 | refine below_set ?_ GE197.out | refine below_set ?_ GE198.out | refine below_set ?_ GE199.out) | exact HB.out))); (case side2 => exact HC0_4.out); rintro e w21 ⟨v207, rfl, ho0, hb⟩; refine ⟨_, rfl, ?_⟩; have n0_ := Aside0.mk (Kd.R_below (by (with_reducible repeat (first | apply Kd.R_alloc | apply Kd.R_drewN | apply Kd.R_drew)); exact (Kd.R_mono (Kd.R_far (p := ⟨gb199, 3, none⟩) (Kd.R_far (p := ⟨gb199, 2, none⟩) (Kd.R_far (p := ⟨gb199, 1, none⟩) (Kd.R_types HO202.out BK199.out (by decide)) (fun _ hk => hk.2) (.slice Ao18 t203.length co18)) (fun _ hk => hk.2) (.int .u64 a0_2)) (fun _ hk => hk.2) (.int .i64 a0_3)) (fun _ h_ => h_.1))) hb); have n1_ := Aside0.mk (Kd.R_below (by (with_reducible repeat (first | apply Kd.R_alloc | apply Kd.R_drewN | apply Kd.R_drew)); exact (Kd.R_mono (Kd.R_far (p := ⟨gb199, 3, none⟩) (Kd.R_far (p := ⟨gb199, 2, none⟩) (Kd.R_far (p := ⟨gb199, 1, none⟩) (Kd.R_types HO205.out BK199.out (by decide)) (fun _ hk => hk.2) (.slice Ao18 t203.length co18)) (fun _ hk => hk.2) (.int .u64 a0_2)) (fun _ hk => hk.2) (.int .i64 a0_3)) (fun _ h_ => h_.1))) hb); have n2_ := Aside0.mk (Kd.R_lower ho0 (below_size (by repeat (first | (with_reducible first | exact HB.out | apply below_alloc | apply pw_below_drewN | apply below_drew1 | refine below_set ?_ GE197.out | refine below_set ?_ GE198.out | refine below_set ?_ GE199.out) | exact HB.out)))); have n3_ := Aside0.mk (blk_below (g := gb197) (o := .cells #[.slice A0_0 l0_0.length c0_0, .slice A0_1 l0_1.length c0_1, .int .u64 a0_2, .int .i64 a0_3, .slice A0_4 l0_4.length c0_4, .int .u64 a0_5, .int .u64 a0_6, .slice A0_7 l0_7.length c0_7] 131 (0, 0)) (by (with_reducible repeat (first | refine blk_drewN ?_ _ | refine blk_drew ?_ | refine blk_alloc ?_ _)); refine blk_far ?_ NB197_199.out _; (with_reducible repeat (first | refine blk_drewN ?_ _ | refine blk_drew ?_ | refine blk_alloc ?_ _)); refine blk_far ?_ NB197_199.out _; (with_reducible repeat (first | refine blk_drewN ?_ _ | refine blk_drew ?_ | refine blk_alloc ?_ _)); refine blk_far ?_ NB197_199.out _; (with_reducible repeat (first | refine blk_drewN ?_ _ | refine blk_drew ?_ | refine blk_alloc ?_ _)); exact BK197.out) hb); have n4_ := Aside0.mk (blk_below (g := gb198) (o := .cells #[.slice none 0 0, .slice none 0 0, .int .u64 0, .int .i64 0, .slice none 0 0, .int .u64 0, .int .u64 0, .slice none 0 0] 76 (0, 0)) (by (with_reducible repeat (first | refine blk_drewN ?_ _ | refine blk_drew ?_ | refine blk_alloc ?_ _)); refine blk_far ?_ NB198_199.out _; (with_reducible repeat (first | refine blk_drewN ?_ _ | refine blk_drew ?_ | refine blk_alloc ?_ _)); refine blk_far ?_ NB198_199.out _; (with_reducible repeat (first | refine blk_drewN ?_ _ | refine blk_drew ?_ | refine blk_alloc ?_ _)); refine blk_far ?_ NB198_199.out _; (with_reducible repeat (first | refine blk_drewN ?_ _ | refine blk_drew ?_ | refine blk_alloc ?_ _)); exact BK198.out) hb); have n5_ := Aside0.mk (blk_below (g := gb199) (o := .cells #[.slice Ao13 t200.length co13, .slice Ao18 t203.length co18, .int .u64 a0_2, .int .i64 a0_3, .slice none 0 0, .int .u64 0, .int .u64 0, .slice none 0 0] 76 (0, 0)) (by (with_reducible repeat (first | refine blk_drewN ?_ _ | refine blk_drew ?_ | refine blk_alloc ?_ _)); refine blk_put (cs := #[.slice Ao13 t200.length co13, .slice Ao18 t203.length co18, .int .u64 a0_2, .int .i64 0, .slice none 0 0, .int .u64 0, .int .u64 0, .slice none 0 0]) ?_ 3 _ rfl; (with_reducible repeat (first | refine blk_drewN ?_ _ | refine blk_drew ?_ | refine blk_alloc ?_ _)); refine blk_put (cs := #[.slice Ao13 t200.length co13, .slice Ao18 t203.length co18, .int .u64 0, .int .i64 0, .slice none 0 0, .int .u64 0, .int .u64 0, .slice none 0 0]) ?_ 2 _ rfl; (with_reducible repeat (first | refine blk_drewN ?_ _ | refine blk_drew ?_ | refine blk_alloc ?_ _)); refine blk_put (cs := #[.slice Ao13 t200.length co13, .slice none 0 0, .int .u64 0, .int .i64 0, .slice none 0 0, .int .u64 0, .int .u64 0, .slice none 0 0]) ?_ 1 _ rfl; (with_reducible repeat (first | refine blk_drewN ?_ _ | refine blk_drew ?_ | refine blk_alloc ?_ _)); exact BK199.out) hb); have n6_ := Aside0.mk (below_step (by repeat (first | (with_reducible first | exact HB.out | apply below_alloc | apply pw_below_drewN | apply below_drew1 | refine below_set ?_ GE197.out | refine below_set ?_ GE198.out | refine below_set ?_ GE199.out) | exact HB.out)) hb); clear HO202; clear HO205; clear BK197; clear BK198; clear BK199; clear HB; have HO202 := n0_; have HO205 := n1_; have HO208 := n2_; have BK197 := n3_; have BK198 := n4_; have BK199 := n5_; have HB := n6_; clear n0_ n1_ n2_ n3_ n4_ n5_ n6_; (try clear hb); (try clear hb2); (try clear hk); (try clear hi); (try clear ho0); obtain ⟨Ao22, co22, eo22⟩ := Kd.R_slice HO208.out; subst eo22; have hcz23_0 : w21.cell? ⟨gb199, 0, none⟩ = some (.slice Ao13 t200.length co13) := (blk_cell BK199.out 0).trans rfl; have hcz23_1 : w21.cell? ⟨gb199, 1, none⟩ = some (.slice Ao18 t203.length co18) := (blk_cell BK199.out 1).trans rfl; have hcz23_2 : w21.cell? ⟨gb199, 2, none⟩ = some (.int .u64 a0_2) := (blk_cell BK199.out 2).trans rfl; have hcz23_3 : w21.cell? ⟨gb199, 3, none⟩ = some (.int .i64 a0_3) := (blk_cell BK199.out 3).trans rfl; have hcz23_4 : w21.cell? ⟨gb199, 4, none⟩ = some (.slice none 0 0) := (blk_cell BK199.out 4).trans rfl; have hcz23_5 : w21.cell? ⟨gb199, 5, none⟩ = some (.int .u64 0) := (blk_cell BK199.out 5).trans rfl; have hcz23_6 : w21.cell? ⟨gb199, 6, none⟩ = some (.int .u64 0) := (blk_cell BK199.out 6).trans rfl; have hcz23_7 : w21.cell? ⟨gb199, 7, none⟩ = some (.slice none 0 0) := (blk_cell BK199.out 7).trans rfl; have hfz23_0 := blk_frozen BK199.out 0; have hfz23_1 := blk_frozen BK199.out 1; have hfz23_2 := blk_frozen BK199.out 2; have hfz23_3 := blk_frozen BK199.out 3; have hfz23_4 := blk_frozen BK199.out 4; have hfz23_5 := blk_frozen BK199.out 5; have hfz23_6 := blk_frozen BK199.out 6; have hfz23_7 := blk_frozen BK199.out 7; have hcz24_0 : w21.cell? ⟨gb197, 0, none⟩ = some (.slice A0_0 l0_0.length c0_0) := (blk_cell BK197.out 0).trans rfl; have hcz24_1 : w21.cell? ⟨gb197, 1, none⟩ = some (.slice A0_1 l0_1.length c0_1) := (blk_cell BK197.out 1).trans rfl; have hcz24_2 : w21.cell? ⟨gb197, 2, none⟩ = some (.int .u64 a0_2) := (blk_cell BK197.out 2).trans rfl; have hcz24_3 : w21.cell? ⟨gb197, 3, none⟩ = some (.int .i64 a0_3) := (blk_cell BK197.out 3).trans rfl; have hcz24_4 : w21.cell? ⟨gb197, 4, none⟩ = some (.slice A0_4 l0_4.length c0_4) := (blk_cell BK197.out 4).trans rfl; have hcz24_5 : w21.cell? ⟨gb197, 5, none⟩ = some (.int .u64 a0_5) := (blk_cell BK197.out 5).trans rfl; have hcz24_6 : w21.cell? ⟨gb197, 6, none⟩ = some (.int .u64 a0_6) := (blk_cell BK197.out 6).trans rfl; have hcz24_7 : w21.cell? ⟨gb197, 7, none⟩ = some (.slice A0_7 l0_7.length c0_7) := (blk_cell BK197.out 7).trans rfl; have hfz24_0 := blk_frozen BK197.out 0; have hfz24_1 := blk_frozen BK197.out 1; have hfz24_2 := blk_frozen BK197.out 2; have hfz24_3 := blk_frozen BK197.out 3; have hfz24_4 := blk_frozen BK197.out 4; have hfz24_5 := blk_frozen BK197.out 5; have hfz24_6 := blk_frozen BK197.out 6; have hfz24_7 := blk_frozen BK197.out 7) | ((with_reducible refine gate_callee (f := 127) rfl ?_); refine goesL_ (some 30) rfl rfl Tryd.func127 (by kernel_rfl) rfl #[.slice A0_7 l0_7.length c0_7] rfl (by (try simp only [List.map_toArray, List.map_cons, List.map_nil]); first | done | rfl | (simp only [List.length_drop, List.length_take]; rfl)) ?_; (with_reducible refine (laws_toUint64S.calls k _ _ l0_7 t209 _ ?side1 ?side2 A5.out).mono ?_); (case side1 => exact Kd.C_below HR0_7.out (by repeat (first | (with_reducible first | exact HB.out | apply below_alloc | apply pw_below_drewN | apply below_drew1 | refine below_set ?_ GE197.out | refine below_set ?_ GE198.out | refine below_set ?_ GE199.out) | exact HB.out))); (case side2 => exact HC0_7.out); rintro e w25 ⟨v210, rfl, ho0, hb⟩; refine ⟨_, rfl, ?_⟩; have n0_ := Aside0.mk (Kd.R_below (by (with_reducible repeat (first | apply Kd.R_alloc | apply Kd.R_drewN | apply Kd.R_drew)); exact (Kd.R_mono (Kd.R_far (p := ⟨gb199, 6, none⟩) (Kd.R_far (p := ⟨gb199, 5, none⟩) (Kd.R_far (p := ⟨gb199, 4, none⟩) (Kd.R_types HO202.out BK199.out (by decide)) (fun _ hk => hk.2) (.slice Ao22 t206.length co22)) (fun _ hk => hk.2) (.int .u64 a0_5)) (fun _ hk => hk.2) (.int .u64 a0_6)) (fun _ h_ => h_.1))) hb); have n1_ := Aside0.mk (Kd.R_below (by (with_reducible repeat (first | apply Kd.R_alloc | apply Kd.R_drewN | apply Kd.R_drew)); exact (Kd.R_mono (Kd.R_far (p := ⟨gb199, 6, none⟩) (Kd.R_far (p := ⟨gb199, 5, none⟩) (Kd.R_far (p := ⟨gb199, 4, none⟩) (Kd.R_types HO205.out BK199.out (by decide)) (fun _ hk => hk.2) (.slice Ao22 t206.length co22)) (fun _ hk => hk.2) (.int .u64 a0_5)) (fun _ hk => hk.2) (.int .u64 a0_6)) (fun _ h_ => h_.1))) hb); have n2_ := Aside0.mk (Kd.R_elder' (by (with_reducible repeat (first | apply Kd.R_alloc | apply Kd.R_drewN | apply Kd.R_drew)); exact (Kd.R_mono (Kd.R_far (p := ⟨gb199, 6, none⟩) (Kd.R_far (p := ⟨gb199, 5, none⟩) (Kd.R_far (p := ⟨gb199, 4, none⟩) (Kd.R_types HO208.out BK199.out (by decide)) (fun _ hk => hk.2) (.slice Ao22 t206.length co22)) (fun _ hk => hk.2) (.int .u64 a0_5)) (fun _ hk => hk.2) (.int .u64 a0_6)) (fun _ h_ => h_.1))) (Kd.R_base ho0) hb); have n3_ := Aside0.mk (Kd.R_lower (Kd.R_new' ho0 (Kd.R_lt (by (with_reducible repeat (first | apply Kd.R_alloc | apply Kd.R_drewN | apply Kd.R_drew)); exact (Kd.R_mono (Kd.R_far (p := ⟨gb199, 6, none⟩) (Kd.R_far (p := ⟨gb199, 5, none⟩) (Kd.R_far (p := ⟨gb199, 4, none⟩) (Kd.R_types HO208.out BK199.out (by decide)) (fun _ hk => hk.2) (.slice Ao22 t206.length co22)) (fun _ hk => hk.2) (.int .u64 a0_5)) (fun _ hk => hk.2) (.int .u64 a0_6)) (fun _ h_ => h_.1))))) (below_size (by repeat (first | (with_reducible first | exact HB.out | apply below_alloc | apply pw_below_drewN | apply below_drew1 | refine below_set ?_ GE197.out | refine below_set ?_ GE198.out | refine below_set ?_ GE199.out) | exact HB.out)))); have n4_ := Aside0.mk (blk_below (g := gb197) (o := .cells #[.slice A0_0 l0_0.length c0_0, .slice A0_1 l0_1.length c0_1, .int .u64 a0_2, .int .i64 a0_3, .slice A0_4 l0_4.length c0_4, .int .u64 a0_5, .int .u64 a0_6, .slice A0_7 l0_7.length c0_7] 131 (0, 0)) (by (with_reducible repeat (first | refine blk_drewN ?_ _ | refine blk_drew ?_ | refine blk_alloc ?_ _)); refine blk_far ?_ NB197_199.out _; (with_reducible repeat (first | refine blk_drewN ?_ _ | refine blk_drew ?_ | refine blk_alloc ?_ _)); refine blk_far ?_ NB197_199.out _; (with_reducible repeat (first | refine blk_drewN ?_ _ | refine blk_drew ?_ | refine blk_alloc ?_ _)); refine blk_far ?_ NB197_199.out _; (with_reducible repeat (first | refine blk_drewN ?_ _ | refine blk_drew ?_ | refine blk_alloc ?_ _)); exact BK197.out) hb); have n5_ := Aside0.mk (blk_below (g := gb198) (o := .cells #[.slice none 0 0, .slice none 0 0, .int .u64 0, .int .i64 0, .slice none 0 0, .int .u64 0, .int .u64 0, .slice none 0 0] 76 (0, 0)) (by (with_reducible repeat (first | refine blk_drewN ?_ _ | refine blk_drew ?_ | refine blk_alloc ?_ _)); refine blk_far ?_ NB198_199.out _; (with_reducible repeat (first | refine blk_drewN ?_ _ | refine blk_drew ?_ | refine blk_alloc ?_ _)); refine blk_far ?_ NB198_199.out _; (with_reducible repeat (first | refine blk_drewN ?_ _ | refine blk_drew ?_ | refine blk_alloc ?_ _)); refine blk_far ?_ NB198_199.out _; (with_reducible repeat (first | refine blk_drewN ?_ _ | refine blk_drew ?_ | refine blk_alloc ?_ _)); exact BK198.out) hb); have n6_ := Aside0.mk (blk_below (g := gb199) (o := .cells #[.slice Ao13 t200.length co13, .slice Ao18 t203.length co18, .int .u64 a0_2, .int .i64 a0_3, .slice Ao22 t206.length co22, .int .u64 a0_5, .int .u64 a0_6, .slice none 0 0] 76 (0, 0)) (by (with_reducible repeat (first | refine blk_drewN ?_ _ | refine blk_drew ?_ | refine blk_alloc ?_ _)); refine blk_put (cs := #[.slice Ao13 t200.length co13, .slice Ao18 t203.length co18, .int .u64 a0_2, .int .i64 a0_3, .slice Ao22 t206.length co22, .int .u64 a0_5, .int .u64 0, .slice none 0 0]) ?_ 6 _ rfl; (with_reducible repeat (first | refine blk_drewN ?_ _ | refine blk_drew ?_ | refine blk_alloc ?_ _)); refine blk_put (cs := #[.slice Ao13 t200.length co13, .slice Ao18 t203.length co18, .int .u64 a0_2, .int .i64 a0_3, .slice Ao22 t206.length co22, .int .u64 0, .int .u64 0, .slice none 0 0]) ?_ 5 _ rfl; (with_reducible repeat (first | refine blk_drewN ?_ _ | refine blk_drew ?_ | refine blk_alloc ?_ _)); refine blk_put (cs := #[.slice Ao13 t200.length co13, .slice Ao18 t203.length co18, .int .u64 a0_2, .int .i64 a0_3, .slice none 0 0, .int .u64 0, .int .u64 0, .slice none 0 0]) ?_ 4 _ rfl; (with_reducible repeat (first | refine blk_drewN ?_ _ | refine blk_drew ?_ | refine blk_alloc ?_ _)); exact BK199.out) hb); have n7_ := Aside0.mk (below_step (by repeat (first | (with_reducible first | exact HB.out | apply below_alloc | apply pw_below_drewN | apply below_drew1 | refine below_set ?_ GE197.out | refine below_set ?_ GE198.out | refine below_set ?_ GE199.out) | exact HB.out)) hb); clear HO202; clear HO205; clear HO208; clear BK197; clear BK198; clear BK199; clear HB; have HO202 := n0_; have HO205 := n1_; have HO208 := n2_; have HO211 := n3_; have BK197 := n4_; have BK198 := n5_; have BK199 := n6_; have HB := n7_; clear n0_ n1_ n2_ n3_ n4_ n5_ n6_ n7_; (try clear hb); (try clear hb2); (try clear hk); (try clear hi); (try clear ho0); obtain ⟨Ao26, co26, eo26⟩ := Kd.R_slice HO211.out; subst eo26; have hcz27_0 : w25.cell? ⟨gb199, 0, none⟩ = some (.slice Ao13 t200.length co13) := (blk_cell BK199.out 0).trans rfl; have hcz27_1 : w25.cell? ⟨gb199, 1, none⟩ = some (.slice Ao18 t203.length co18) := (blk_cell BK199.out 1).trans rfl; have hcz27_2 : w25.cell? ⟨gb199, 2, none⟩ = some (.int .u64 a0_2) := (blk_cell BK199.out 2).trans rfl; have hcz27_3 : w25.cell? ⟨gb199, 3, none⟩ = some (.int .i64 a0_3) := (blk_cell BK199.out 3).trans rfl; have hcz27_4 : w25.cell? ⟨gb199, 4, none⟩ = some (.slice Ao22 t206.length co22) := (blk_cell BK199.out 4).trans rfl; have hcz27_5 : w25.cell? ⟨gb199, 5, none⟩ = some (.int .u64 a0_5) := (blk_cell BK199.out 5).trans rfl; have hcz27_6 : w25.cell? ⟨gb199, 6, none⟩ = some (.int .u64 a0_6) := (blk_cell BK199.out 6).trans rfl; have hcz27_7 : w25.cell? ⟨gb199, 7, none⟩ = some (.slice none 0 0) := (blk_cell BK199.out 7).trans rfl; have hfz27_0 := blk_frozen BK199.out 0; have hfz27_1 := blk_frozen BK199.out 1; have hfz27_2 := blk_frozen BK199.out 2; have hfz27_3 := blk_frozen BK199.out 3; have hfz27_4 := blk_frozen BK199.out 4; have hfz27_5 := blk_frozen BK199.out 5; have hfz27_6 := blk_frozen BK199.out 6; have hfz27_7 := blk_frozen BK199.out 7; have hcz28_0 : w25.cell? ⟨gb198, 0, none⟩ = some (.slice none 0 0) := (blk_cell BK198.out 0).trans rfl; have hcz28_1 : w25.cell? ⟨gb198, 1, none⟩ = some (.slice none 0 0) := (blk_cell BK198.out 1).trans rfl; have hcz28_2 : w25.cell? ⟨gb198, 2, none⟩ = some (.int .u64 0) := (blk_cell BK198.out 2).trans rfl; have hcz28_3 : w25.cell? ⟨gb198, 3, none⟩ = some (.int .i64 0) := (blk_cell BK198.out 3).trans rfl; have hcz28_4 : w25.cell? ⟨gb198, 4, none⟩ = some (.slice none 0 0) := (blk_cell BK198.out 4).trans rfl; have hcz28_5 : w25.cell? ⟨gb198, 5, none⟩ = some (.int .u64 0) := (blk_cell BK198.out 5).trans rfl; have hcz28_6 : w25.cell? ⟨gb198, 6, none⟩ = some (.int .u64 0) := (blk_cell BK198.out 6).trans rfl; have hcz28_7 : w25.cell? ⟨gb198, 7, none⟩ = some (.slice none 0 0) := (blk_cell BK198.out 7).trans rfl; have hfz28_0 := blk_frozen BK198.out 0; have hfz28_1 := blk_frozen BK198.out 1; have hfz28_2 := blk_frozen BK198.out 2; have hfz28_3 := blk_frozen BK198.out 3; have hfz28_4 := blk_frozen BK198.out 4; have hfz28_5 := blk_frozen BK198.out 5; have hfz28_6 := blk_frozen BK198.out 6; have hfz28_7 := blk_frozen BK198.out 7))
 refine bodyPost_ret (results_cell_row rfl _ _ gb198 76 #[.slice Ao13 t200.length co13, .slice Ao18 t203.length co18, .int .u64 a0_2, .int .i64 a0_3, .slice Ao22 t206.length co22, .int .u64 a0_5, .int .u64 a0_6, .slice Ao26 t209.length co26] (0, 0) _ rfl (by (with_reducible repeat (first | refine blk_drewN ?_ _ | refine blk_drew ?_ | refine blk_alloc ?_ _)); refine blk_put (cs := #[.slice Ao13 t200.length co13, .slice Ao18 t203.length co18, .int .u64 a0_2, .int .i64 a0_3, .slice Ao22 t206.length co22, .int .u64 a0_5, .int .u64 a0_6, .slice none 0 0]) ?_ 7 _ rfl; (with_reducible repeat (first | refine blk_drewN ?_ _ | refine blk_drew ?_ | refine blk_alloc ?_ _)); refine blk_put (cs := #[.slice Ao13 t200.length co13, .slice Ao18 t203.length co18, .int .u64 a0_2, .int .i64 a0_3, .slice Ao22 t206.length co22, .int .u64 a0_5, .int .u64 0, .slice none 0 0]) ?_ 6 _ rfl; (with_reducible repeat (first | refine blk_drewN ?_ _ | refine blk_drew ?_ | refine blk_alloc ?_ _)); refine blk_put (cs := #[.slice Ao13 t200.length co13, .slice Ao18 t203.length co18, .int .u64 a0_2, .int .i64 a0_3, .slice Ao22 t206.length co22, .int .u64 0, .int .u64 0, .slice none 0 0]) ?_ 5 _ rfl; (with_reducible repeat (first | refine blk_drewN ?_ _ | refine blk_drew ?_ | refine blk_alloc ?_ _)); refine blk_put (cs := #[.slice Ao13 t200.length co13, .slice Ao18 t203.length co18, .int .u64 a0_2, .int .i64 a0_3, .slice none 0 0, .int .u64 0, .int .u64 0, .slice none 0 0]) ?_ 4 _ rfl; (with_reducible repeat (first | refine blk_drewN ?_ _ | refine blk_drew ?_ | refine blk_alloc ?_ _)); refine blk_put (cs := #[.slice Ao13 t200.length co13, .slice Ao18 t203.length co18, .int .u64 a0_2, .int .i64 0, .slice none 0 0, .int .u64 0, .int .u64 0, .slice none 0 0]) ?_ 3 _ rfl; (with_reducible repeat (first | refine blk_drewN ?_ _ | refine blk_drew ?_ | refine blk_alloc ?_ _)); refine blk_put (cs := #[.slice Ao13 t200.length co13, .slice Ao18 t203.length co18, .int .u64 0, .int .i64 0, .slice none 0 0, .int .u64 0, .int .u64 0, .slice none 0 0]) ?_ 2 _ rfl; (with_reducible repeat (first | refine blk_drewN ?_ _ | refine blk_drew ?_ | refine blk_alloc ?_ _)); refine blk_put (cs := #[.slice Ao13 t200.length co13, .slice none 0 0, .int .u64 0, .int .i64 0, .slice none 0 0, .int .u64 0, .int .u64 0, .slice none 0 0]) ?_ 1 _ rfl; (with_reducible repeat (first | refine blk_drewN ?_ _ | refine blk_drew ?_ | refine blk_alloc ?_ _)); refine blk_put (cs := #[.slice none 0 0, .slice none 0 0, .int .u64 0, .int .i64 0, .slice none 0 0, .int .u64 0, .int .u64 0, .slice none 0 0]) ?_ 0 _ rfl; (with_reducible repeat (first | refine blk_drewN ?_ _ | refine blk_drew ?_ | refine blk_alloc ?_ _)); refine blk_far ?_ NB198_199.out _; (with_reducible repeat (first | refine blk_drewN ?_ _ | refine blk_drew ?_ | refine blk_alloc ?_ _)); exact BK198.out) Tryd.underlying76 rfl (by kernel_rfl)) rfl ?_
 exact ⟨_, _, _, _, by first | rfl | (simp [errW_none, errW_some] <;> rfl) | (simp [*, errW_none, errW_some] <;> rfl), by (with_reducible repeat (first | apply Kd.R_alloc | apply Kd.R_drewN | apply Kd.R_drew)); exact Kd.R_mono (Kd.R_far (p := ⟨gb198, 7, none⟩) (Kd.R_far (p := ⟨gb198, 6, none⟩) (Kd.R_far (p := ⟨gb198, 5, none⟩) (Kd.R_far (p := ⟨gb198, 4, none⟩) (Kd.R_far (p := ⟨gb198, 3, none⟩) (Kd.R_far (p := ⟨gb198, 2, none⟩) (Kd.R_far (p := ⟨gb198, 1, none⟩) (Kd.R_far (p := ⟨gb198, 0, none⟩) (Kd.R_far (p := ⟨gb199, 7, none⟩) (Kd.R_types (Kd.R_types HO202.out BK199.out (by decide)) BK198.out (by decide)) (fun _ hk => hk.1.2) (.slice Ao26 t209.length co26)) (fun _ hk => hk.2) (.slice Ao13 t200.length co13)) (fun _ hk => hk.2) (.slice Ao18 t203.length co18)) (fun _ hk => hk.2) (.int .u64 a0_2)) (fun _ hk => hk.2) (.int .i64 a0_3)) (fun _ hk => hk.2) (.slice Ao22 t206.length co22)) (fun _ hk => hk.2) (.int .u64 a0_5)) (fun _ hk => hk.2) (.int .u64 a0_6)) (fun _ hk => hk.2) (.slice Ao26 t209.length co26)) (fun _ hk => hk.1.1.2), by (with_reducible repeat (first | apply Kd.R_alloc | apply Kd.R_drewN | apply Kd.R_drew)); exact Kd.R_mono (Kd.R_far (p := ⟨gb198, 7, none⟩) (Kd.R_far (p := ⟨gb198, 6, none⟩) (Kd.R_far (p := ⟨gb198, 5, none⟩) (Kd.R_far (p := ⟨gb198, 4, none⟩) (Kd.R_far (p := ⟨gb198, 3, none⟩) (Kd.R_far (p := ⟨gb198, 2, none⟩) (Kd.R_far (p := ⟨gb198, 1, none⟩) (Kd.R_far (p := ⟨gb198, 0, none⟩) (Kd.R_far (p := ⟨gb199, 7, none⟩) (Kd.R_types (Kd.R_types HO205.out BK199.out (by decide)) BK198.out (by decide)) (fun _ hk => hk.1.2) (.slice Ao26 t209.length co26)) (fun _ hk => hk.2) (.slice Ao13 t200.length co13)) (fun _ hk => hk.2) (.slice Ao18 t203.length co18)) (fun _ hk => hk.2) (.int .u64 a0_2)) (fun _ hk => hk.2) (.int .i64 a0_3)) (fun _ hk => hk.2) (.slice Ao22 t206.length co22)) (fun _ hk => hk.2) (.int .u64 a0_5)) (fun _ hk => hk.2) (.int .u64 a0_6)) (fun _ hk => hk.2) (.slice Ao26 t209.length co26)) (fun _ hk => hk.1.1.2), by (with_reducible repeat (first | apply Kd.R_alloc | apply Kd.R_drewN | apply Kd.R_drew)); exact Kd.R_mono (Kd.R_far (p := ⟨gb198, 7, none⟩) (Kd.R_far (p := ⟨gb198, 6, none⟩) (Kd.R_far (p := ⟨gb198, 5, none⟩) (Kd.R_far (p := ⟨gb198, 4, none⟩) (Kd.R_far (p := ⟨gb198, 3, none⟩) (Kd.R_far (p := ⟨gb198, 2, none⟩) (Kd.R_far (p := ⟨gb198, 1, none⟩) (Kd.R_far (p := ⟨gb198, 0, none⟩) (Kd.R_far (p := ⟨gb199, 7, none⟩) (Kd.R_types (Kd.R_types HO208.out BK199.out (by decide)) BK198.out (by decide)) (fun _ hk => hk.1.2) (.slice Ao26 t209.length co26)) (fun _ hk => hk.2) (.slice Ao13 t200.length co13)) (fun _ hk => hk.2) (.slice Ao18 t203.length co18)) (fun _ hk => hk.2) (.int .u64 a0_2)) (fun _ hk => hk.2) (.int .i64 a0_3)) (fun _ hk => hk.2) (.slice Ao22 t206.length co22)) (fun _ hk => hk.2) (.int .u64 a0_5)) (fun _ hk => hk.2) (.int .u64 a0_6)) (fun _ hk => hk.2) (.slice Ao26 t209.length co26)) (fun _ hk => hk.1.1.2), by (with_reducible repeat (first | apply Kd.R_alloc | apply Kd.R_drewN | apply Kd.R_drew)); exact Kd.R_mono (Kd.R_far (p := ⟨gb198, 7, none⟩) (Kd.R_far (p := ⟨gb198, 6, none⟩) (Kd.R_far (p := ⟨gb198, 5, none⟩) (Kd.R_far (p := ⟨gb198, 4, none⟩) (Kd.R_far (p := ⟨gb198, 3, none⟩) (Kd.R_far (p := ⟨gb198, 2, none⟩) (Kd.R_far (p := ⟨gb198, 1, none⟩) (Kd.R_far (p := ⟨gb198, 0, none⟩) (Kd.R_far (p := ⟨gb199, 7, none⟩) (Kd.R_types (Kd.R_types HO211.out BK199.out (by decide)) BK198.out (by decide)) (fun _ hk => hk.1.2) (.slice Ao26 t209.length co26)) (fun _ hk => hk.2) (.slice Ao13 t200.length co13)) (fun _ hk => hk.2) (.slice Ao18 t203.length co18)) (fun _ hk => hk.2) (.int .u64 a0_2)) (fun _ hk => hk.2) (.int .i64 a0_3)) (fun _ hk => hk.2) (.slice Ao22 t206.length co22)) (fun _ hk => hk.2) (.int .u64 a0_5)) (fun _ hk => hk.2) (.int .u64 a0_6)) (fun _ hk => hk.2) (.slice Ao26 t209.length co26)) (fun _ hk => hk.1.1.2), by repeat (first | (with_reducible first | exact HB.out | apply below_alloc | apply pw_below_drewN | apply below_drew1 | refine below_set ?_ GE197.out | refine below_set ?_ GE198.out | refine below_set ?_ GE199.out) | exact HB.out)⟩
end Go.Proofs.YtbgbocdohadhoaaDoor.Print
namespace Go.Proofs.YtbgbocdohadhoaaDoor.Print
open Go Go.RowKit Go.Proofs.YtbgbocdohadhoaaDoorW.PrintWords Go.Proofs.YtbgbocdohadhoaaDoorW.PrintLast Go.Proofs.YtbgbocdohadhoaaDoorW.PrintMore
set_option linter.unusedVariables false
set_option linter.unusedSimpArgs false
def toEv (x : EvL) : Ev := ⟨x.f0, x.f1⟩
def toSe (x : SeL) : Se := ⟨x.f0, x.f1, x.f2.map toEv⟩
def toNo (x : NoL) : No := ⟨x.f0, x.f1, x.f2, x.f3, x.f4, x.f5, x.f6, x.f7⟩
theorem cell_far_ {w : World} {g j g' i : Nat} {x : Value} (h : w.cell? ⟨g, i, none⟩ = some x) (hne : g ≠ g') (v : Value) : (w.setCell ⟨g', j, none⟩ v).cell? ⟨g, i, none⟩ = some x := by
 exact (World.cell?_setCell_far w _ _ v (fun e => hne e.symm)).trans h
theorem row_next {α β : Type} (f : α → β) (z : β) (xs : List α) (i : Nat) (h : i < xs.length) : ((xs.take i).map f ++ List.replicate (xs.length - i) z).set i (f xs[i]) = (xs.take (i + 1)).map f ++ List.replicate (xs.length - (i + 1)) z := by
 have hl : ((xs.take i).map f).length = i := by simp; omega
 obtain ⟨m, hm⟩ : ∃ m, xs.length - i = m + 1 := ⟨xs.length - i - 1, by omega⟩
 rw [List.set_append_right _ _ (by omega), hl, Nat.sub_self, hm, List.replicate_succ, List.set_cons_zero, List.take_succ_eq_append_getElem h, List.map_append, List.append_assoc, show xs.length - (i + 1) = m by omega]
 rfl
theorem row_len {α β : Type} (f : α → β) (z : β) (xs : List α) (i : Nat) (h : i ≤ xs.length) : ((xs.take i).map f ++ List.replicate (xs.length - i) z).length = xs.length := by simp; omega
theorem toUint64S_loop (l : List Int) (hl : l.length ≤ 140737488351232) (d : Nat) : ∀ (k i : Nat) (x : List Int), x.length = l.length → i + d = l.length → d < k → (∀ j, j < i → x[j]? = l[j]?) → laws_toUint64S.l0 k l x (i : Int) = some l := by
 induction d with
 | zero =>
  intro k i x hx hi hk hj
  obtain ⟨k, rfl⟩ : ∃ m, k = m + 1 := ⟨k - 1, by omega⟩
  rw [laws_toUint64S.l0, if_neg (by omega)]
  congr 1
  apply List.ext_getElem?
  intro j
  rcases Nat.lt_or_ge j i with h | h
  ·
   exact hj j h
  ·
   rw [List.getElem?_eq_none (by omega), List.getElem?_eq_none (by omega)]
 | succ d ih =>
  intro k i x hx hi hk hj
  obtain ⟨k, rfl⟩ : ∃ m, k = m + 1 := ⟨k - 1, by omega⟩
  rw [laws_toUint64S.l0, if_pos (by omega), if_pos (by omega), if_pos (by omega), rd_nat, getD_at l i (by omega), wrap_up i (by omega), Int.toNat_natCast]
  refine ih k (i + 1) _ (by simp [hx]) (by omega) (by omega) (fun j hjj => ?_)
  by_cases e : j = i
  ·
   subst e
   rw [List.getElem?_set_self (by omega), List.getElem?_eq_getElem (by omega)]
  ·
   rw [List.getElem?_set_ne (fun q => e q.symm)]
   exact hj j (by omega)
theorem toUint64S_f (l : List Int) (hl : l.length ≤ 2097152) (k : Nat) (hk : l.length < k) : laws_toUint64S.f k l = some l := by
 unfold laws_toUint64S.f
 rw [if_pos (by omega), if_pos (by omega)]
 exact toUint64S_loop l (by omega) l.length k 0 _ (by simp) (by omega) hk (fun j hj => absurd hj (Nat.not_lt_zero _))
set_option maxHeartbeats 4000000 in
set_option maxRecDepth 100000 in
theorem toEventS_ok (A : Option Addr) (c : Nat) (xs : List EvL) (w : World) (h : Kd.C kEvL w A xs.length xs) (hc : xs.length ≤ c) (hl : xs.length ≤ 2097152) (hs : ∀ x ∈ xs, x.f1.length ≤ 2097152) :
  Calls Tryd.prog 126 #[.slice A xs.length c] w fun e w' => ∃ B d, e = .returned (.slice B xs.length d) ∧ Kd.S kEv 138 w' w.heap.size (fun _ => True) (.slice B xs.length d) (xs.map toEv) ∧ Below w.heap.size w w' := by
 have HR := Aside0.mk h
 have HSZ := Aside0.mk hs
 have HL := Aside0.mk (And.intro hc hl)
 have hn0 : (0 : Int) ≤ (xs.length : Int) := by omega
 have hn1 : (xs.length : Int).toNat * 32 ≤ 281474976710656 := by omega
 clear h hs hc hl
 go_enter Tryd.func126, Tryd.ntmps126
 go_wp2_with (first | ((with_reducible refine gate_dst (N := 7) rfl ?_); refine Kd.S_make kEv _ 138 rfl (N := 7) rfl 68 _ _ rfl (xs.length : Int) rfl rfl Tryd.underlying68 (.agg #[(.int .i64 0), (.slice none 0 0)]) 32 info138 rfl (by decide) (by omega) z138 (ok := fun _ => True) (okp := fun _ => True) (k138_mkM _ _ _ z138 (Kd.R_nil _ _ _ _ _)) (fun _ hk => hk) trivial hn0 hn1 (Below.refl _ _) (Nat.le_refl _) ?_; intro v w4 hS hb hg_ hnew_; obtain ⟨B, d, rfl⟩ := Kd.S_slice hS; have HS := Aside0.mk hS; have HB := Aside0.mk hb; clear hS hb hg_ hnew_))
 rw [List.length_replicate, Int.toNat_natCast] at *
 clear hn0 hn1
 go_loopg [4] (xs.length + 1) (fun kq v4 w' => ∃ i : Nat, v4 = .int .i64 i ∧ Aside0 (kq + i = xs.length + 1 ∧ i ≤ xs.length) ∧ Aside0 (Kd.S kEv 138 w' w.heap.size (fun _ => True) (.slice B xs.length d) ((xs.take i).map toEv ++ List.replicate (xs.length - i) z138)) ∧ Aside0 (Below w.heap.size w w'))
 case atStart => exact ⟨0, rfl, ⟨⟨by omega, by omega⟩⟩, by simpa using HS, HB⟩
 case round =>
  clear HS HB
  obtain ⟨i, rfl, HJ, HS, HB⟩ := hrel
  have hj0 := HJ.out
  have hl2 := HL.out.2
  by_cases hj : i < xs.length
  ·
   have c1 : decide ((i : Int) < (xs.length : Int)) = true := decide_eq_true (by omega)
   have ci : (0 : Int) ≤ (i : Int) := by omega
   have ci2 : (i : Int) < (xs.length : Int) := by omega
   have hlen := row_len toEv z138 xs i (by omega)
   have HNX := Aside0.mk (row_next toEv z138 xs i hj)
   generalize hY : (xs.take i).map toEv ++ List.replicate (xs.length - i) z138 = ys at HS hlen HNX
   clear hY
   obtain ⟨g, cap, eB, gb, gl, _⟩ := Kd.S_form (show Kd.S kEv 138 wr w.heap.size (fun _ => True) (.slice B ys.length d) ys by rw [hlen]; exact HS.out) (by omega)
   injection eB with eB _ eC
   subst eB
   subst eC
   obtain ⟨oki, cc, hcl, hM, hcc, hfr, hoki, hH⟩ := Kd.S_elem HS.out z138 (i : Int) (by omega) (by omega)
   obtain ⟨ad, A1, c1_, eA, hx0, hx1, hl1, hi1⟩ := at_T174 HR.out (i : Int) (by omega) (by omega)
   have ex : rd_T174 xs (i : Int) = xs[i] := by unfold rd_T174; rw [Int.toNat_natCast, List.getD_eq_getElem?_getD, List.getElem?_eq_getElem hj]; rfl
   rw [ex] at hx0 hx1 hl1 hi1
   cases eA
   have hlt := HB.out
   replace hx0 := (HB.out.cell (World.block_lt_of_cell? w _ hx0)).trans hx0
   replace hx1 := (HB.out.cell (World.block_lt_of_cell? w _ hx1)).trans hx1
   rw [Int.toNat_natCast] at hx0 hx1
   have HI1 := Aside0.mk (And.intro hi1 hl1)
   have hsx := HSZ.out xs[i] (List.getElem_mem hj)
   have hcall := laws_toEvent.calls 3000000 xs[i].f0 A1 c1_ xs[i].f1 xs[i].f0 xs[i].f1 wr (Kd.C_below HI1.out.1 HB.out) HI1.out.2 (by unfold laws_toEvent.f; rw [toByteS_f _ (by omega) _ (by omega)]; rfl)
   have HCALL := Aside0.mk hcall
   clear hcall hsx
   go_wp2_with fail
   refine HCALL.out.mono ?_
   rintro e w2 ⟨v1, rfl, hv1, hb2⟩
   obtain ⟨B1, d1, rfl⟩ := Kd.R_slice hv1
   have HV1 := Aside0.mk hv1
   clear HCALL hv1
   have hH2 := Kd.H_below (Kd.H_widen hH) hb2
   obtain ⟨oki2, cc2, hcl2, hM2_, hcc2, hfr2, hoki2, _⟩ := Kd.S_elem (Kd.S_below HS.out hb2) z138 (i : Int) (by omega) (by omega)
   obtain ⟨y0, y1, rfl⟩ : ∃ y0 y1, cc2 = [y0, y1] := by
    match cc2, hcl2 with
    | [y0, y1], _ => exact ⟨y0, y1, rfl⟩
   have z0 := hcc2 0 _ rfl
   have f0 := hfr2 0
   rw [show (i : Int).toNat * kEv.sz + 0 = i * 2 + 0 by rw [Int.toNat_natCast]; rfl] at z0 f0
   have z1 := hcc2 1 _ rfl
   have f1 := hfr2 1
   rw [show (i : Int).toNat * kEv.sz + 1 = i * 2 + 1 by rw [Int.toNat_natCast]; rfl] at z1 f1
   rw [Nat.add_zero] at z0 f0
   have hseg := (Kd.H_seg hH2 (by omega) (by omega) (seg := [Value.int .i64 xs[i].f0, Value.slice B1 xs[i].f1.length d1]) (j := 0) (show 0 + 2 ≤ 2 by omega) (by intro q hq; simp only [List.mem_cons, List.not_mem_nil, or_false] at hq; rcases hq with rfl | rfl <;> rfl)).1
   have hcc0 : cc.take 0 ++ [Value.int .i64 xs[i].f0, Value.slice B1 xs[i].f1.length d1] ++ cc.drop (0 + [Value.int .i64 xs[i].f0, Value.slice B1 xs[i].f1.length d1].length) = [Value.int .i64 xs[i].f0, Value.slice B1 xs[i].f1.length d1] := by rw [List.drop_eq_nil_of_le (by rw [hcl]; exact Nat.le_of_eq rfl)]; rfl
   rw [hcc0] at hseg
   rw [show (i : Int).toNat * kEv.sz + 0 = i * 2 by rw [Int.toNat_natCast]; rfl] at hseg
   have HSEG := Aside0.mk hseg
   have HB2 := Aside0.mk (below_step HB.out hb2)
   have HG := Aside0.mk (And.intro gb (And.intro gl HB.out.size))
   clear hseg hH hH2 hM hM2_ hcc hcc2 hfr hfr2 hoki hoki2 hcl hcl2 hcc0 HB HS hb2 hlen
   obtain ⟨k1, rfl⟩ : ∃ k1, gk = k1 + 1 := ⟨gk - 1, by omega⟩
   go_wp2_with fail
   go_roundg k1
   case measure => omega
   case rel =>
    refine ⟨i + 1, by go_num, ⟨⟨by omega, by omega⟩⟩, ⟨?_⟩, ⟨by with_reducible repeat (first | exact HB2.out | refine below_set ?_ (by have := HG.out.1; omega))⟩⟩
    have hb := Kd.H_back HSEG.out (x' := toEv xs[i]) (k138_mkM _ _ _ (toEv xs[i]) (Kd.R_far (p := ⟨g, i * 2 + 1, none⟩) (Kd.R_far (p := ⟨g, i * 2, none⟩) (Kd.R_lower (Kd.R_mono (Kd.R_bound HV1.out) (fun k hk => hk.2.1)) HG.out.2.2) (fun k hk => Nat.ne_of_gt (Nat.lt_of_lt_of_le HG.out.2.1 hk)) _) (fun k hk => Nat.ne_of_gt (Nat.lt_of_lt_of_le HG.out.2.1 hk)) _)) (fun k hk => .inr ⟨trivial, hk⟩)
    rw [Int.toNat_natCast, HNX.out] at hb
    exact hb
  ·
   have c1 : decide ((i : Int) < (xs.length : Int)) = false := decide_eq_false (by omega)
   obtain rfl : i = xs.length := by omega
   go_wp2_with fail
   go_ret
   refine ⟨B, d, rfl, ?_, HB.out⟩
   have := HS.out
   rwa [List.take_length, Nat.sub_self, List.replicate_zero, List.append_nil] at this
set_option maxHeartbeats 4000000 in
set_option maxRecDepth 100000 in
theorem toSession_ok (a0 a1 : Int) (A : Option Addr) (c : Nat) (xs : List EvL) (w : World) (h : Kd.C kEvL w A xs.length xs) (hc : xs.length ≤ c) (hl : xs.length ≤ 2097152) (hs : ∀ x ∈ xs, x.f1.length ≤ 2097152) :
  Calls Tryd.prog 97 #[.agg #[.int .u64 a0, .int .i64 a1, .slice A xs.length c]] w fun e w' => ∃ B d, e = .returned (.agg #[.int .u64 a0, .int .i64 a1, .slice B xs.length d]) ∧ Kd.S kEv tEv w' w.heap.size (fun _ => True) (.slice B xs.length d) (xs.map toEv) ∧ Below w.heap.size w w' := by
 have HR := Aside0.mk h
 have HSZ := Aside0.mk hs
 have HL := Aside0.mk (And.intro hc hl)
 clear h hs hc hl
 go_enter Tryd.func97, Tryd.ntmps97
 go_wp2_with fail
 have b1 := blk_new (w.alloc (.cells #[.int .u64 a0, .int .i64 a1, .slice A xs.length c] 129)) (.cells #[.int .u64 0, .int .i64 0, .slice none 0 0] 70)
 have b2 := blk_new ((w.alloc (.cells #[.int .u64 a0, .int .i64 a1, .slice A xs.length c] 129)).alloc (.cells #[.int .u64 0, .int .i64 0, .slice none 0 0] 70)) (.cells #[.int .u64 a0, .int .i64 a1, .slice none 0 0] 70)
 replace b1 := blk_alloc b1 (.cells #[.int .u64 a0, .int .i64 a1, .slice none 0 0] 70)
 have hB := below_alloc (below_alloc (below_alloc (Below.refl w.heap.size w) (.cells #[.int .u64 a0, .int .i64 a1, .slice A xs.length c] 129)) (.cells #[.int .u64 0, .int .i64 0, .slice none 0 0] 70)) (.cells #[.int .u64 a0, .int .i64 a1, .slice none 0 0] 70)
 simp only [World.size_alloc] at b1 b2
 generalize (((w.alloc (.cells #[.int .u64 a0, .int .i64 a1, .slice A xs.length c] 129)).alloc (.cells #[.int .u64 0, .int .i64 0, .slice none 0 0] 70)).alloc (.cells #[.int .u64 a0, .int .i64 a1, .slice none 0 0] 70)) = W at *
 have hz2 := blk_lt b2
 refine (toEventS_ok A c xs W (Kd.C_below HR.out hB) HL.out.1 HL.out.2 HSZ.out).mono ?_
 rintro e w2 ⟨B, d, rfl, hS, hb⟩
 have BR := Aside0.mk (blk_below b1 hb)
 have BO := Aside0.mk (blk_below b2 hb)
 have HB := Aside0.mk (below_step hB hb)
 have HS := Aside0.mk hS
 have HZ := Aside0.mk hz2
 clear b1 b2 hb hB hS hz2
 have z0 := blk_cell BO.out 0
 have z1 := blk_cell BO.out 1
 have z2 := blk_cell BO.out 2
 have x0 := blk_cell BR.out 0
 have x1 := blk_cell BR.out 1
 have x2 := blk_cell BR.out 2
 simp only [List.getElem?_toArray, List.getElem?_cons_zero, List.getElem?_cons_succ] at z0 z1 z2 x0 x1 x2
 have f0 := blk_frozen BR.out 0
 have f1 := blk_frozen BR.out 1
 have f2 := blk_frozen BR.out 2
 have g2 := blk_frozen BO.out 2
 have q0 := cell_far_ x0 (show w.heap.size + 1 ≠ w.heap.size + 1 + 1 by omega) (.slice B xs.length d) (j := 2)
 have q1 := cell_far_ x1 (show w.heap.size + 1 ≠ w.heap.size + 1 + 1 by omega) (.slice B xs.length d) (j := 2)
 have q2 := cell_far_ x2 (show w.heap.size + 1 ≠ w.heap.size + 1 + 1 by omega) (.slice B xs.length d) (j := 2)
 go_wp2_with fail
 refine bodyPost_ret (results_cell_row rfl _ _ (w.heap.size + 1) 70 #[.int .u64 a0, .int .i64 a1, .slice B xs.length d] (0, 0) _ rfl (by refine blk_put (cs := #[.int .u64 a0, .int .i64 a1, .slice none 0 0]) ?_ 2 _ rfl; refine blk_put (cs := #[.int .u64 a0, .int .i64 0, .slice none 0 0]) ?_ 1 _ rfl; refine blk_put (cs := #[.int .u64 0, .int .i64 0, .slice none 0 0]) ?_ 0 _ rfl; refine blk_far ?_ (show w.heap.size + 1 ≠ w.heap.size + 1 + 1 by omega) _; exact BR.out) Tryd.underlying70 rfl (by kernel_rfl)) rfl ?_
 have hz := HZ.out
 refine ⟨B, d, rfl, ?_, by with_reducible repeat (first | exact HB.out | refine below_set ?_ (by omega))⟩
 refine Kd.S_lower (base := W.heap.size) (Kd.S_mono (ok := fun k => W.heap.size ≤ k) ?_ (fun _ _ => trivial)) (by omega)
 refine Kd.S_far (p := ⟨w.heap.size + 1, 2, none⟩) ?_ (fun k hk => by show k ≠ w.heap.size + 1; omega) _
 refine Kd.S_far (p := ⟨w.heap.size + 1, 1, none⟩) ?_ (fun k hk => by show k ≠ w.heap.size + 1; omega) _
 refine Kd.S_far (p := ⟨w.heap.size + 1, 0, none⟩) ?_ (fun k hk => by show k ≠ w.heap.size + 1; omega) _
 refine Kd.S_far (p := ⟨w.heap.size + 1 + 1, 2, none⟩) ?_ (fun k hk => by show k ≠ w.heap.size + 1 + 1; omega) _
 exact Kd.S_mono (Kd.S_bound HS.out) (fun k hk => hk.2.1)
set_option maxHeartbeats 4000000 in
set_option maxRecDepth 100000 in
theorem toSessionS_ok (A : Option Addr) (c : Nat) (xs : List SeL) (w : World) (h : Kd.C kSeL w A xs.length xs) (hc : xs.length ≤ c) (hl : xs.length ≤ 2097152) (hs : ∀ x ∈ xs, x.f2.length ≤ 2097152 ∧ ∀ y ∈ x.f2, y.f1.length ≤ 2097152) :
  Calls Tryd.prog 45 #[.slice A xs.length c] w fun e w' => ∃ B d, e = .returned (.slice B xs.length d) ∧ Kd.S aSe 70 w' w.heap.size (fun _ => True) (.slice B xs.length d) (xs.map toSe) ∧ Below w.heap.size w w' := by
 have HR := Aside0.mk h
 have HSZ := Aside0.mk hs
 have HL := Aside0.mk (And.intro hc hl)
 have hn0 : (0 : Int) ≤ (xs.length : Int) := by omega
 have hn1 : (xs.length : Int).toNat * 40 ≤ 281474976710656 := by omega
 clear h hs hc hl
 go_enter Tryd.func45, Tryd.ntmps45
 go_wp2_with (first | ((with_reducible refine gate_dst (N := 7) rfl ?_); refine Kd.S_make aSe _ 70 rfl (N := 7) rfl 33 _ _ rfl (xs.length : Int) rfl rfl Tryd.underlying33 (.agg #[(.int .u64 0), (.int .i64 0), (.slice none 0 0)]) 40 info70 rfl (by decide) (by omega) z70 (ok := fun _ => True) (okp := fun _ => True) (aSe_mk _ _ _ z70 (Kd.S_nil _ _ _ _ _)) (fun _ hk => hk) trivial hn0 hn1 (Below.refl _ _) (Nat.le_refl _) ?_; intro v w4 hS hb hg_ hnew_; obtain ⟨B, d, rfl⟩ := Kd.S_slice hS; have HS := Aside0.mk hS; have HB := Aside0.mk hb; clear hS hb hg_ hnew_))
 rw [List.length_replicate, Int.toNat_natCast] at *
 clear hn0 hn1
 go_loopg [4] (xs.length + 1) (fun kq v4 w' => ∃ i : Nat, v4 = .int .i64 i ∧ Aside0 (kq + i = xs.length + 1 ∧ i ≤ xs.length) ∧ Aside0 (Kd.S aSe 70 w' w.heap.size (fun _ => True) (.slice B xs.length d) ((xs.take i).map toSe ++ List.replicate (xs.length - i) z70)) ∧ Aside0 (Below w.heap.size w w'))
 case atStart => exact ⟨0, rfl, ⟨⟨by omega, by omega⟩⟩, by simpa using HS, HB⟩
 case round =>
  clear HS HB
  obtain ⟨i, rfl, HJ, HS, HB⟩ := hrel
  have hj0 := HJ.out
  have hl2 := HL.out.2
  by_cases hj : i < xs.length
  ·
   have c1 : decide ((i : Int) < (xs.length : Int)) = true := decide_eq_true (by omega)
   have ci : (0 : Int) ≤ (i : Int) := by omega
   have ci2 : (i : Int) < (xs.length : Int) := by omega
   have hlen := row_len toSe z70 xs i (by omega)
   have HNX := Aside0.mk (row_next toSe z70 xs i hj)
   generalize hY : (xs.take i).map toSe ++ List.replicate (xs.length - i) z70 = ys at HS hlen HNX
   clear hY
   obtain ⟨g, cap, eB, gb, gl, _⟩ := Kd.S_form (show Kd.S aSe 70 wr w.heap.size (fun _ => True) (.slice B ys.length d) ys by rw [hlen]; exact HS.out) (by omega)
   injection eB with eB _ eC
   subst eB
   subst eC
   obtain ⟨oki, cc, hcl, hM, hcc, hfr, hoki, hH⟩ := Kd.S_elem HS.out z70 (i : Int) (by omega) (by omega)
   obtain ⟨ad, A2, c2_, eA, hx0, hx1, hx2, hl2, hi2⟩ := at_T129 HR.out (i : Int) (by omega) (by omega)
   have ex : rd_T129 xs (i : Int) = xs[i] := by unfold rd_T129; rw [Int.toNat_natCast, List.getD_eq_getElem?_getD, List.getElem?_eq_getElem hj]; rfl
   rw [ex] at hx0 hx1 hx2 hl2 hi2
   cases eA
   have hlt := HB.out
   replace hx0 := (HB.out.cell (World.block_lt_of_cell? w _ hx0)).trans hx0
   replace hx1 := (HB.out.cell (World.block_lt_of_cell? w _ hx1)).trans hx1
   replace hx2 := (HB.out.cell (World.block_lt_of_cell? w _ hx2)).trans hx2
   rw [Int.toNat_natCast] at hx0 hx1 hx2
   have HI2 := Aside0.mk (And.intro hi2 hl2)
   have hsx := HSZ.out xs[i] (List.getElem_mem hj)
   have hcall := toSession_ok xs[i].f0 xs[i].f1 A2 c2_ xs[i].f2 wr (Kd.C_below HI2.out.1 HB.out) HI2.out.2 hsx.1 hsx.2
   have HCALL := Aside0.mk hcall
   clear hcall hsx
   go_wp2_with fail
   refine HCALL.out.mono ?_
   rintro e w2 ⟨B2, d2, rfl, hv2, hb2⟩
   have HV2 := Aside0.mk hv2
   clear HCALL hv2
   have hH2 := Kd.H_below (Kd.H_widen hH) hb2
   obtain ⟨oki2, cc2, hcl2, hM2_, hcc2, hfr2, hoki2, _⟩ := Kd.S_elem (Kd.S_below HS.out hb2) z70 (i : Int) (by omega) (by omega)
   obtain ⟨y0, y1, y2, rfl⟩ : ∃ y0 y1 y2, cc2 = [y0, y1, y2] := by
    match cc2, hcl2 with
    | [y0, y1, y2], _ => exact ⟨y0, y1, y2, rfl⟩
   have z0 := hcc2 0 _ rfl
   have f0 := hfr2 0
   rw [show (i : Int).toNat * aSe.sz + 0 = i * 3 + 0 by rw [Int.toNat_natCast]; rfl] at z0 f0
   have z1 := hcc2 1 _ rfl
   have f1 := hfr2 1
   rw [show (i : Int).toNat * aSe.sz + 1 = i * 3 + 1 by rw [Int.toNat_natCast]; rfl] at z1 f1
   have z2 := hcc2 2 _ rfl
   have f2 := hfr2 2
   rw [show (i : Int).toNat * aSe.sz + 2 = i * 3 + 2 by rw [Int.toNat_natCast]; rfl] at z2 f2
   rw [Nat.add_zero] at z0 f0
   have hseg := (Kd.H_seg hH2 (by omega) (by omega) (seg := [Value.int .u64 xs[i].f0, Value.int .i64 xs[i].f1, Value.slice B2 xs[i].f2.length d2]) (j := 0) (show 0 + 3 ≤ 3 by omega) (by intro q hq; simp only [List.mem_cons, List.not_mem_nil, or_false] at hq; rcases hq with rfl | rfl | rfl <;> rfl)).1
   have hcc0 : cc.take 0 ++ [Value.int .u64 xs[i].f0, Value.int .i64 xs[i].f1, Value.slice B2 xs[i].f2.length d2] ++ cc.drop (0 + [Value.int .u64 xs[i].f0, Value.int .i64 xs[i].f1, Value.slice B2 xs[i].f2.length d2].length) = [Value.int .u64 xs[i].f0, Value.int .i64 xs[i].f1, Value.slice B2 xs[i].f2.length d2] := by rw [List.drop_eq_nil_of_le (by rw [hcl]; exact Nat.le_of_eq rfl)]; rfl
   rw [hcc0] at hseg
   rw [show (i : Int).toNat * aSe.sz + 0 = i * 3 by rw [Int.toNat_natCast]; rfl] at hseg
   have HSEG := Aside0.mk hseg
   have HB2 := Aside0.mk (below_step HB.out hb2)
   have HG := Aside0.mk (And.intro gb (And.intro gl HB.out.size))
   clear hseg hH hH2 hM hM2_ hcc hcc2 hfr hfr2 hoki hoki2 hcl hcl2 hcc0 HB HS hb2 hlen
   obtain ⟨k1, rfl⟩ : ∃ k1, gk = k1 + 1 := ⟨gk - 1, by omega⟩
   go_wp2_with fail
   go_roundg k1
   case measure => omega
   case rel =>
    refine ⟨i + 1, by go_num, ⟨⟨by omega, by omega⟩⟩, ⟨?_⟩, ⟨by with_reducible repeat (first | exact HB2.out | refine below_set ?_ (by have := HG.out.1; omega))⟩⟩
    have hb := Kd.H_back HSEG.out (x' := toSe xs[i]) (aSe_mk _ _ (fun k => wr.heap.size ≤ k) (toSe xs[i]) (by show Kd.S kEv tEv _ _ _ (.slice B2 xs[i].f2.length d2) (xs[i].f2.map toEv); exact (Kd.S_far (p := ⟨g, i * 3 + 2, none⟩) (Kd.S_far (p := ⟨g, i * 3 + 1, none⟩) (Kd.S_far (p := ⟨g, i * 3, none⟩) (Kd.S_lower (Kd.S_mono (Kd.S_bound HV2.out) (fun k hk => hk.2.1)) HG.out.2.2) (fun k hk => Nat.ne_of_gt (Nat.lt_of_lt_of_le HG.out.2.1 hk)) _) (fun k hk => Nat.ne_of_gt (Nat.lt_of_lt_of_le HG.out.2.1 hk)) _) (fun k hk => Nat.ne_of_gt (Nat.lt_of_lt_of_le HG.out.2.1 hk)) _))) (fun k hk => .inr ⟨trivial, hk⟩)
    rw [Int.toNat_natCast, HNX.out] at hb
    exact hb
  ·
   have c1 : decide ((i : Int) < (xs.length : Int)) = false := decide_eq_false (by omega)
   obtain rfl : i = xs.length := by omega
   go_wp2_with fail
   go_ret
   refine ⟨B, d, rfl, ?_, HB.out⟩
   have := HS.out
   rwa [List.take_length, Nat.sub_self, List.replicate_zero, List.append_nil] at this
theorem toNode_f (x : NoL) (h : (x.f0.length ≤ 2097152 ∧ x.f1.length ≤ 2097152) ∧ x.f4.length ≤ 2097152 ∧ x.f7.length ≤ 2097152) (k : Nat) (hk : 2097152 < k) : laws_toNode.f k x.f0 x.f1 x.f2 x.f3 x.f4 x.f5 x.f6 x.f7 = some (x.f0, x.f1, x.f2, x.f3, x.f4, x.f5, x.f6, x.f7) := by
 unfold laws_toNode.f
 rw [toByteS_f x.f0 (by omega) k (by omega), Option.bind_some, toByteS_f x.f1 (by omega) k (by omega), Option.bind_some, toUint64S_f x.f4 (by omega) k (by omega), Option.bind_some, toUint64S_f x.f7 (by omega) k (by omega)]
 rfl
theorem kinds_ne {w : World} {base : Nat} {ok ok' : Nat → Prop} {u v : Value} {xs ys : List Int} (h : (Kd.int .u8).R 5 w base ok u xs) (h' : (Kd.int .u64).R 26 w base ok' v ys) : ∀ k, some k = v.ownBlock → some k ≠ u.ownBlock := by
 intro k hk hk'
 obtain ⟨c1, e1⟩ := Kd.R_typed h k hk'.symm
 obtain ⟨c2, e2⟩ := Kd.R_typed h' k hk.symm
 rw [e1] at e2
 injection e2 with e2
 injection e2 with _ e2
 exact absurd e2 (by decide)
theorem node_fresh {w2 wr : World} {v0 v1 v4 v7 : Value} (x : NoL) (h0 : Kd.R (Kd.int .u8) 5 w2 wr.heap.size (fun k_ => some k_ ≠ (v1 : Value).ownBlock) v0 x.f0) (h1 : Kd.R (Kd.int .u8) 5 w2 wr.heap.size (fun k_ => some k_ ≠ (v0 : Value).ownBlock) v1 x.f1)
  (h4 : Kd.R (Kd.int .u64) 26 w2 wr.heap.size (fun k_ => some k_ ≠ (v7 : Value).ownBlock) v4 x.f4) (h7 : Kd.R (Kd.int .u64) 26 w2 wr.heap.size (fun k_ => some k_ ≠ (v4 : Value).ownBlock) v7 x.f7) :
  aNo.M w2 wr.heap.size (fun k => wr.heap.size ≤ k) (toNo x) [v0, v1, .int .u64 x.f2, .int .i64 x.f3, v4, .int .u64 x.f5, .int .u64 x.f6, v7] :=
 aNo_mk w2 wr.heap.size (fun k => wr.heap.size ≤ k) (toNo x) (Kd.R_mono (Kd.R_bound h0) (fun k hk => hk.2.1)) (Kd.R_mono (Kd.R_bound h1) (fun k hk => hk.2.1)) (Kd.R_mono (Kd.R_bound h4) (fun k hk => hk.2.1)) (Kd.R_mono (Kd.R_bound h7) (fun k hk => hk.2.1))
  (fun k hk => h1.1 k hk.symm) (kinds_ne h0 h4) (kinds_ne h0 h7) (kinds_ne h1 h4) (kinds_ne h1 h7) (fun k hk => h7.1 k hk.symm)
set_option maxHeartbeats 4000000 in
set_option maxRecDepth 100000 in
theorem toNodeS_ok (A : Option Addr) (c : Nat) (xs : List NoL) (w : World) (h : Kd.C kNoL w A xs.length xs) (hc : xs.length ≤ c) (hl : xs.length ≤ 2097152) (hs : ∀ x ∈ xs, (x.f0.length ≤ 2097152 ∧ x.f1.length ≤ 2097152) ∧ x.f4.length ≤ 2097152 ∧ x.f7.length ≤ 2097152) :
  Calls Tryd.prog 46 #[.slice A xs.length c] w fun e w' => ∃ B d, e = .returned (.slice B xs.length d) ∧ Kd.S aNo 76 w' w.heap.size (fun _ => True) (.slice B xs.length d) (xs.map toNo) ∧ Below w.heap.size w w' := by
 have HR := Aside0.mk h
 have HSZ := Aside0.mk hs
 have HL := Aside0.mk (And.intro hc hl)
 have hn0 : (0 : Int) ≤ (xs.length : Int) := by omega
 have hn1 : (xs.length : Int).toNat * 128 ≤ 281474976710656 := by omega
 clear h hs hc hl
 go_enter Tryd.func46, Tryd.ntmps46
 go_wp2_with (first | ((with_reducible refine gate_dst (N := 7) rfl ?_); refine Kd.S_make aNo _ 76 rfl (N := 7) rfl 34 _ _ rfl (xs.length : Int) rfl rfl Tryd.underlying34 (.agg #[(.slice none 0 0), (.slice none 0 0), (.int .u64 0), (.int .i64 0), (.slice none 0 0), (.int .u64 0), (.int .u64 0), (.slice none 0 0)]) 128 info76 rfl (by decide) (by omega) z76 (ok := fun _ => True) (okp := fun _ => True) (aNo_mk _ _ _ z76 (Kd.R_nil _ _ _ _ _) (Kd.R_nil _ _ _ _ _) (Kd.R_nil _ _ _ _ _) (Kd.R_nil _ _ _ _ _) (by intro k hk; simp [Value.ownBlock] at hk) (by intro k hk; simp [Value.ownBlock] at hk) (by intro k hk; simp [Value.ownBlock] at hk) (by intro k hk; simp [Value.ownBlock] at hk) (by intro k hk; simp [Value.ownBlock] at hk) (by intro k hk; simp [Value.ownBlock] at hk)) (fun _ hk => hk) trivial hn0 hn1 (Below.refl _ _) (Nat.le_refl _) ?_; intro v w4 hS hb hg_ hnew_; obtain ⟨B, d, rfl⟩ := Kd.S_slice hS; have HS := Aside0.mk hS; have HB := Aside0.mk hb; clear hS hb hg_ hnew_))
 rw [List.length_replicate, Int.toNat_natCast] at *
 clear hn0 hn1
 go_loopg [4] (xs.length + 1) (fun kq v4 w' => ∃ i : Nat, v4 = .int .i64 i ∧ Aside0 (kq + i = xs.length + 1 ∧ i ≤ xs.length) ∧ Aside0 (Kd.S aNo 76 w' w.heap.size (fun _ => True) (.slice B xs.length d) ((xs.take i).map toNo ++ List.replicate (xs.length - i) z76)) ∧ Aside0 (Below w.heap.size w w'))
 case atStart => exact ⟨0, rfl, ⟨⟨by omega, by omega⟩⟩, by simpa using HS, HB⟩
 case round =>
  clear HS HB
  obtain ⟨i, rfl, HJ, HS, HB⟩ := hrel
  have hj0 := HJ.out
  have hl2 := HL.out.2
  by_cases hj : i < xs.length
  ·
   have c1 : decide ((i : Int) < (xs.length : Int)) = true := decide_eq_true (by omega)
   have ci : (0 : Int) ≤ (i : Int) := by omega
   have ci2 : (i : Int) < (xs.length : Int) := by omega
   have hlen := row_len toNo z76 xs i (by omega)
   have HNX := Aside0.mk (row_next toNo z76 xs i hj)
   generalize hY : (xs.take i).map toNo ++ List.replicate (xs.length - i) z76 = ys at HS hlen HNX
   clear hY
   obtain ⟨g, cap, eB, gb, gl, _⟩ := Kd.S_form (show Kd.S aNo 76 wr w.heap.size (fun _ => True) (.slice B ys.length d) ys by rw [hlen]; exact HS.out) (by omega)
   injection eB with eB _ eC
   subst eB
   subst eC
   obtain ⟨oki, cc, hcl, hM, hcc, hfr, hoki, hH⟩ := Kd.S_elem HS.out z76 (i : Int) (by omega) (by omega)
   obtain ⟨ad, A0, c0_, A1, c1_, A4, c4_, A7, c7_, eA, hx0, hx1, hx2, hx3, hx4, hx5, hx6, hx7, hl0, hi0, hl1, hi1, hl4, hi4, hl7, hi7⟩ := at_T131 HR.out (i : Int) (by omega) (by omega)
   have ex : rd_T131 xs (i : Int) = xs[i] := by unfold rd_T131; rw [Int.toNat_natCast, List.getD_eq_getElem?_getD, List.getElem?_eq_getElem hj]; rfl
   rw [ex] at hx0 hx1 hx2 hx3 hx4 hx5 hx6 hx7 hl0 hi0 hl1 hi1 hl4 hi4 hl7 hi7
   cases eA
   have hlt := HB.out
   replace hx0 := (HB.out.cell (World.block_lt_of_cell? w _ hx0)).trans hx0
   replace hx1 := (HB.out.cell (World.block_lt_of_cell? w _ hx1)).trans hx1
   replace hx2 := (HB.out.cell (World.block_lt_of_cell? w _ hx2)).trans hx2
   replace hx3 := (HB.out.cell (World.block_lt_of_cell? w _ hx3)).trans hx3
   replace hx4 := (HB.out.cell (World.block_lt_of_cell? w _ hx4)).trans hx4
   replace hx5 := (HB.out.cell (World.block_lt_of_cell? w _ hx5)).trans hx5
   replace hx6 := (HB.out.cell (World.block_lt_of_cell? w _ hx6)).trans hx6
   replace hx7 := (HB.out.cell (World.block_lt_of_cell? w _ hx7)).trans hx7
   rw [Int.toNat_natCast] at hx0 hx1 hx2 hx3 hx4 hx5 hx6 hx7
   have HI0 := Aside0.mk (And.intro hi0 hl0)
   have HI1 := Aside0.mk (And.intro hi1 hl1)
   have HI4 := Aside0.mk (And.intro hi4 hl4)
   have HI7 := Aside0.mk (And.intro hi7 hl7)
   have hsx := HSZ.out xs[i] (List.getElem_mem hj)
   have hcall := laws_toNode.calls 3000000 A0 c0_ xs[i].f0 A1 c1_ xs[i].f1 xs[i].f2 xs[i].f3 A4 c4_ xs[i].f4 xs[i].f5 xs[i].f6 A7 c7_ xs[i].f7 _ _ _ _ _ _ _ _ wr (Kd.C_below HI0.out.1 HB.out) HI0.out.2 (Kd.C_below HI1.out.1 HB.out) HI1.out.2 (Kd.C_below HI4.out.1 HB.out) HI4.out.2 (Kd.C_below HI7.out.1 HB.out) HI7.out.2 (toNode_f xs[i] hsx 3000000 (by omega))
   have HCALL := Aside0.mk hcall
   clear hcall hsx
   go_wp2_with fail
   refine HCALL.out.mono ?_
   rintro e w2 ⟨v0, v1, v4, v7, rfl, hv0, hv1, hv4, hv7, hb2⟩
   have HM2 := Aside0.mk (node_fresh xs[i] hv0 hv1 hv4 hv7)
   obtain ⟨B0, d0, rfl⟩ := Kd.R_slice hv0
   obtain ⟨B1, d1, rfl⟩ := Kd.R_slice hv1
   obtain ⟨B4, d4, rfl⟩ := Kd.R_slice hv4
   obtain ⟨B7, d7, rfl⟩ := Kd.R_slice hv7
   clear HCALL hv0 hv1 hv4 hv7
   have hH2 := Kd.H_below (Kd.H_widen hH) hb2
   obtain ⟨oki2, cc2, hcl2, hM2_, hcc2, hfr2, hoki2, _⟩ := Kd.S_elem (Kd.S_below HS.out hb2) z76 (i : Int) (by omega) (by omega)
   obtain ⟨y0, y1, y2, y3, y4, y5, y6, y7, rfl⟩ : ∃ y0 y1 y2 y3 y4 y5 y6 y7, cc2 = [y0, y1, y2, y3, y4, y5, y6, y7] := by
    match cc2, hcl2 with
    | [y0, y1, y2, y3, y4, y5, y6, y7], _ => exact ⟨y0, y1, y2, y3, y4, y5, y6, y7, rfl⟩
   have z0 := hcc2 0 _ rfl
   have f0 := hfr2 0
   rw [show (i : Int).toNat * aNo.sz + 0 = i * 8 + 0 by rw [Int.toNat_natCast]; rfl] at z0 f0
   have z1 := hcc2 1 _ rfl
   have f1 := hfr2 1
   rw [show (i : Int).toNat * aNo.sz + 1 = i * 8 + 1 by rw [Int.toNat_natCast]; rfl] at z1 f1
   have z2 := hcc2 2 _ rfl
   have f2 := hfr2 2
   rw [show (i : Int).toNat * aNo.sz + 2 = i * 8 + 2 by rw [Int.toNat_natCast]; rfl] at z2 f2
   have z3 := hcc2 3 _ rfl
   have f3 := hfr2 3
   rw [show (i : Int).toNat * aNo.sz + 3 = i * 8 + 3 by rw [Int.toNat_natCast]; rfl] at z3 f3
   have z4 := hcc2 4 _ rfl
   have f4 := hfr2 4
   rw [show (i : Int).toNat * aNo.sz + 4 = i * 8 + 4 by rw [Int.toNat_natCast]; rfl] at z4 f4
   have z5 := hcc2 5 _ rfl
   have f5 := hfr2 5
   rw [show (i : Int).toNat * aNo.sz + 5 = i * 8 + 5 by rw [Int.toNat_natCast]; rfl] at z5 f5
   have z6 := hcc2 6 _ rfl
   have f6 := hfr2 6
   rw [show (i : Int).toNat * aNo.sz + 6 = i * 8 + 6 by rw [Int.toNat_natCast]; rfl] at z6 f6
   have z7 := hcc2 7 _ rfl
   have f7 := hfr2 7
   rw [show (i : Int).toNat * aNo.sz + 7 = i * 8 + 7 by rw [Int.toNat_natCast]; rfl] at z7 f7
   rw [Nat.add_zero] at z0 f0
   have hseg := (Kd.H_seg hH2 (by omega) (by omega) (seg := [Value.slice B0 xs[i].f0.length d0, Value.slice B1 xs[i].f1.length d1, Value.int .u64 xs[i].f2, Value.int .i64 xs[i].f3, Value.slice B4 xs[i].f4.length d4, Value.int .u64 xs[i].f5, Value.int .u64 xs[i].f6, Value.slice B7 xs[i].f7.length d7]) (j := 0) (show 0 + 8 ≤ 8 by omega) (by intro q hq; simp only [List.mem_cons, List.not_mem_nil, or_false] at hq; rcases hq with rfl | rfl | rfl | rfl | rfl | rfl | rfl | rfl <;> rfl)).1
   have hcc0 : cc.take 0 ++ [Value.slice B0 xs[i].f0.length d0, Value.slice B1 xs[i].f1.length d1, Value.int .u64 xs[i].f2, Value.int .i64 xs[i].f3, Value.slice B4 xs[i].f4.length d4, Value.int .u64 xs[i].f5, Value.int .u64 xs[i].f6, Value.slice B7 xs[i].f7.length d7] ++ cc.drop (0 + [Value.slice B0 xs[i].f0.length d0, Value.slice B1 xs[i].f1.length d1, Value.int .u64 xs[i].f2, Value.int .i64 xs[i].f3, Value.slice B4 xs[i].f4.length d4, Value.int .u64 xs[i].f5, Value.int .u64 xs[i].f6, Value.slice B7 xs[i].f7.length d7].length) = [Value.slice B0 xs[i].f0.length d0, Value.slice B1 xs[i].f1.length d1, Value.int .u64 xs[i].f2, Value.int .i64 xs[i].f3, Value.slice B4 xs[i].f4.length d4, Value.int .u64 xs[i].f5, Value.int .u64 xs[i].f6, Value.slice B7 xs[i].f7.length d7] := by rw [List.drop_eq_nil_of_le (by rw [hcl]; exact Nat.le_of_eq rfl)]; rfl
   rw [hcc0] at hseg
   rw [show (i : Int).toNat * aNo.sz + 0 = i * 8 by rw [Int.toNat_natCast]; rfl] at hseg
   have HSEG := Aside0.mk hseg
   have HB2 := Aside0.mk (below_step HB.out hb2)
   have HG := Aside0.mk (And.intro gb (And.intro gl HB.out.size))
   clear hseg hH hH2 hM hM2_ hcc hcc2 hfr hfr2 hoki hoki2 hcl hcl2 hcc0 HB HS hb2 hlen
   obtain ⟨k1, rfl⟩ : ∃ k1, gk = k1 + 1 := ⟨gk - 1, by omega⟩
   go_wp2_with fail
   go_roundg k1
   case measure => omega
   case rel =>
    refine ⟨i + 1, by go_num, ⟨⟨by omega, by omega⟩⟩, ⟨?_⟩, ⟨by with_reducible repeat (first | exact HB2.out | refine below_set ?_ (by have := HG.out.1; omega))⟩⟩
    have hb := Kd.H_back HSEG.out (x' := toNo xs[i]) (aNo.M_lower HG.out.2.2 (Kd.M_far (d := aNo) (p := ⟨g, i * 8 + 7, none⟩) (Kd.M_far (d := aNo) (p := ⟨g, i * 8 + 6, none⟩) (Kd.M_far (d := aNo) (p := ⟨g, i * 8 + 5, none⟩) (Kd.M_far (d := aNo) (p := ⟨g, i * 8 + 4, none⟩) (Kd.M_far (d := aNo) (p := ⟨g, i * 8 + 3, none⟩) (Kd.M_far (d := aNo) (p := ⟨g, i * 8 + 2, none⟩) (Kd.M_far (d := aNo) (p := ⟨g, i * 8 + 1, none⟩) (Kd.M_far (d := aNo) (p := ⟨g, i * 8, none⟩) HM2.out (fun k hk => Nat.ne_of_gt (Nat.lt_of_lt_of_le HG.out.2.1 hk)) _) (fun k hk => Nat.ne_of_gt (Nat.lt_of_lt_of_le HG.out.2.1 hk)) _) (fun k hk => Nat.ne_of_gt (Nat.lt_of_lt_of_le HG.out.2.1 hk)) _) (fun k hk => Nat.ne_of_gt (Nat.lt_of_lt_of_le HG.out.2.1 hk)) _) (fun k hk => Nat.ne_of_gt (Nat.lt_of_lt_of_le HG.out.2.1 hk)) _) (fun k hk => Nat.ne_of_gt (Nat.lt_of_lt_of_le HG.out.2.1 hk)) _) (fun k hk => Nat.ne_of_gt (Nat.lt_of_lt_of_le HG.out.2.1 hk)) _) (fun k hk => Nat.ne_of_gt (Nat.lt_of_lt_of_le HG.out.2.1 hk)) _)) (fun k hk => .inr ⟨trivial, hk⟩)
    rw [Int.toNat_natCast, HNX.out] at hb
    exact hb
  ·
   have c1 : decide ((i : Int) < (xs.length : Int)) = false := decide_eq_false (by omega)
   obtain rfl : i = xs.length := by omega
   go_wp2_with fail
   go_ret
   refine ⟨B, d, rfl, ?_, HB.out⟩
   have := HS.out
   rwa [List.take_length, Nat.sub_self, List.replicate_zero, List.append_nil] at this
end Go.Proofs.YtbgbocdohadhoaaDoor.Print
namespace Go.Proofs.YtbgbocdohadhoaaDoor.Print
open Go Go.RowKit Go.Proofs.YtbgbocdohadhoaaDoorW.PrintWords Go.Proofs.YtbgbocdohadhoaaDoorW.PrintLast Go.Proofs.YtbgbocdohadhoaaDoorW.PrintMore
set_option linter.unusedVariables false
set_option linter.unusedSimpArgs false
def SmSe (xs : List SeL) : Prop := ∀ x ∈ xs, x.f2.length ≤ 2097152 ∧ ∀ y ∈ x.f2, y.f1.length ≤ 2097152
def SmNo (ns : List NoL) : Prop := ∀ x ∈ ns, (x.f0.length ≤ 2097152 ∧ x.f1.length ≤ 2097152) ∧ x.f4.length ≤ 2097152 ∧ x.f7.length ≤ 2097152
set_option maxHeartbeats 4000000 in
set_option maxRecDepth 100000 in
theorem toState_ok (w0 : World) (e g n t : Int) (As : Option Addr) (cs : Nat) (xs : List SeL) (An : Option Addr) (cn : Nat) (ns : List NoL) (w : World) (hB0 : Below w0.heap.size w0 w) (h1 : Kd.C kSeL w As xs.length xs) (hc1 : xs.length ≤ cs) (hl1 : xs.length ≤ 2097152) (hs1 : SmSe xs) (h2 : Kd.C kNoL w An ns.length ns) (hc2 : ns.length ≤ cn) (hl2 : ns.length ≤ 2097152) (hs2 : SmNo ns) :
  Calls Tryd.prog 15 #[.agg #[.int .u64 e, .int .u64 g, .int .u64 n, .int .i64 t, .slice As xs.length cs, .slice An ns.length cn]] w fun r w' => ∃ Bs ds Bn dn, r = .returned (.agg #[.int .u64 e, .int .u64 g, .int .u64 n, .int .i64 t, .slice Bs (xs.map toSe).length ds, .slice Bn (ns.map toNo).length dn]) ∧ SK w0 w' w.heap.size w'.heap.size Bs ds (xs.map toSe) Bn dn (ns.map toNo) ∧ Below w.heap.size w w' := by
 have HR := Aside0.mk (And.intro h1 h2)
 have HS1 := Aside0.mk hs1
 have HS2 := Aside0.mk hs2
 have HL := Aside0.mk (And.intro (And.intro hc1 hl1) (And.intro hc2 hl2))
 have HB0 := Aside0.mk hB0
 clear h1 h2 hs1 hs2 hc1 hl1 hc2 hl2 hB0
 go_enter Tryd.func15, Tryd.ntmps15
 go_wp2_with fail
 have b0 := blk_new w (.cells #[.int .u64 e, .int .u64 g, .int .u64 n, .int .i64 t, .slice As xs.length cs, .slice An ns.length cn] 30)
 have b1 := blk_new (w.alloc (.cells #[.int .u64 e, .int .u64 g, .int .u64 n, .int .i64 t, .slice As xs.length cs, .slice An ns.length cn] 30)) (.cells #[.int .u64 0, .int .u64 0, .int .u64 0, .int .i64 0, .slice none 0 0, .slice none 0 0] 36)
 have b2 := blk_new ((w.alloc (.cells #[.int .u64 e, .int .u64 g, .int .u64 n, .int .i64 t, .slice As xs.length cs, .slice An ns.length cn] 30)).alloc (.cells #[.int .u64 0, .int .u64 0, .int .u64 0, .int .i64 0, .slice none 0 0, .slice none 0 0] 36)) (.cells #[.int .u64 e, .int .u64 g, .int .u64 n, .int .i64 t, .slice none 0 0, .slice none 0 0] 36)
 replace b1 := blk_alloc b1 (.cells #[.int .u64 e, .int .u64 g, .int .u64 n, .int .i64 t, .slice none 0 0, .slice none 0 0] 36)
 replace b0 := blk_alloc (blk_alloc b0 (.cells #[.int .u64 0, .int .u64 0, .int .u64 0, .int .i64 0, .slice none 0 0, .slice none 0 0] 36)) (.cells #[.int .u64 e, .int .u64 g, .int .u64 n, .int .i64 t, .slice none 0 0, .slice none 0 0] 36)
 have hB := below_alloc (below_alloc (below_alloc (Below.refl w.heap.size w) (.cells #[.int .u64 e, .int .u64 g, .int .u64 n, .int .i64 t, .slice As xs.length cs, .slice An ns.length cn] 30)) (.cells #[.int .u64 0, .int .u64 0, .int .u64 0, .int .i64 0, .slice none 0 0, .slice none 0 0] 36)) (.cells #[.int .u64 e, .int .u64 g, .int .u64 n, .int .i64 t, .slice none 0 0, .slice none 0 0] 36)
 simp only [World.size_alloc] at b1 b2
 generalize (((w.alloc (.cells #[.int .u64 e, .int .u64 g, .int .u64 n, .int .i64 t, .slice As xs.length cs, .slice An ns.length cn] 30)).alloc (.cells #[.int .u64 0, .int .u64 0, .int .u64 0, .int .i64 0, .slice none 0 0, .slice none 0 0] 36)).alloc (.cells #[.int .u64 e, .int .u64 g, .int .u64 n, .int .i64 t, .slice none 0 0, .slice none 0 0] 36)) = W at *
 have hz2 := blk_lt b2
 refine (toSessionS_ok As cs xs W (Kd.C_below HR.out.1 hB) HL.out.1.1 HL.out.1.2 HS1.out).mono ?_
 rintro r w2 ⟨Bs, ds, rfl, hS, hb⟩
 have BX := Aside0.mk (blk_below b0 hb)
 have BR := Aside0.mk (blk_below b1 hb)
 have BO := Aside0.mk (blk_below b2 hb)
 have HB := Aside0.mk (below_step hB hb)
 have HS := Aside0.mk hS
 have HZ := Aside0.mk hz2
 have S2 := Aside0.mk hb.size
 clear b0 b1 b2 hb hB hS hz2
 have z4 := blk_cell BO.out 4
 have f4 := blk_frozen BO.out 4
 have y5 := blk_cell BX.out 5
 simp only [List.getElem?_toArray, List.getElem?_cons_zero, List.getElem?_cons_succ] at z4 y5
 have y5' := cell_far_ y5 (show w.heap.size ≠ w.heap.size + 1 + 1 by omega) (.slice Bs xs.length ds) (j := 4)
 go_wp2_with fail
 have BO2 := blk_put (cs' := #[.int .u64 e, .int .u64 g, .int .u64 n, .int .i64 t, .slice Bs xs.length ds, .slice none 0 0]) BO.out 4 (.slice Bs xs.length ds) rfl
 have BX2 := blk_far BX.out (p := ⟨w.heap.size + 1 + 1, 4, none⟩) (show w.heap.size ≠ w.heap.size + 1 + 1 by omega) (.slice Bs xs.length ds)
 have BR2 := blk_far BR.out (p := ⟨w.heap.size + 1 + 1, 4, none⟩) (show w.heap.size + 1 ≠ w.heap.size + 1 + 1 by omega) (.slice Bs xs.length ds)
 have HB2 := below_set (g := w.heap.size + 1 + 1) (j := 4) (v := .slice Bs xs.length ds) HB.out (show w.heap.size ≤ w.heap.size + 1 + 1 by omega)
 have HSb := Kd.S_far (p := ⟨w.heap.size + 1 + 1, 4, none⟩) (Kd.S_mono (ok' := fun k => W.heap.size ≤ k ∧ k < w2.heap.size) (Kd.S_bound HS.out) (fun k hk => ⟨hk.2.1, hk.2.2.1⟩)) (fun k hk => by have := HZ.out; show k ≠ w.heap.size + 1 + 1; omega) (.slice Bs xs.length ds)
 have HZ2 : (w2.setCell ⟨w.heap.size + 1 + 1, 4, none⟩ (.slice Bs xs.length ds)).heap.size = w2.heap.size := by simp [World.setCell]
 generalize w2.setCell ⟨w.heap.size + 1 + 1, 4, none⟩ (.slice Bs xs.length ds) = W2 at *
 clear z4 f4 y5 y5'
 refine (toNodeS_ok An cn ns W2 (Kd.C_below HR.out.2 HB2) HL.out.2.1 HL.out.2.2 HS2.out).mono ?_
 rintro r w3 ⟨Bn, dn, rfl, hN, hb⟩
 replace BR := Aside0.mk (blk_below BR2 hb)
 replace BO := Aside0.mk (blk_below BO2 hb)
 replace HB := Aside0.mk (below_step HB2 hb)
 replace HS := Aside0.mk (Kd.S_below HSb hb)
 have HN := Aside0.mk hN
 have S3 := Aside0.mk hb.size
 have HZ3 := Aside0.mk HZ2
 clear BO2 BX2 BR2 HB2 HSb hb hN HZ2 BX
 have z0 := blk_cell BO.out 0
 have x0 := blk_cell BR.out 0
 have f0 := blk_frozen BR.out 0
 have z1 := blk_cell BO.out 1
 have x1 := blk_cell BR.out 1
 have f1 := blk_frozen BR.out 1
 have z2 := blk_cell BO.out 2
 have x2 := blk_cell BR.out 2
 have f2 := blk_frozen BR.out 2
 have z3 := blk_cell BO.out 3
 have x3 := blk_cell BR.out 3
 have f3 := blk_frozen BR.out 3
 have z4 := blk_cell BO.out 4
 have x4 := blk_cell BR.out 4
 have f4 := blk_frozen BR.out 4
 have z5 := blk_cell BO.out 5
 have x5 := blk_cell BR.out 5
 have f5 := blk_frozen BR.out 5
 have g5 := blk_frozen BO.out 5
 simp only [List.getElem?_toArray, List.getElem?_cons_zero, List.getElem?_cons_succ] at z0 x0 z1 x1 z2 x2 z3 x3 z4 x4 z5 x5
 have q0 := cell_far_ x0 (show w.heap.size + 1 ≠ w.heap.size + 1 + 1 by omega) (.slice Bn ns.length dn) (j := 5)
 have q1 := cell_far_ x1 (show w.heap.size + 1 ≠ w.heap.size + 1 + 1 by omega) (.slice Bn ns.length dn) (j := 5)
 have q2 := cell_far_ x2 (show w.heap.size + 1 ≠ w.heap.size + 1 + 1 by omega) (.slice Bn ns.length dn) (j := 5)
 have q3 := cell_far_ x3 (show w.heap.size + 1 ≠ w.heap.size + 1 + 1 by omega) (.slice Bn ns.length dn) (j := 5)
 have q4 := cell_far_ x4 (show w.heap.size + 1 ≠ w.heap.size + 1 + 1 by omega) (.slice Bn ns.length dn) (j := 5)
 have q5 := cell_far_ x5 (show w.heap.size + 1 ≠ w.heap.size + 1 + 1 by omega) (.slice Bn ns.length dn) (j := 5)
 go_wp2_with fail
 refine bodyPost_ret (results_cell_row rfl _ _ (w.heap.size + 1) 36 #[.int .u64 e, .int .u64 g, .int .u64 n, .int .i64 t, .slice Bs xs.length ds, .slice Bn ns.length dn] (0, 0) _ rfl (by refine blk_put (cs := #[.int .u64 e, .int .u64 g, .int .u64 n, .int .i64 t, .slice Bs xs.length ds, .slice none 0 0]) ?_ 5 _ rfl; refine blk_put (cs := #[.int .u64 e, .int .u64 g, .int .u64 n, .int .i64 t, .slice none 0 0, .slice none 0 0]) ?_ 4 _ rfl; refine blk_put (cs := #[.int .u64 e, .int .u64 g, .int .u64 n, .int .i64 0, .slice none 0 0, .slice none 0 0]) ?_ 3 _ rfl; refine blk_put (cs := #[.int .u64 e, .int .u64 g, .int .u64 0, .int .i64 0, .slice none 0 0, .slice none 0 0]) ?_ 2 _ rfl; refine blk_put (cs := #[.int .u64 e, .int .u64 0, .int .u64 0, .int .i64 0, .slice none 0 0, .slice none 0 0]) ?_ 1 _ rfl; refine blk_put (cs := #[.int .u64 0, .int .u64 0, .int .u64 0, .int .i64 0, .slice none 0 0, .slice none 0 0]) ?_ 0 _ rfl; refine blk_far ?_ (show w.heap.size + 1 ≠ w.heap.size + 1 + 1 by omega) _; exact BR.out) Tryd.underlying36 rfl (by kernel_rfl)) rfl ?_
 have hz := HZ.out
 have h3 := HZ3.out
 have s3 := S3.out
 have s2 := S2.out
 have h0 := HB0.out.size
 have hsz : ∀ (a b : Nat) (u : World) (v : Value), (u.setCell ⟨a, b, none⟩ v).heap.size = u.heap.size := fun a b u v => by simp [World.setCell]
 refine ⟨Bs, ds, Bn, dn, ?_, ⟨fun k => k < w2.heap.size, ?_, ?_⟩, by with_reducible repeat (first | exact HB.out | refine below_set ?_ (by omega))⟩
 ·
  rw [List.length_map, List.length_map]
 ·
  rw [List.length_map]
  refine Kd.S_lower (base := W.heap.size) (Kd.S_mono (ok := fun k => W.heap.size ≤ k ∧ k < w2.heap.size) ?_ (fun k hk => ⟨⟨by omega, by rw [hsz, hsz, hsz, hsz, hsz, hsz, hsz]; omega⟩, hk.2⟩)) (by omega)
  refine Kd.S_far (p := ⟨w.heap.size + 1, 5, none⟩) ?_ (fun k hk => by show k ≠ w.heap.size + 1; omega) _
  refine Kd.S_far (p := ⟨w.heap.size + 1, 4, none⟩) ?_ (fun k hk => by show k ≠ w.heap.size + 1; omega) _
  refine Kd.S_far (p := ⟨w.heap.size + 1, 3, none⟩) ?_ (fun k hk => by show k ≠ w.heap.size + 1; omega) _
  refine Kd.S_far (p := ⟨w.heap.size + 1, 2, none⟩) ?_ (fun k hk => by show k ≠ w.heap.size + 1; omega) _
  refine Kd.S_far (p := ⟨w.heap.size + 1, 1, none⟩) ?_ (fun k hk => by show k ≠ w.heap.size + 1; omega) _
  refine Kd.S_far (p := ⟨w.heap.size + 1, 0, none⟩) ?_ (fun k hk => by show k ≠ w.heap.size + 1; omega) _
  refine Kd.S_far (p := ⟨w.heap.size + 1 + 1, 5, none⟩) ?_ (fun k hk => by show k ≠ w.heap.size + 1 + 1; omega) _
  exact HS.out
 ·
  rw [List.length_map]
  refine Kd.S_lower (base := W2.heap.size) (Kd.S_mono (ok := fun k => W2.heap.size ≤ k ∧ k < w3.heap.size) ?_ (fun k hk => ⟨⟨by omega, by rw [hsz, hsz, hsz, hsz, hsz, hsz, hsz]; omega⟩, by omega⟩)) (by omega)
  refine Kd.S_far (p := ⟨w.heap.size + 1, 5, none⟩) ?_ (fun k hk => by show k ≠ w.heap.size + 1; omega) _
  refine Kd.S_far (p := ⟨w.heap.size + 1, 4, none⟩) ?_ (fun k hk => by show k ≠ w.heap.size + 1; omega) _
  refine Kd.S_far (p := ⟨w.heap.size + 1, 3, none⟩) ?_ (fun k hk => by show k ≠ w.heap.size + 1; omega) _
  refine Kd.S_far (p := ⟨w.heap.size + 1, 2, none⟩) ?_ (fun k hk => by show k ≠ w.heap.size + 1; omega) _
  refine Kd.S_far (p := ⟨w.heap.size + 1, 1, none⟩) ?_ (fun k hk => by show k ≠ w.heap.size + 1; omega) _
  refine Kd.S_far (p := ⟨w.heap.size + 1, 0, none⟩) ?_ (fun k hk => by show k ≠ w.heap.size + 1; omega) _
  refine Kd.S_far (p := ⟨w.heap.size + 1 + 1, 5, none⟩) ?_ (fun k hk => by show k ≠ w.heap.size + 1 + 1; omega) _
  exact Kd.S_mono (Kd.S_bound HN.out) (fun k hk => ⟨hk.2.1, hk.2.2.1⟩)
end Go.Proofs.YtbgbocdohadhoaaDoor.Print
namespace Go.Proofs.YtbgbocdohadhoaaDoor.Print
open Go.RowKit Go.Proofs.YtbgbocdohadhoaaDoorW.PrintWords Go.Proofs.YtbgbocdohadhoaaDoorW.PrintLast Go.Proofs.YtbgbocdohadhoaaDoorW.PrintMore
open Go.ChangeShapes Go.WideShapes
set_option linter.unusedVariables false
set_option linter.unusedSimpArgs false
section
variable {H : Type} {enc : TypeId × Value → H} {P : Program} {w : World} {base : Nat} {spare : Nat → Bool} {held : Bool}
theorem three_open_ {t : TypeId} {f0 f1 f2 : Field} {fuel : Nat} {cs : List Value} {x : DataW H × List MemPlace} (ht : P.underlying t = some (.struct #[f0, f1, f2])) (o0 : f0.offset = 0) (c0 : P.cellsOf f0.type = 1) (o1 : f1.offset = 1) (c1 : P.cellsOf f1.type = 1) (o2 : f2.offset = 2) (c2 : P.cellsOf f2.type = 1) (ct : P.cellsOf t = 3)
  (hf : DataW.trod enc P w base spare held fuel t cs = some x) (hz : ∀ n ∈ x.1.weights P t, n ≤ reachBytes) :
  ∃ v0 v1 v2 y0 y1 y2 n, cs = [v0, v1, v2] ∧ DataW.trod enc P w base spare held n f0.type [v0] = some y0 ∧ DataW.trod enc P w base spare held n f1.type [v1] = some y1 ∧ DataW.trod enc P w base spare held n f2.type [v2] = some y2 ∧ (∀ n ∈ y0.1.weights P f0.type, n ≤ reachBytes) ∧ (∀ n ∈ y1.1.weights P f1.type, n ≤ reachBytes) ∧ (∀ n ∈ y2.1.weights P f2.type, n ≤ reachBytes) := by
 obtain ⟨xs, n, _, rfl, hl, hlen, hg⟩ := DataW.trod_struct ht hf
 rw [ct] at hl
 match cs, hl with
 | [v0, v1, v2], _ =>
  match xs, hlen with
  | [y0, y1, y2], _ =>
   have g0 := hg 0 f0 rfl
   have g1 := hg 1 f1 rfl
   have g2 := hg 2 f2 rfl
   rw [o0, c0] at g0
   rw [o1, c1] at g1
   rw [o2, c2] at g2
   simp only [DataW.weights, ht, DataW.weightsEach, List.map_cons, List.map_nil, List.mem_append] at hz
   exact ⟨v0, v1, v2, y0, y1, y2, n, rfl, by simpa using g0, by simpa using g1, by simpa using g2, fun n hn => hz n (.inl hn), fun n hn => hz n (.inr (.inl hn)), fun n hn => hz n (.inr (.inr (.inl hn)))⟩
theorem six_open_ {t : TypeId} {f0 f1 f2 f3 f4 f5 : Field} {fuel : Nat} {cs : List Value} {x : DataW H × List MemPlace} (ht : P.underlying t = some (.struct #[f0, f1, f2, f3, f4, f5])) (o0 : f0.offset = 0) (c0 : P.cellsOf f0.type = 1) (o1 : f1.offset = 1) (c1 : P.cellsOf f1.type = 1) (o2 : f2.offset = 2) (c2 : P.cellsOf f2.type = 1) (o3 : f3.offset = 3) (c3 : P.cellsOf f3.type = 1) (o4 : f4.offset = 4) (c4 : P.cellsOf f4.type = 1) (o5 : f5.offset = 5) (c5 : P.cellsOf f5.type = 1) (ct : P.cellsOf t = 6)
  (hf : DataW.trod enc P w base spare held fuel t cs = some x) (hz : ∀ n ∈ x.1.weights P t, n ≤ reachBytes) :
  ∃ v0 v1 v2 v3 v4 v5 y0 y1 y2 y3 y4 y5 n, cs = [v0, v1, v2, v3, v4, v5] ∧ DataW.trod enc P w base spare held n f0.type [v0] = some y0 ∧ DataW.trod enc P w base spare held n f1.type [v1] = some y1 ∧ DataW.trod enc P w base spare held n f2.type [v2] = some y2 ∧ DataW.trod enc P w base spare held n f3.type [v3] = some y3 ∧ DataW.trod enc P w base spare held n f4.type [v4] = some y4 ∧ DataW.trod enc P w base spare held n f5.type [v5] = some y5 ∧ (∀ n ∈ y0.1.weights P f0.type, n ≤ reachBytes) ∧ (∀ n ∈ y1.1.weights P f1.type, n ≤ reachBytes) ∧ (∀ n ∈ y2.1.weights P f2.type, n ≤ reachBytes) ∧ (∀ n ∈ y3.1.weights P f3.type, n ≤ reachBytes) ∧ (∀ n ∈ y4.1.weights P f4.type, n ≤ reachBytes) ∧ (∀ n ∈ y5.1.weights P f5.type, n ≤ reachBytes) := by
 obtain ⟨xs, n, _, rfl, hl, hlen, hg⟩ := DataW.trod_struct ht hf
 rw [ct] at hl
 match cs, hl with
 | [v0, v1, v2, v3, v4, v5], _ =>
  match xs, hlen with
  | [y0, y1, y2, y3, y4, y5], _ =>
   have g0 := hg 0 f0 rfl
   have g1 := hg 1 f1 rfl
   have g2 := hg 2 f2 rfl
   have g3 := hg 3 f3 rfl
   have g4 := hg 4 f4 rfl
   have g5 := hg 5 f5 rfl
   rw [o0, c0] at g0
   rw [o1, c1] at g1
   rw [o2, c2] at g2
   rw [o3, c3] at g3
   rw [o4, c4] at g4
   rw [o5, c5] at g5
   simp only [DataW.weights, ht, DataW.weightsEach, List.map_cons, List.map_nil, List.mem_append] at hz
   exact ⟨v0, v1, v2, v3, v4, v5, y0, y1, y2, y3, y4, y5, n, rfl, by simpa using g0, by simpa using g1, by simpa using g2, by simpa using g3, by simpa using g4, by simpa using g5, fun n hn => hz n (.inl hn), fun n hn => hz n (.inr (.inl hn)), fun n hn => hz n (.inr (.inr (.inl hn))), fun n hn => hz n (.inr (.inr (.inr (.inl hn)))), fun n hn => hz n (.inr (.inr (.inr (.inr (.inl hn))))), fun n hn => hz n (.inr (.inr (.inr (.inr (.inr (.inl hn))))))⟩
theorem eight_open_ {t : TypeId} {f0 f1 f2 f3 f4 f5 f6 f7 : Field} {fuel : Nat} {cs : List Value} {x : DataW H × List MemPlace} (ht : P.underlying t = some (.struct #[f0, f1, f2, f3, f4, f5, f6, f7])) (o0 : f0.offset = 0) (c0 : P.cellsOf f0.type = 1) (o1 : f1.offset = 1) (c1 : P.cellsOf f1.type = 1) (o2 : f2.offset = 2) (c2 : P.cellsOf f2.type = 1) (o3 : f3.offset = 3) (c3 : P.cellsOf f3.type = 1) (o4 : f4.offset = 4) (c4 : P.cellsOf f4.type = 1) (o5 : f5.offset = 5) (c5 : P.cellsOf f5.type = 1) (o6 : f6.offset = 6) (c6 : P.cellsOf f6.type = 1) (o7 : f7.offset = 7) (c7 : P.cellsOf f7.type = 1) (ct : P.cellsOf t = 8)
  (hf : DataW.trod enc P w base spare held fuel t cs = some x) (hz : ∀ n ∈ x.1.weights P t, n ≤ reachBytes) :
  ∃ v0 v1 v2 v3 v4 v5 v6 v7 y0 y1 y2 y3 y4 y5 y6 y7 n, cs = [v0, v1, v2, v3, v4, v5, v6, v7] ∧ DataW.trod enc P w base spare held n f0.type [v0] = some y0 ∧ DataW.trod enc P w base spare held n f1.type [v1] = some y1 ∧ DataW.trod enc P w base spare held n f2.type [v2] = some y2 ∧ DataW.trod enc P w base spare held n f3.type [v3] = some y3 ∧ DataW.trod enc P w base spare held n f4.type [v4] = some y4 ∧ DataW.trod enc P w base spare held n f5.type [v5] = some y5 ∧ DataW.trod enc P w base spare held n f6.type [v6] = some y6 ∧ DataW.trod enc P w base spare held n f7.type [v7] = some y7 ∧ (∀ n ∈ y0.1.weights P f0.type, n ≤ reachBytes) ∧ (∀ n ∈ y1.1.weights P f1.type, n ≤ reachBytes) ∧ (∀ n ∈ y2.1.weights P f2.type, n ≤ reachBytes) ∧ (∀ n ∈ y3.1.weights P f3.type, n ≤ reachBytes) ∧ (∀ n ∈ y4.1.weights P f4.type, n ≤ reachBytes) ∧ (∀ n ∈ y5.1.weights P f5.type, n ≤ reachBytes) ∧ (∀ n ∈ y6.1.weights P f6.type, n ≤ reachBytes) ∧ (∀ n ∈ y7.1.weights P f7.type, n ≤ reachBytes) := by
 obtain ⟨xs, n, _, rfl, hl, hlen, hg⟩ := DataW.trod_struct ht hf
 rw [ct] at hl
 match cs, hl with
 | [v0, v1, v2, v3, v4, v5, v6, v7], _ =>
  match xs, hlen with
  | [y0, y1, y2, y3, y4, y5, y6, y7], _ =>
   have g0 := hg 0 f0 rfl
   have g1 := hg 1 f1 rfl
   have g2 := hg 2 f2 rfl
   have g3 := hg 3 f3 rfl
   have g4 := hg 4 f4 rfl
   have g5 := hg 5 f5 rfl
   have g6 := hg 6 f6 rfl
   have g7 := hg 7 f7 rfl
   rw [o0, c0] at g0
   rw [o1, c1] at g1
   rw [o2, c2] at g2
   rw [o3, c3] at g3
   rw [o4, c4] at g4
   rw [o5, c5] at g5
   rw [o6, c6] at g6
   rw [o7, c7] at g7
   simp only [DataW.weights, ht, DataW.weightsEach, List.map_cons, List.map_nil, List.mem_append] at hz
   exact ⟨v0, v1, v2, v3, v4, v5, v6, v7, y0, y1, y2, y3, y4, y5, y6, y7, n, rfl, by simpa using g0, by simpa using g1, by simpa using g2, by simpa using g3, by simpa using g4, by simpa using g5, by simpa using g6, by simpa using g7, fun n hn => hz n (.inl hn), fun n hn => hz n (.inr (.inl hn)), fun n hn => hz n (.inr (.inr (.inl hn))), fun n hn => hz n (.inr (.inr (.inr (.inl hn)))), fun n hn => hz n (.inr (.inr (.inr (.inr (.inl hn))))), fun n hn => hz n (.inr (.inr (.inr (.inr (.inr (.inl hn)))))), fun n hn => hz n (.inr (.inr (.inr (.inr (.inr (.inr (.inl hn))))))), fun n hn => hz n (.inr (.inr (.inr (.inr (.inr (.inr (.inr (.inl hn))))))))⟩
end
def gEv (y : EvL) : Prop := y.f1.length ≤ 140737488351232 ∧ ∀ z ∈ y.f1, (Lit.int .u8 z).wf = true
def gSe (x : SeL) : Prop := (Lit.int .u64 x.f0).wf = true ∧ x.f2.length ≤ 9223372036854775807 ∧ ∀ y ∈ x.f2, gEv y
def gNo (x : NoL) : Prop := (x.f0.length ≤ 140737488351232 ∧ ∀ z ∈ x.f0, (Lit.int .u8 z).wf = true) ∧ x.f1.length ≤ 140737488351232 ∧ (Lit.int .u64 x.f2).wf = true ∧ (x.f4.length ≤ 9223372036854775807 ∧ ∀ z ∈ x.f4, (Lit.int .u64 z).wf = true) ∧ (x.f7.length ≤ 9223372036854775807 ∧ (∀ z ∈ x.f7, (Lit.int .u64 z).wf = true) ∧ (Lit.int .u64 x.f5).wf = true ∧ (Lit.int .u64 x.f6).wf = true)
theorem ev_el {H : Type} {enc : TypeId × Value → H} {w : World} {base : Nat} {spare : Nat → Bool} {held : Bool} (n : Nat) (cs : List Value) (y : DataW H × List MemPlace) (hf : DataW.trod enc Tryd.prog w base spare held n 174 cs = some y) (hz : ∀ m ∈ y.1.weights Tryd.prog 174, m ≤ reachBytes) : ∃ z : EvL, kEvL.K w z cs ∧ gEv z := by
 have cb : Tryd.prog.cellsOf 22 = 1 := by kernel_rfl
 have ci : Tryd.prog.cellsOf 3 = 1 := by kernel_rfl
 have cu : Tryd.prog.cellsOf 26 = 1 := by kernel_rfl
 have c8 : Tryd.prog.cellsOf 5 = 1 := by kernel_rfl
 have b8 : Tryd.prog.bytesOf 5 = 1 := by kernel_rfl
 have cv : Tryd.prog.cellsOf 40 = 1 := by kernel_rfl
 have b64 : Tryd.prog.bytesOf 26 = 8 := by kernel_rfl
 obtain ⟨v0, v1, y0, y1, m, e0, g0, g1, z0, z1⟩ := two_open Tryd.underlying174 rfl rfl ci cb (by kernel_rfl) hf hz
 obtain ⟨k, q0, _, w0⟩ := DataW.trod_int Tryd.underlying3 g0
 obtain ⟨A, c, l, q1, h1, p1, r1, w1⟩ := row_open Tryd.underlying22 Tryd.underlying5 c8 b8 g1 z1
 simp only [List.cons.injEq, and_true] at q0 q1
 subst q0 q1 e0
 exact ⟨⟨k, l⟩, k174_mk w ⟨k, l⟩ p1 h1, r1, w1⟩
theorem u64_el {H : Type} {enc : TypeId × Value → H} {w : World} {base : Nat} {spare : Nat → Bool} {held : Bool} (n : Nat) (cs : List Value) (y : DataW H × List MemPlace) (hf : DataW.trod enc Tryd.prog w base spare held n 26 cs = some y) : ∃ z : Int, (Kd.int .u64).K w z cs ∧ (Lit.int .u64 z).wf = true := by
 obtain ⟨k, q, _, w0⟩ := DataW.trod_int Tryd.underlying26 hf
 exact ⟨k, q, w0⟩
theorem se_el {H : Type} {enc : TypeId × Value → H} {w : World} {base : Nat} {spare : Nat → Bool} {held : Bool} (n : Nat) (cs : List Value) (y : DataW H × List MemPlace) (hf : DataW.trod enc Tryd.prog w base spare held n 129 cs = some y) (hz : ∀ m ∈ y.1.weights Tryd.prog 129, m ≤ reachBytes) : ∃ z : SeL, kSeL.K w z cs ∧ gSe z := by
 have cb : Tryd.prog.cellsOf 22 = 1 := by kernel_rfl
 have ci : Tryd.prog.cellsOf 3 = 1 := by kernel_rfl
 have cu : Tryd.prog.cellsOf 26 = 1 := by kernel_rfl
 have c8 : Tryd.prog.cellsOf 5 = 1 := by kernel_rfl
 have b8 : Tryd.prog.bytesOf 5 = 1 := by kernel_rfl
 have cv : Tryd.prog.cellsOf 40 = 1 := by kernel_rfl
 have b64 : Tryd.prog.bytesOf 26 = 8 := by kernel_rfl
 have ce : Tryd.prog.cellsOf 127 = 1 := by kernel_rfl
 obtain ⟨v0, v1, v2, y0, y1, y2, m, e0, g0, g1, g2, z0, z1, z2⟩ := three_open_ Tryd.underlying129 rfl cu rfl ci rfl ce (by kernel_rfl) hf hz
 obtain ⟨k, q0, _, w0⟩ := DataW.trod_int Tryd.underlying26 g0
 obtain ⟨dl, q1, _, w1⟩ := DataW.trod_int Tryd.underlying3 g1
 obtain ⟨A, c, l, q2, h2, p2, w2⟩ := rows_open kEvL gEv Tryd.underlying127 (by kernel_rfl) (fun n cs y a b => ev_el n cs y a b) g2 z2
 simp only [List.cons.injEq, and_true] at q0 q1 q2
 subst q0 q1 q2 e0
 exact ⟨⟨k, dl, l⟩, k129_mk w ⟨k, dl, l⟩ p2 h2, w0, h2.2.1, w2⟩
theorem no_el {H : Type} {enc : TypeId × Value → H} {w : World} {base : Nat} {spare : Nat → Bool} {held : Bool} (n : Nat) (cs : List Value) (y : DataW H × List MemPlace) (hf : DataW.trod enc Tryd.prog w base spare held n 131 cs = some y) (hz : ∀ m ∈ y.1.weights Tryd.prog 131, m ≤ reachBytes) : ∃ z : NoL, kNoL.K w z cs ∧ gNo z := by
 have cb : Tryd.prog.cellsOf 22 = 1 := by kernel_rfl
 have ci : Tryd.prog.cellsOf 3 = 1 := by kernel_rfl
 have cu : Tryd.prog.cellsOf 26 = 1 := by kernel_rfl
 have c8 : Tryd.prog.cellsOf 5 = 1 := by kernel_rfl
 have b8 : Tryd.prog.bytesOf 5 = 1 := by kernel_rfl
 have cv : Tryd.prog.cellsOf 40 = 1 := by kernel_rfl
 have b64 : Tryd.prog.bytesOf 26 = 8 := by kernel_rfl
 obtain ⟨v0, v1, v2, v3, v4, v5, v6, v7, y0, y1, y2, y3, y4, y5, y6, y7, m, e0, g0, g1, g2, g3, g4, g5, g6, g7, z0, z1, z2, z3, z4, z5, z6, z7⟩ := eight_open_ Tryd.underlying131 rfl cb rfl cb rfl cu rfl ci rfl cv rfl cu rfl cu rfl cv (by kernel_rfl) hf hz
 obtain ⟨A0, c0, l0, q0, h0, p0, r0, w0⟩ := row_open Tryd.underlying22 Tryd.underlying5 c8 b8 g0 z0
 obtain ⟨A1, c1, l1, q1, h1, p1, r1, w1⟩ := row_open Tryd.underlying22 Tryd.underlying5 c8 b8 g1 z1
 obtain ⟨o, q2, _, w2⟩ := DataW.trod_int Tryd.underlying26 g2
 obtain ⟨md, q3, _, w3⟩ := DataW.trod_int Tryd.underlying3 g3
 obtain ⟨A4, c4, l4, q4, h4, p4, w4⟩ := rows_open (Kd.int .u64) (fun z => (Lit.int .u64 z).wf = true) Tryd.underlying40 (by kernel_rfl) (fun n cs y a b => u64_el n cs y a) g4 z4
 obtain ⟨ep, q5, _, w5⟩ := DataW.trod_int Tryd.underlying26 g5
 obtain ⟨ge, q6, _, w6⟩ := DataW.trod_int Tryd.underlying26 g6
 obtain ⟨A7, c7, l7, q7, h7, p7, w7⟩ := rows_open (Kd.int .u64) (fun z => (Lit.int .u64 z).wf = true) Tryd.underlying40 (by kernel_rfl) (fun n cs y a b => u64_el n cs y a) g7 z7
 simp only [List.cons.injEq, and_true] at q0 q1 q2 q3 q4 q5 q6 q7
 subst q0 q1 q2 q3 q4 q5 q6 q7 e0
 exact ⟨⟨l0, l1, o, md, l4, ep, ge, l7⟩, k131_mk w ⟨l0, l1, o, md, l4, ep, ge, l7⟩ p0 h0 p1 h1 p4 h4 p7 h7, ⟨r0, w0⟩, r1, w2, ⟨h4.2.1, w4⟩, h7.2.1, w7, w5, w6⟩
set_option maxRecDepth 100000 in
set_option linter.constructorNameAsVariable false in
theorem state_open {H : Type} {enc : TypeId × Value → H} {w : World} {base : Nat} {spare : Nat → Bool} {held : Bool} {v : Value} {d : DataW H} {p : List MemPlace} {ts : List TypeId} {ds : List (DataW H)} {j : Nat}
  (hsz : (DataW.weightsEach Tryd.prog ts ds).all (· ≤ reachBytes) = true) (htj : ts[j]? = some 30) (hdj : ds[j]? = some d) (hv : Value.okWide Tryd.prog w .any 0 30 v) (h : DataW.Trod enc Tryd.prog w base spare held 30 v d p) :
  ∃ e g n t As cs, ∃ xs : List SeL, ∃ An cn, ∃ ns : List NoL, v = .agg #[.int .u64 e, .int .u64 g, .int .u64 n, .int .i64 t, .slice As xs.length cs, .slice An ns.length cn] ∧
   Kd.C kSeL w As xs.length xs ∧ xs.length ≤ cs ∧ Kd.C kNoL w An ns.length ns ∧ ns.length ≤ cn ∧ (∀ x ∈ xs, gSe x) ∧ (∀ x ∈ ns, gNo x) ∧ (Lit.int .u64 e).wf = true ∧ (Lit.int .u64 g).wf = true ∧ (Lit.int .u64 n).wf = true ∧ (Lit.int .i64 t).wf = true := by
 have hz := weights_of hsz htj hdj
 obtain ⟨cs, rfl, hcs⟩ := okWide_struct Tryd.underlying30 hv
 obtain ⟨cs⟩ := cs
 obtain ⟨fuel, hf⟩ := h
 have cb : Tryd.prog.cellsOf 22 = 1 := by kernel_rfl
 have ci : Tryd.prog.cellsOf 3 = 1 := by kernel_rfl
 have cu : Tryd.prog.cellsOf 26 = 1 := by kernel_rfl
 have c8 : Tryd.prog.cellsOf 5 = 1 := by kernel_rfl
 have b8 : Tryd.prog.bytesOf 5 = 1 := by kernel_rfl
 have cv : Tryd.prog.cellsOf 40 = 1 := by kernel_rfl
 have b64 : Tryd.prog.bytesOf 26 = 8 := by kernel_rfl
 have c27 : Tryd.prog.cellsOf 27 = 1 := by kernel_rfl
 have c28 : Tryd.prog.cellsOf 28 = 1 := by kernel_rfl
 obtain ⟨v0, v1, v2, v3, v4, v5, y0, y1, y2, y3, y4, y5, m, e0, g0, g1, g2, g3, g4, g5, z0, z1, z2, z3, z4, z5⟩ := six_open_ Tryd.underlying30 rfl cu rfl cu rfl cu rfl ci rfl c27 rfl c28 (by kernel_rfl) hf hz
 have e' : cs.toArray = #[v0, v1, v2, v3, v4, v5] := by rw [← e0]; simp [Value.cells]
 obtain ⟨e, q0, _, w0⟩ := DataW.trod_int Tryd.underlying26 g0
 obtain ⟨g, q1, _, w1⟩ := DataW.trod_int Tryd.underlying26 g1
 obtain ⟨n, q2, _, w2⟩ := DataW.trod_int Tryd.underlying26 g2
 obtain ⟨tt, q3, _, w3⟩ := DataW.trod_int Tryd.underlying3 g3
 obtain ⟨As, c4, xs, q4, h4, p4, w4⟩ := rows_open kSeL gSe Tryd.underlying27 (by kernel_rfl) (fun n cs y a b => se_el n cs y a b) g4 z4
 obtain ⟨An, c5, ns, q5, h5, p5, w5⟩ := rows_open kNoL gNo Tryd.underlying28 (by kernel_rfl) (fun n cs y a b => no_el n cs y a b) g5 z5
 simp only [List.cons.injEq, and_true] at q0 q1 q2 q3 q4 q5
 subst q0 q1 q2 q3 q4 q5
 exact ⟨e, g, n, tt, As, c4, xs, An, c5, ns, by rw [← e'], h4, p4, h5, p5, w4, w5, w0, w1, w2, w3⟩
end Go.Proofs.YtbgbocdohadhoaaDoor.Print
namespace Go.Proofs.YtbgbocdohadhoaaDoor.Print
open Go.RowKit Go.Proofs.YtbgbocdohadhoaaDoorW.PrintWords Go.Proofs.YtbgbocdohadhoaaDoorW.PrintLast Go.Proofs.YtbgbocdohadhoaaDoorW.PrintMore
set_option linter.unusedVariables false
set_option linter.unusedSimpArgs false
def laws_eqUint64S.l0 : Nat → List Int → List Int → Int → Option (Bool)
 | 0, _, _, _ => none
 | k + 1, x0, x1, x5 => if x5 < (x0.length : Int) then (if 0 ≤ x5 then (if x5 < (x1.length : Int) then (if (rd x0 x5) = (rd x1 x5) then (laws_eqUint64S.l0 k x0 x1 (wrap64 (x5 + 1))) else (some false)) else (none)) else (none)) else (some true)
def laws_eqUint64S.f (k : Nat) (l0 : List Int) (l1 : List Int) : Option (Bool) := if (l0.length : Int) = (l1.length : Int) then (laws_eqUint64S.l0 k l0 l1 0) else (some false)
set_option maxHeartbeats 8000000 in
set_option maxRecDepth 100000 in
theorem laws_eqUint64S.calls (k : Nat) (A0 : Option Addr) (c0 : Nat) (l0 : List Int) (A1 : Option Addr) (c1 : Nat) (l1 : List Int) (r : Bool) (w : World) (hr0 : Kd.C (Kd.int .u64) w A0 l0.length l0) (hc0 : l0.length ≤ c0) (hr1 : Kd.C (Kd.int .u64) w A1 l1.length l1) (hc1 : l1.length ≤ c1) (h : laws_eqUint64S.f k l0 l1 = some r) :
  Calls Tryd.prog 20 #[.slice A0 l0.length c0, .slice A1 l1.length c1] w fun e w' => e = .returned (.bool r) ∧ Drawn0 w w' := by
 have HR0 := Aside0.mk hr0
 have HC0 := Aside0.mk hc0
 clear hr0 hc0
 have HR1 := Aside0.mk hr1
 have HC1 := Aside0.mk hc1
 clear hr1 hc1
 have H : (if (l0.length : Int) = (l1.length : Int) then (laws_eqUint64S.l0 k l0 l1 0) else (some false)) = some r := h
 clear h
 by_cases c3 : (l0.length : Int) = (l1.length : Int)
 ·
  rw [if_pos c3] at H
  have c3b0 : ((l0.length : Int) == (l1.length : Int)) = true := beq_iff_eq.mpr c3
  have c3b1 : ((l0.length : Int) != (l1.length : Int)) = false := bne_eq_false_iff_eq.mpr c3
  have c3b2 : (l0.length == l1.length) = true := by first | simpa using c3 | (simp at c3 ⊢; omega)
  clear c3
  have H' := Aside0.mk H
  clear H
  go_enter Tryd.func20, Tryd.ntmps20
  go_wp2
  repeat (go_quiet (fail); try go_wp2)
  go_loopg [5] k (fun kq v5 w' => ∃ (x5_1 : Int), v5 = .int .i64 x5_1 ∧ Aside0 (laws_eqUint64S.l0 kq l0 l1 x5_1 = some r) ∧ Aside0 (kq ≤ k) ∧ Drawn0 w w')
  case atStart => exact ⟨(0), (by first | rfl | (simp; done) | (simp [*]; done)), H', ⟨Nat.le_refl _⟩, by repeat (first | exact Drawn0.refl _ | apply Drawn0.step)⟩
  case round =>
   clear H'
   try clear c1
   try clear c2
   try clear p2
   try clear c3
   try clear c3b0
   try clear c3b1
   try clear c3b2
   obtain ⟨x5_1, rfl, HA, HK1, ⟨m1, rfl⟩⟩ := hrel
   cases gk with
   | zero => exact absurd HA.out (by simp [laws_eqUint64S.l0])
   | succ k1 =>
    have H := HA.out
    clear HA
    simp only [laws_eqUint64S.l0] at H
    by_cases c4 : x5_1 < (l0.length : Int)
    ·
     rw [if_pos c4] at H
     have c4b0 : decide (x5_1 < (l0.length : Int)) = true := decide_eq_true c4
     clear c4
     by_cases c5 : 0 ≤ x5_1
     ·
      rw [if_pos c5] at H
      have c5b0 : decide (0 ≤ x5_1) = true := decide_eq_true c5
      clear c5
      by_cases c6 : x5_1 < (l1.length : Int)
      ·
       rw [if_pos c6] at H
       have c6b0 : decide (x5_1 < (l1.length : Int)) = true := decide_eq_true c6
       clear c6
       by_cases c7 : (rd l0 x5_1) = (rd l1 x5_1)
       ·
        rw [if_pos c7] at H
        have c7b0 : ((rd l0 x5_1) == (rd l1 x5_1)) = true := beq_iff_eq.mpr c7
        have c7b1 : ((rd l0 x5_1) != (rd l1 x5_1)) = false := bne_eq_false_iff_eq.mpr c7
        clear c7
        have H' := Aside0.mk H
        clear H
        have p266 : 0 ≤ (x5_1 : Int) := of_decide_eq_true (by first | (with_reducible assumption) | assumption)
        have q266 : x5_1 < (l0.length : Int) := of_decide_eq_true (by first | (with_reducible assumption) | assumption)
        obtain ⟨ad266, e266, hx266_0⟩ := Kd.at_int HR0.out x5_1 p266 q266
        cases e266
        replace p266 := eq_true p266
        replace q266 := eq_true q266
        have p267 : 0 ≤ (x5_1 : Int) := of_decide_eq_true (by first | (with_reducible assumption) | assumption)
        have q267 : x5_1 < (l1.length : Int) := of_decide_eq_true (by first | (with_reducible assumption) | assumption)
        obtain ⟨ad267, e267, hx267_0⟩ := Kd.at_int HR1.out x5_1 p267 q267
        cases e267
        replace p267 := eq_true p267
        replace q267 := eq_true q267
        go_wp2
        repeat (go_quiet (fail); try go_wp2)
        go_roundg k1
        case measure => have := HK1.out; omega
        case rel => exact ⟨(wrap64 (x5_1 + 1)), (by first | rfl | (simp; done) | (simp [*]; done)), H', ⟨by have := HK1.out; omega⟩, by repeat (first | exact Drawn0.refl _ | apply Drawn0.step)⟩
       ·
        rw [if_neg c7] at H
        have c7b0 : ((rd l0 x5_1) == (rd l1 x5_1)) = false := beq_eq_false_iff_ne.mpr c7
        have c7b1 : ((rd l0 x5_1) != (rd l1 x5_1)) = true := bne_iff_ne.mpr c7
        obtain rfl := Option.some.inj H
        have p266 : 0 ≤ (x5_1 : Int) := of_decide_eq_true (by first | (with_reducible assumption) | assumption)
        have q266 : x5_1 < (l0.length : Int) := of_decide_eq_true (by first | (with_reducible assumption) | assumption)
        obtain ⟨ad266, e266, hx266_0⟩ := Kd.at_int HR0.out x5_1 p266 q266
        cases e266
        replace p266 := eq_true p266
        replace q266 := eq_true q266
        have p267 : 0 ≤ (x5_1 : Int) := of_decide_eq_true (by first | (with_reducible assumption) | assumption)
        have q267 : x5_1 < (l1.length : Int) := of_decide_eq_true (by first | (with_reducible assumption) | assumption)
        obtain ⟨ad267, e267, hx267_0⟩ := Kd.at_int HR1.out x5_1 p267 q267
        cases e267
        replace p267 := eq_true p267
        replace q267 := eq_true q267
        go_wp2
        repeat (go_quiet (fail); try go_wp2)
        go_ret
        exact ⟨by first | rfl | (simp; done) | (simp [*]; done), by repeat (first | exact Drawn0.refl _ | apply Drawn0.step)⟩
      ·
       rw [if_neg c6] at H
       exact absurd H (by simp)
     ·
      rw [if_neg c5] at H
      exact absurd H (by simp)
    ·
     rw [if_neg c4] at H
     have c4b0 : decide (x5_1 < (l0.length : Int)) = false := decide_eq_false c4
     clear c4
     obtain rfl := Option.some.inj H
     go_wp2
     repeat (go_quiet (fail); try go_wp2)
     go_ret
     exact ⟨by first | rfl | (simp; done) | (simp [*]; done), by repeat (first | exact Drawn0.refl _ | apply Drawn0.step)⟩
 ·
  rw [if_neg c3] at H
  have c3b0 : ((l0.length : Int) == (l1.length : Int)) = false := beq_eq_false_iff_ne.mpr c3
  have c3b1 : ((l0.length : Int) != (l1.length : Int)) = true := bne_iff_ne.mpr c3
  have c3b2 : (l0.length == l1.length) = false := by first | simpa using c3 | (simp at c3 ⊢; omega)
  obtain rfl := Option.some.inj H
  go_enter Tryd.func20, Tryd.ntmps20
  go_wp2
  repeat (go_quiet (fail); try go_wp2)
  go_ret
  exact ⟨by first | rfl | (simp; done) | (simp [*]; done), by repeat (first | exact Drawn0.refl _ | apply Drawn0.step)⟩
end Go.Proofs.YtbgbocdohadhoaaDoor.Print
