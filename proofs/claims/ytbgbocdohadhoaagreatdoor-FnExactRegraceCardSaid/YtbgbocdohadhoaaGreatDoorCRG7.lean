/- Texts of this session, joined by its own program. -/
import Derived.Test.YtbgbocdohadhoaaGreatDoorCRG6
namespace Go.Proofs.YtbgbocdohadhoaaGreatDoor.Print
open Go Go.RowKit Go.Proofs.YtbgbocdohadhoaaGreatDoorW.PrintWords Go.Proofs.YtbgbocdohadhoaaGreatDoorW.PrintLast Go.Proofs.YtbgbocdohadhoaaGreatDoorW.PrintMore
set_option linter.unusedVariables false
set_option linter.unusedSimpArgs false
section
attribute [local go_sem] max2_int max_two
set_option linter.unusedVariables false
set_option linter.unusedSimpArgs false
mutual
def spec_l3durable.l0 : Nat → Int → Int → Int → Int → Int → List (S90) → List (S93) → Option (Int × Int × Int × Int × (List (S90)) × (List (S93)))
  | 0, _, _, _, _, _, _, _ => none
  | k + 1, x4, x199000, x199001, x199002, x199003, x199004, x199005 => if x4 < (x199004.length : Int) then (if 0 ≤ x4 then ((some (x199004.set (x4 : Int).toNat (⟨(rd_T90 x199004 x4).f0, 0, (rd_T90 x199004 x4).f2⟩ : S90) : List (S90))).bind fun y199 => (spec_l3durable.l0 k (wrap64 (x4 + 1)) x199000 x199001 x199002 x199003 (y199.set (x4 : Int).toNat (⟨(rd_T90 y199 x4).f0, (rd_T90 y199 x4).f1, ([] : List (S153))⟩ : S90)) x199005)) else (none)) else (spec_l3durable.l1 k 0 x199000 x199001 x199002 x199003 x199004 x199005)
def spec_l3durable.l1 : Nat → Int → Int → Int → Int → Int → List (S90) → List (S93) → Option (Int × Int × Int × Int × (List (S90)) × (List (S93)))
  | 0, _, _, _, _, _, _, _ => none
  | k + 1, x5, x199000, x199001, x199002, x199003, x199004, x199005 => if x5 < (x199005.length : Int) then (if 0 ≤ x5 then (spec_l3durable.l1 k (wrap64 (x5 + 1)) x199000 x199001 x199002 x199003 x199004 (x199005.set (x5 : Int).toNat (⟨(rd_T93 x199005 x5).f0, (rd_T93 x199005 x5).f1, (rd_T93 x199005 x5).f2, (rd_T93 x199005 x5).f3, (rd_T93 x199005 x5).f4, (rd_T93 x199005 x5).f5, (rd_T93 x199005 x5).f6, ([] : List Int)⟩ : S93))) else (none)) else (some (x199000, x199001, x199002, x199003, x199004, x199005))
end
def spec_l3durable.f (k : Nat) (a0_0 : Int) (a0_1 : Int) (a0_2 : Int) (a0_3 : Int) (l0_4 : List (S90)) (l0_5 : List (S93)) : Option (Int × Int × Int × Int × (List (S90)) × (List (S93))) := (spec_l3copy.f k a0_0 a0_1 a0_2 a0_3 l0_4 l0_5).bind fun bt188 => (spec_l3durable.l0 k 0 bt188.1 bt188.2.1 bt188.2.2.1 0 bt188.2.2.2.2.1 bt188.2.2.2.2.2)
set_option maxHeartbeats 8000000 in
set_option maxRecDepth 100000 in
theorem spec_l3durable.calls (k : Nat) (a0_0 : Int) (a0_1 : Int) (a0_2 : Int) (a0_3 : Int) (A0_4 : Option Addr) (c0_4 : Nat) (l0_4 : List (S90)) (A0_5 : Option Addr) (c0_5 : Nat) (l0_5 : List (S93)) (r1 : Int) (r2 : Int) (r3 : Int) (r4 : Int) (r5 : List (S90)) (r6 : List (S93)) (w : World) (hr0_4 : Kd.C k90 w A0_4 l0_4.length l0_4) (hc0_4 : l0_4.length ≤ c0_4) (hr0_5 : Kd.C k93 w A0_5 l0_5.length l0_5) (hc0_5 : l0_5.length ≤ c0_5) (h : spec_l3durable.f k a0_0 a0_1 a0_2 a0_3 l0_4 l0_5 = some (r1, r2, r3, r4, r5, r6)) :
  Calls Tryz.prog 79 #[.agg #[.int .u64 a0_0, .int .u64 a0_1, .int .u64 a0_2, .int .i64 a0_3, .slice A0_4 l0_4.length c0_4, .slice A0_5 l0_5.length c0_5]] w fun e w' => ∃ v4_ v5_ : Value, e = .returned (.agg #[.int .u64 r1, .int .u64 r2, .int .u64 r3, .int .i64 r4, v4_, v5_]) ∧ Kd.R k90 90 w' w.heap.size (fun _ => True) v4_ r5 ∧ Kd.S k93 93 w' w.heap.size (fun _ => True) v5_ r6 ∧ Below w.heap.size w w' := by
 have hu31 := Tryz.underlying31
 have HR0_4 := Aside0.mk hr0_4
 have HC0_4 := Aside0.mk hc0_4
 clear hr0_4 hc0_4
 have HR0_5 := Aside0.mk hr0_5
 have HC0_5 := Aside0.mk hc0_5
 clear hr0_5 hc0_5
 have HB := Aside0.mk (Below.refl w.heap.size w)
 have H : ((spec_l3copy.f k a0_0 a0_1 a0_2 a0_3 l0_4 l0_5).bind fun bt188 => (spec_l3durable.l0 k 0 bt188.1 bt188.2.1 bt188.2.2.1 0 bt188.2.2.2.2.1 bt188.2.2.2.2.2)) = some (r1, r2, r3, r4, r5, r6) := h
 clear h
 replace H := Option.bind_eq_some_iff.mp H
 obtain ⟨⟨t188, t189, t190, t191, t192, t195⟩, A20, H⟩ := H
 replace H : (spec_l3durable.l0 k 0 t188 t189 t190 0 t192 t195) = some (r1, r2, r3, r4, r5, r6) := H
 have A2 := Aside0.mk A20
 clear A20
 have H' := Aside0.mk H
 clear H
 go_enter Tryz.func79, Tryz.ntmps79
 go_wp2_with (first | ((with_reducible refine gate_dst (N := 1) rfl ?_); refine box_event ?hg (N := 1) ?hd (cs := #[.int .u64 a0_0, .int .u64 a0_1, .int .u64 a0_2, .int .i64 a0_3, .slice A0_4 l0_4.length c0_4, .slice A0_5 l0_5.length c0_5]) (t := 31) ?hr ?_; (case hd => rfl); (case hg => rfl); (case hr => first | (go_simp; done) | (go_simp; rfl)); intro gb186 hg w3 hbox hb; have n0_ := Aside0.mk (below_step (by repeat (first | (with_reducible first | exact HB.out | apply below_alloc | apply pw_below_drewN | apply below_drew1) | exact HB.out)) hb); have n1_ := Aside0.mk (hbox); have n2_ := Aside0.mk ((by rw [hg]; exact (below_size (by repeat (first | (with_reducible first | exact HB.out | apply below_alloc | apply pw_below_drewN | apply below_drew1) | exact HB.out))) : w.heap.size ≤ gb186)); have n3_ := Aside0.mk ((by rw [hg]; exact (below_size (by repeat (first | (with_reducible first | exact HB.out | apply below_alloc | apply pw_below_drewN | apply below_drew1) | exact HB.out))) : w.heap.size ≤ gb186)); clear HB; have HB := n0_; have BK186 := n1_; have GW186 := n2_; have GE186 := n3_; clear n0_ n1_ n2_ n3_; clear hb hbox hg) | ((with_reducible refine gate_dst (N := 2) rfl ?_); refine box_event ?hg (N := 2) ?hd (cs := #[.int .u64 0, .int .u64 0, .int .u64 0, .int .i64 0, .slice none 0 0, .slice none 0 0]) (t := 31) ?hr ?_; (case hd => rfl); (case hg => rfl); (case hr => first | (go_simp; done) | (go_simp; rfl)); intro gb187 hg w4 hbox hb; have n0_ := Aside0.mk (blk_below (g := gb186) (o := .cells #[.int .u64 a0_0, .int .u64 a0_1, .int .u64 a0_2, .int .i64 a0_3, .slice A0_4 l0_4.length c0_4, .slice A0_5 l0_5.length c0_5] 31 (0, 0)) (by (with_reducible repeat (first | refine blk_drewN ?_ _ | refine blk_drew ?_ | refine blk_alloc ?_ _)); exact BK186.out) hb); have n1_ := Aside0.mk (below_step (by repeat (first | (with_reducible first | exact HB.out | apply below_alloc | apply pw_below_drewN | apply below_drew1 | refine below_set ?_ GE186.out) | exact HB.out)) hb); have n2_ := Aside0.mk (hbox); have n3_ := Aside0.mk ((by rw [hg]; exact (below_size (by repeat (first | (with_reducible first | exact HB.out | apply below_alloc | apply pw_below_drewN | apply below_drew1 | refine below_set ?_ GE186.out) | exact HB.out))) : w.heap.size ≤ gb187)); have n4_ := Aside0.mk ((by rw [hg]; exact (below_size (by repeat (first | (with_reducible first | exact HB.out | apply below_alloc | apply pw_below_drewN | apply below_drew1 | refine below_set ?_ GE186.out) | exact HB.out))) : w.heap.size ≤ gb187)); have n5_ := Aside0.mk ((by rw [hg]; exact Nat.ne_of_lt (blk_lt (g := gb186) (o := .cells #[.int .u64 a0_0, .int .u64 a0_1, .int .u64 a0_2, .int .i64 a0_3, .slice A0_4 l0_4.length c0_4, .slice A0_5 l0_5.length c0_5] 31 (0, 0)) (by (with_reducible repeat (first | refine blk_drewN ?_ _ | refine blk_drew ?_ | refine blk_alloc ?_ _)); exact BK186.out)) : gb186 ≠ gb187)); have n6_ := Aside0.mk ((by rw [hg]; exact Nat.ne_of_gt (blk_lt (g := gb186) (o := .cells #[.int .u64 a0_0, .int .u64 a0_1, .int .u64 a0_2, .int .i64 a0_3, .slice A0_4 l0_4.length c0_4, .slice A0_5 l0_5.length c0_5] 31 (0, 0)) (by (with_reducible repeat (first | refine blk_drewN ?_ _ | refine blk_drew ?_ | refine blk_alloc ?_ _)); exact BK186.out)) : gb187 ≠ gb186)); clear BK186; clear HB; have BK186 := n0_; have HB := n1_; have BK187 := n2_; have GW187 := n3_; have GE187 := n4_; have NB186_187 := n5_; have NB187_186 := n6_; clear n0_ n1_ n2_ n3_ n4_ n5_ n6_; clear hb hbox hg; have hnb5 := NB186_187.out; have hnc5 := NB187_186.out; have hcz6_0 : w4.cell? ⟨gb186, 0, none⟩ = some (.int .u64 a0_0) := (blk_cell BK186.out 0).trans rfl; have hcz6_1 : w4.cell? ⟨gb186, 1, none⟩ = some (.int .u64 a0_1) := (blk_cell BK186.out 1).trans rfl; have hcz6_2 : w4.cell? ⟨gb186, 2, none⟩ = some (.int .u64 a0_2) := (blk_cell BK186.out 2).trans rfl; have hcz6_3 : w4.cell? ⟨gb186, 3, none⟩ = some (.int .i64 a0_3) := (blk_cell BK186.out 3).trans rfl; have hcz6_4 : w4.cell? ⟨gb186, 4, none⟩ = some (.slice A0_4 l0_4.length c0_4) := (blk_cell BK186.out 4).trans rfl; have hcz6_5 : w4.cell? ⟨gb186, 5, none⟩ = some (.slice A0_5 l0_5.length c0_5) := (blk_cell BK186.out 5).trans rfl; have hfz6_0 := blk_frozen BK186.out 0; have hfz6_1 := blk_frozen BK186.out 1; have hfz6_2 := blk_frozen BK186.out 2; have hfz6_3 := blk_frozen BK186.out 3; have hfz6_4 := blk_frozen BK186.out 4; have hfz6_5 := blk_frozen BK186.out 5) | ((with_reducible refine gate_callee (f := 44) rfl ?_); refine goesL_ (some 7) rfl rfl Tryz.func44 (by kernel_rfl) rfl #[.agg #[.int .u64 a0_0, .int .u64 a0_1, .int .u64 a0_2, .int .i64 a0_3, .slice A0_4 l0_4.length c0_4, .slice A0_5 l0_5.length c0_5]] rfl (by (try simp only [List.map_toArray, List.map_cons, List.map_nil]); first | done | rfl | (simp only [List.length_drop, List.length_take]; rfl)) ?_; (with_reducible refine (spec_l3copy.calls k a0_0 a0_1 a0_2 a0_3 _ _ l0_4 _ _ l0_5 t188 t189 t190 t191 t192 t195 _ ?side1 ?side2 ?side3 ?side4 A2.out).mono ?_); (case side1 => repeat (first | exact (Kd.C_below HR0_4.out HB.out) | (with_reducible refine Kd.C_alloc ?_ _) | (with_reducible refine Kd.C_drewN ?_ _) | (with_reducible refine Kd.C_drew ?_))); (case side2 => exact HC0_4.out); (case side3 => repeat (first | exact (Kd.C_below HR0_5.out HB.out) | (with_reducible refine Kd.C_alloc ?_ _) | (with_reducible refine Kd.C_drewN ?_ _) | (with_reducible refine Kd.C_drew ?_))); (case side4 => exact HC0_5.out); rintro e w7 ⟨v193, v196, rfl, ho0, ho1, hb⟩; refine ⟨_, rfl, ?_⟩; have n0_ := Aside0.mk (Kd.R_lower ho0 (below_size (by repeat (first | (with_reducible first | exact HB.out | apply below_alloc | apply pw_below_drewN | apply below_drew1 | refine below_set ?_ GE186.out | refine below_set ?_ GE187.out) | exact HB.out)))); have n1_ := Aside0.mk (Kd.S_lower ho1 (below_size (by repeat (first | (with_reducible first | exact HB.out | apply below_alloc | apply pw_below_drewN | apply below_drew1 | refine below_set ?_ GE186.out | refine below_set ?_ GE187.out) | exact HB.out)))); have n2_ := Aside0.mk (blk_below (g := gb186) (o := .cells #[.int .u64 a0_0, .int .u64 a0_1, .int .u64 a0_2, .int .i64 a0_3, .slice A0_4 l0_4.length c0_4, .slice A0_5 l0_5.length c0_5] 31 (0, 0)) (by (with_reducible repeat (first | refine blk_drewN ?_ _ | refine blk_drew ?_ | refine blk_alloc ?_ _)); exact BK186.out) hb); have n3_ := Aside0.mk (blk_below (g := gb187) (o := .cells #[.int .u64 0, .int .u64 0, .int .u64 0, .int .i64 0, .slice none 0 0, .slice none 0 0] 31 (0, 0)) (by (with_reducible repeat (first | refine blk_drewN ?_ _ | refine blk_drew ?_ | refine blk_alloc ?_ _)); exact BK187.out) hb); have n4_ := Aside0.mk (below_step (by repeat (first | (with_reducible first | exact HB.out | apply below_alloc | apply pw_below_drewN | apply below_drew1 | refine below_set ?_ GE186.out | refine below_set ?_ GE187.out) | exact HB.out)) hb); clear BK186; clear BK187; clear HB; have HO194 := n0_; have HO197 := n1_; have BK186 := n2_; have BK187 := n3_; have HB := n4_; clear n0_ n1_ n2_ n3_ n4_; (try clear hb); (try clear hb2); (try clear hk); (try clear hi); (try clear ho0); (try clear ho1)) | ((with_reducible refine gate_dst (N := 3) rfl ?_); refine box_event ?hg (N := 3) ?hd (cs := #[.int .u64 0, .int .u64 0, .int .u64 0, .int .i64 0, .slice none 0 0, .slice none 0 0]) (t := 31) ?hr ?_; (case hd => rfl); (case hg => rfl); (case hr => first | (go_simp; done) | (go_simp; rfl)); intro gb198 hg w8 hbox hb; have n0_ := Aside0.mk (Kd.R_below (by (with_reducible repeat (first | apply Kd.R_alloc | apply Kd.R_drewN | apply Kd.R_drew)); exact HO194.out) hb); have n1_ := Aside0.mk (Kd.S_below (by (with_reducible repeat (first | apply Kd.S_alloc | apply Kd.S_drewN | apply Kd.S_drew)); exact HO197.out) hb); have n2_ := Aside0.mk (blk_below (g := gb186) (o := .cells #[.int .u64 a0_0, .int .u64 a0_1, .int .u64 a0_2, .int .i64 a0_3, .slice A0_4 l0_4.length c0_4, .slice A0_5 l0_5.length c0_5] 31 (0, 0)) (by (with_reducible repeat (first | refine blk_drewN ?_ _ | refine blk_drew ?_ | refine blk_alloc ?_ _)); exact BK186.out) hb); have n3_ := Aside0.mk (blk_below (g := gb187) (o := .cells #[.int .u64 0, .int .u64 0, .int .u64 0, .int .i64 0, .slice none 0 0, .slice none 0 0] 31 (0, 0)) (by (with_reducible repeat (first | refine blk_drewN ?_ _ | refine blk_drew ?_ | refine blk_alloc ?_ _)); exact BK187.out) hb); have n4_ := Aside0.mk (below_step (by repeat (first | (with_reducible first | exact HB.out | apply below_alloc | apply pw_below_drewN | apply below_drew1 | refine below_set ?_ GE186.out | refine below_set ?_ GE187.out) | exact HB.out)) hb); have n5_ := Aside0.mk (hbox); have n6_ := Aside0.mk ((by rw [hg]; exact (below_size (by repeat (first | (with_reducible first | exact HB.out | apply below_alloc | apply pw_below_drewN | apply below_drew1 | refine below_set ?_ GE186.out | refine below_set ?_ GE187.out) | exact HB.out))) : w.heap.size ≤ gb198)); have n7_ := Aside0.mk ((by rw [hg]; exact (below_size (by repeat (first | (with_reducible first | exact HB.out | apply below_alloc | apply pw_below_drewN | apply below_drew1 | refine below_set ?_ GE186.out | refine below_set ?_ GE187.out) | exact HB.out))) : w.heap.size ≤ gb198)); have n8_ := Aside0.mk ((by rw [hg]; exact Nat.ne_of_lt (blk_lt (g := gb186) (o := .cells #[.int .u64 a0_0, .int .u64 a0_1, .int .u64 a0_2, .int .i64 a0_3, .slice A0_4 l0_4.length c0_4, .slice A0_5 l0_5.length c0_5] 31 (0, 0)) (by (with_reducible repeat (first | refine blk_drewN ?_ _ | refine blk_drew ?_ | refine blk_alloc ?_ _)); exact BK186.out)) : gb186 ≠ gb198)); have n9_ := Aside0.mk ((by rw [hg]; exact Nat.ne_of_gt (blk_lt (g := gb186) (o := .cells #[.int .u64 a0_0, .int .u64 a0_1, .int .u64 a0_2, .int .i64 a0_3, .slice A0_4 l0_4.length c0_4, .slice A0_5 l0_5.length c0_5] 31 (0, 0)) (by (with_reducible repeat (first | refine blk_drewN ?_ _ | refine blk_drew ?_ | refine blk_alloc ?_ _)); exact BK186.out)) : gb198 ≠ gb186)); have n10_ := Aside0.mk ((by rw [hg]; exact Nat.ne_of_lt (blk_lt (g := gb187) (o := .cells #[.int .u64 0, .int .u64 0, .int .u64 0, .int .i64 0, .slice none 0 0, .slice none 0 0] 31 (0, 0)) (by (with_reducible repeat (first | refine blk_drewN ?_ _ | refine blk_drew ?_ | refine blk_alloc ?_ _)); exact BK187.out)) : gb187 ≠ gb198)); have n11_ := Aside0.mk ((by rw [hg]; exact Nat.ne_of_gt (blk_lt (g := gb187) (o := .cells #[.int .u64 0, .int .u64 0, .int .u64 0, .int .i64 0, .slice none 0 0, .slice none 0 0] 31 (0, 0)) (by (with_reducible repeat (first | refine blk_drewN ?_ _ | refine blk_drew ?_ | refine blk_alloc ?_ _)); exact BK187.out)) : gb198 ≠ gb187)); clear HO194; clear HO197; clear BK186; clear BK187; clear HB; have HO194 := n0_; have HO197 := n1_; have BK186 := n2_; have BK187 := n3_; have HB := n4_; have BK198 := n5_; have GW198 := n6_; have GE198 := n7_; have NB186_198 := n8_; have NB198_186 := n9_; have NB187_198 := n10_; have NB198_187 := n11_; clear n0_ n1_ n2_ n3_ n4_ n5_ n6_ n7_ n8_ n9_ n10_ n11_; clear hb hbox hg; have hnb9 := NB198_186.out; have hnc9 := NB186_198.out; have hnb10 := NB198_187.out; have hnc10 := NB187_198.out; have hcz11_0 : w8.cell? ⟨gb198, 0, none⟩ = some (.int .u64 0) := (blk_cell BK198.out 0).trans rfl; have hcz11_1 : w8.cell? ⟨gb198, 1, none⟩ = some (.int .u64 0) := (blk_cell BK198.out 1).trans rfl; have hcz11_2 : w8.cell? ⟨gb198, 2, none⟩ = some (.int .u64 0) := (blk_cell BK198.out 2).trans rfl; have hcz11_3 : w8.cell? ⟨gb198, 3, none⟩ = some (.int .i64 0) := (blk_cell BK198.out 3).trans rfl; have hcz11_4 : w8.cell? ⟨gb198, 4, none⟩ = some (.slice none 0 0) := (blk_cell BK198.out 4).trans rfl; have hcz11_5 : w8.cell? ⟨gb198, 5, none⟩ = some (.slice none 0 0) := (blk_cell BK198.out 5).trans rfl; have hfz11_0 := blk_frozen BK198.out 0; have hfz11_1 := blk_frozen BK198.out 1; have hfz11_2 := blk_frozen BK198.out 2; have hfz11_3 := blk_frozen BK198.out 3; have hfz11_4 := blk_frozen BK198.out 4; have hfz11_5 := blk_frozen BK198.out 5; obtain ⟨Ao12, co12, eo12⟩ := Kd.R_slice HO194.out; subst eo12; obtain ⟨Ao13, co13, eo13⟩ := Kd.S_slice HO197.out; subst eo13))
 go_loopg [4] k (fun kq v4 w' => ∃ (x4_1 : Int) (x199004_1 : List (S90)) (u199004 : Value), v4 = .int .i64 x4_1 ∧ Aside0 (spec_l3durable.l0 kq x4_1 t188 t189 t190 0 x199004_1 t195 = some (r1, r2, r3, r4, r5, r6)) ∧ Aside0 (kq ≤ k) ∧ Aside0 (Kd.R k90 90 w' w.heap.size (fun _ => True) u199004 x199004_1) ∧ Aside0 (Kd.S k93 93 w' w.heap.size (fun _ => True) (.slice Ao13 t195.length co13) t195) ∧ Aside0 (w'.heap[gb186]? = some (.cells #[.int .u64 a0_0, .int .u64 a0_1, .int .u64 a0_2, .int .i64 a0_3, (.slice A0_4 l0_4.length c0_4), (.slice A0_5 l0_5.length c0_5)] 31 (0, 0))) ∧ Aside0 (w'.heap[gb187]? = some (.cells #[.int .u64 0, .int .u64 0, .int .u64 0, .int .i64 0, (.slice none 0 0), (.slice none 0 0)] 31 (0, 0))) ∧ Aside0 (w'.heap[gb198]? = some (.cells #[.int .u64 t188, .int .u64 t189, .int .u64 t190, .int .i64 0, u199004, (.slice Ao13 t195.length co13)] 31 (0, 0))) ∧ Aside0 (Below w.heap.size w w'))
 case atStart => exact ⟨(0), (t192), (.slice Ao12 t192.length co12), (by first | rfl | (simp; done) | (simp [*]; done)), H', ⟨Nat.le_refl _⟩, ⟨by (with_reducible repeat (first | apply Kd.R_alloc | apply Kd.R_drewN | apply Kd.R_drew)); exact Kd.R_mono (Kd.R_far (p := ⟨gb198, 3, none⟩) (Kd.R_far (p := ⟨gb198, 5, none⟩) (Kd.R_far (p := ⟨gb198, 4, none⟩) (Kd.R_far (p := ⟨gb198, 3, none⟩) (Kd.R_far (p := ⟨gb198, 2, none⟩) (Kd.R_far (p := ⟨gb198, 1, none⟩) (Kd.R_far (p := ⟨gb198, 0, none⟩) (Kd.R_types HO194.out BK198.out (by decide)) (fun _ hk => hk.2) (.int .u64 t188)) (fun _ hk => hk.2) (.int .u64 t189)) (fun _ hk => hk.2) (.int .u64 t190)) (fun _ hk => hk.2) (.int .i64 t191)) (fun _ hk => hk.2) (.slice Ao12 t192.length co12)) (fun _ hk => hk.2) (.slice Ao13 t195.length co13)) (fun _ hk => hk.2) (.int .i64 0)) (fun _ hk => trivial)⟩, ⟨by (with_reducible repeat (first | apply Kd.S_alloc | apply Kd.S_drewN | apply Kd.S_drew)); exact Kd.S_mono (Kd.S_far (p := ⟨gb198, 3, none⟩) (Kd.S_far (p := ⟨gb198, 5, none⟩) (Kd.S_far (p := ⟨gb198, 4, none⟩) (Kd.S_far (p := ⟨gb198, 3, none⟩) (Kd.S_far (p := ⟨gb198, 2, none⟩) (Kd.S_far (p := ⟨gb198, 1, none⟩) (Kd.S_far (p := ⟨gb198, 0, none⟩) (Kd.S_types HO197.out BK198.out (by decide)) (fun _ hk => hk.2) (.int .u64 t188)) (fun _ hk => hk.2) (.int .u64 t189)) (fun _ hk => hk.2) (.int .u64 t190)) (fun _ hk => hk.2) (.int .i64 t191)) (fun _ hk => hk.2) (.slice Ao12 t192.length co12)) (fun _ hk => hk.2) (.slice Ao13 t195.length co13)) (fun _ hk => hk.2) (.int .i64 0)) (fun _ hk => trivial)⟩, ⟨by (with_reducible repeat (first | refine blk_drewN ?_ _ | refine blk_drew ?_ | refine blk_alloc ?_ _)); refine blk_far ?_ NB186_198.out _; (with_reducible repeat (first | refine blk_drewN ?_ _ | refine blk_drew ?_ | refine blk_alloc ?_ _)); refine blk_far ?_ NB186_198.out _; (with_reducible repeat (first | refine blk_drewN ?_ _ | refine blk_drew ?_ | refine blk_alloc ?_ _)); refine blk_far ?_ NB186_198.out _; (with_reducible repeat (first | refine blk_drewN ?_ _ | refine blk_drew ?_ | refine blk_alloc ?_ _)); refine blk_far ?_ NB186_198.out _; (with_reducible repeat (first | refine blk_drewN ?_ _ | refine blk_drew ?_ | refine blk_alloc ?_ _)); refine blk_far ?_ NB186_198.out _; (with_reducible repeat (first | refine blk_drewN ?_ _ | refine blk_drew ?_ | refine blk_alloc ?_ _)); refine blk_far ?_ NB186_198.out _; (with_reducible repeat (first | refine blk_drewN ?_ _ | refine blk_drew ?_ | refine blk_alloc ?_ _)); refine blk_far ?_ NB186_198.out _; (with_reducible repeat (first | refine blk_drewN ?_ _ | refine blk_drew ?_ | refine blk_alloc ?_ _)); exact BK186.out⟩, ⟨by (with_reducible repeat (first | refine blk_drewN ?_ _ | refine blk_drew ?_ | refine blk_alloc ?_ _)); refine blk_far ?_ NB187_198.out _; (with_reducible repeat (first | refine blk_drewN ?_ _ | refine blk_drew ?_ | refine blk_alloc ?_ _)); refine blk_far ?_ NB187_198.out _; (with_reducible repeat (first | refine blk_drewN ?_ _ | refine blk_drew ?_ | refine blk_alloc ?_ _)); refine blk_far ?_ NB187_198.out _; (with_reducible repeat (first | refine blk_drewN ?_ _ | refine blk_drew ?_ | refine blk_alloc ?_ _)); refine blk_far ?_ NB187_198.out _; (with_reducible repeat (first | refine blk_drewN ?_ _ | refine blk_drew ?_ | refine blk_alloc ?_ _)); refine blk_far ?_ NB187_198.out _; (with_reducible repeat (first | refine blk_drewN ?_ _ | refine blk_drew ?_ | refine blk_alloc ?_ _)); refine blk_far ?_ NB187_198.out _; (with_reducible repeat (first | refine blk_drewN ?_ _ | refine blk_drew ?_ | refine blk_alloc ?_ _)); refine blk_far ?_ NB187_198.out _; (with_reducible repeat (first | refine blk_drewN ?_ _ | refine blk_drew ?_ | refine blk_alloc ?_ _)); exact BK187.out⟩, ⟨by (with_reducible repeat (first | refine blk_drewN ?_ _ | refine blk_drew ?_ | refine blk_alloc ?_ _)); refine blk_put (cs := #[.int .u64 t188, .int .u64 t189, .int .u64 t190, .int .i64 t191, .slice Ao12 t192.length co12, .slice Ao13 t195.length co13]) ?_ 3 _ rfl; (with_reducible repeat (first | refine blk_drewN ?_ _ | refine blk_drew ?_ | refine blk_alloc ?_ _)); refine blk_put (cs := #[.int .u64 t188, .int .u64 t189, .int .u64 t190, .int .i64 t191, .slice Ao12 t192.length co12, .slice none 0 0]) ?_ 5 _ rfl; (with_reducible repeat (first | refine blk_drewN ?_ _ | refine blk_drew ?_ | refine blk_alloc ?_ _)); refine blk_put (cs := #[.int .u64 t188, .int .u64 t189, .int .u64 t190, .int .i64 t191, .slice none 0 0, .slice none 0 0]) ?_ 4 _ rfl; (with_reducible repeat (first | refine blk_drewN ?_ _ | refine blk_drew ?_ | refine blk_alloc ?_ _)); refine blk_put (cs := #[.int .u64 t188, .int .u64 t189, .int .u64 t190, .int .i64 0, .slice none 0 0, .slice none 0 0]) ?_ 3 _ rfl; (with_reducible repeat (first | refine blk_drewN ?_ _ | refine blk_drew ?_ | refine blk_alloc ?_ _)); refine blk_put (cs := #[.int .u64 t188, .int .u64 t189, .int .u64 0, .int .i64 0, .slice none 0 0, .slice none 0 0]) ?_ 2 _ rfl; (with_reducible repeat (first | refine blk_drewN ?_ _ | refine blk_drew ?_ | refine blk_alloc ?_ _)); refine blk_put (cs := #[.int .u64 t188, .int .u64 0, .int .u64 0, .int .i64 0, .slice none 0 0, .slice none 0 0]) ?_ 1 _ rfl; (with_reducible repeat (first | refine blk_drewN ?_ _ | refine blk_drew ?_ | refine blk_alloc ?_ _)); refine blk_put (cs := #[.int .u64 0, .int .u64 0, .int .u64 0, .int .i64 0, .slice none 0 0, .slice none 0 0]) ?_ 0 _ rfl; (with_reducible repeat (first | refine blk_drewN ?_ _ | refine blk_drew ?_ | refine blk_alloc ?_ _)); exact BK198.out⟩, ⟨by repeat (first | (with_reducible first | exact HB.out | apply below_alloc | apply pw_below_drewN | apply below_drew1 | refine below_set ?_ GE186.out | refine below_set ?_ GE187.out | refine below_set ?_ GE198.out) | exact HB.out)⟩⟩
 case round =>
  clear H'
  try clear c1
  try clear p2
  try clear c4
  try clear c5
  try clear c7
  try clear c9
  try clear c10
  try clear hcz11_0
  try clear hcz11_1
  try clear hcz11_2
  try clear hcz11_3
  try clear hcz11_4
  try clear hcz11_5
  try clear hcz6_0
  try clear hcz6_1
  try clear hcz6_2
  try clear hcz6_3
  try clear hcz6_4
  try clear hcz6_5
  try clear hfz11_0
  try clear hfz11_1
  try clear hfz11_2
  try clear hfz11_3
  try clear hfz11_4
  try clear hfz11_5
  try clear hfz6_0
  try clear hfz6_1
  try clear hfz6_2
  try clear hfz6_3
  try clear hfz6_4
  try clear hfz6_5
  obtain ⟨x4_1, x199004_1, u199004, rfl, HA, HK1, HO_199004, HO_199005, BK186, BK187, BK198, HB⟩ := hrel
  cases gk with
  | zero => exact absurd HA.out (by simp [spec_l3durable.l0])
  | succ k1 =>
   have H := HA.out
   clear HA
   simp only [spec_l3durable.l0] at H
   by_cases c14 : x4_1 < (x199004_1.length : Int)
   ·
    rw [if_pos c14] at H
    have c14b0 : decide (x4_1 < (x199004_1.length : Int)) = true := decide_eq_true c14
    clear c14
    by_cases c15 : 0 ≤ x4_1
    ·
     rw [if_pos c15] at H
     have c15b0 : decide (0 ≤ x4_1) = true := decide_eq_true c15
     clear c15
     obtain ⟨y199, hy199⟩ : ∃ y_ : List (S90), y_ = (x199004_1.set (x4_1 : Int).toNat (⟨(rd_T90 x199004_1 x4_1).f0, 0, (rd_T90 x199004_1 x4_1).f2⟩ : S90)) := ⟨_, rfl⟩
     replace H : (spec_l3durable.l0 k1 (wrap64 (x4_1 + 1)) t188 t189 t190 0 (y199.set (x4_1 : Int).toNat (⟨(rd_T90 y199 x4_1).f0, (rd_T90 y199 x4_1).f1, ([] : List (S153))⟩ : S90)) t195) = some (r1, r2, r3, r4, r5, r6) := by first | (rw [hy199]; with_reducible exact H) | (have H2_ := (Option.bind_some _ _).symm.trans H; rw [hy199]; with_reducible exact H2_) | (have H2_ := (Option.bind_some _ _).symm.trans H; with_reducible exact H2_) | with_reducible exact H | (rw [hy199]; exact H) | exact H
     have Ny199 := Aside0.mk hy199
     clear hy199
     obtain ⟨y200, hy200⟩ : ∃ y_ : List (S90), y_ = (y199.set (x4_1 : Int).toNat (⟨(rd_T90 y199 x4_1).f0, (rd_T90 y199 x4_1).f1, ([] : List (S153))⟩ : S90)) := ⟨_, rfl⟩
     replace H : (spec_l3durable.l0 k1 (wrap64 (x4_1 + 1)) t188 t189 t190 0 y200 t195) = some (r1, r2, r3, r4, r5, r6) := by first | (rw [hy200]; with_reducible exact H) | (have H2_ := (Option.bind_some _ _).symm.trans H; rw [hy200]; with_reducible exact H2_) | (have H2_ := (Option.bind_some _ _).symm.trans H; with_reducible exact H2_) | with_reducible exact H | (rw [hy200]; exact H) | exact H
     have Ny200 := Aside0.mk hy200
     clear hy200
     have H' := Aside0.mk H
     clear H
     have hnb18 := NB198_186.out
     have hnc18 := NB186_198.out
     have hnb19 := NB198_187.out
     have hnc19 := NB187_198.out
     have hcz20_0 : wr.cell? ⟨gb198, 0, none⟩ = some (.int .u64 t188) := (blk_cell BK198.out 0).trans rfl
     have hcz20_1 : wr.cell? ⟨gb198, 1, none⟩ = some (.int .u64 t189) := (blk_cell BK198.out 1).trans rfl
     have hcz20_2 : wr.cell? ⟨gb198, 2, none⟩ = some (.int .u64 t190) := (blk_cell BK198.out 2).trans rfl
     have hcz20_3 : wr.cell? ⟨gb198, 3, none⟩ = some (.int .i64 0) := (blk_cell BK198.out 3).trans rfl
     have hcz20_4 : wr.cell? ⟨gb198, 4, none⟩ = some (u199004) := (blk_cell BK198.out 4).trans rfl
     have hcz20_5 : wr.cell? ⟨gb198, 5, none⟩ = some (.slice Ao13 t195.length co13) := (blk_cell BK198.out 5).trans rfl
     have hfz20_0 := blk_frozen BK198.out 0
     have hfz20_1 := blk_frozen BK198.out 1
     have hfz20_2 := blk_frozen BK198.out 2
     have hfz20_3 := blk_frozen BK198.out 3
     have hfz20_4 := blk_frozen BK198.out 4
     have hfz20_5 := blk_frozen BK198.out 5
     obtain ⟨Ao21, co21, eo21⟩ := Kd.R_slice HO_199004.out
     subst eo21
     have p16 : 0 ≤ (x4_1 : Int) := of_decide_eq_true (by first | (with_reducible assumption) | assumption)
     have q16 : (x4_1 : Int) < ((x199004_1.length : Int) : Int) := of_decide_eq_true (by first | (with_reducible assumption) | assumption)
     obtain ⟨go16, co16, eo16, gb16, gl16, cl16, HG16⟩ := Kd.R_form HO_199004.out (by omega)
     (first | cases eo16 | (injection eo16 with ea_ en_ ec_; (first | subst ea_ | (injection ea_ with ea_; subst ea_)); subst ec_; clear en_))
     have GB16 := Aside0.mk gb16
     have GG16 := Aside0.mk HG16
     clear gb16 gl16 HG16
     obtain ⟨ce16, hcl16, hM16, hcc16, hfr16⟩ := Kd.R_elem HO_199004.out z90 (x4_1 : Int) p16 q16
     obtain ⟨ve16_2, rfl, ge16_2⟩ := k90_openM hM16
     have hx16_0 : wr.cell? ⟨go16, (x4_1 : Int).toNat * 3, none⟩ = some (.int .u64 ((rd_T90 x199004_1 x4_1).f0)) := hcc16 0 _ rfl
     have hx16_1 : wr.cell? ⟨go16, (x4_1 : Int).toNat * 3 + 1, none⟩ = some (.int .i64 ((rd_T90 x199004_1 x4_1).f1)) := hcc16 1 _ rfl
     have hx16_2 : wr.cell? ⟨go16, (x4_1 : Int).toNat * 3 + 2, none⟩ = some (ve16_2) := hcc16 2 _ rfl
     have hf16_0 : wr.frozen? ⟨go16, (x4_1 : Int).toNat * 3, none⟩ = false := hfr16 0
     have hf16_1 : wr.frozen? ⟨go16, (x4_1 : Int).toNat * 3 + 1, none⟩ = false := hfr16 1
     have hf16_2 : wr.frozen? ⟨go16, (x4_1 : Int).toNat * 3 + 2, none⟩ = false := hfr16 2
     clear hcl16 hcc16 hfr16 hM16
     replace p16 := eq_true p16
     replace q16 := eq_true q16
     have HX22 := Aside0.mk (show Kd.R k90 90 wr w.heap.size (fun _ => True) (.slice (some ⟨go16, 0, none⟩) x199004_1.length co21) x199004_1 from (by (with_reducible repeat (first | apply Kd.R_alloc | apply Kd.R_drewN | apply Kd.R_drew)); exact HO_199004.out))
     obtain ⟨ce22, hcl22, hM22, hcc22, hfr22⟩ := Kd.R_elem HX22.out z90 (x4_1 : Int) (of_decide_eq_true (by first | (with_reducible assumption) | assumption)) (by have h_ : (x4_1 : Int) < ((x199004_1.length : Int) : Int) := of_decide_eq_true (by first | (with_reducible assumption) | assumption); first | exact h_ | (have e_ := (Kd.R_reads' HO_199004.out).1; omega) | simpa using h_)
     obtain ⟨ve22_2, rfl, ge22_2⟩ := k90_openM hM22
     have HP22 := Kd.R_seg HX22.out (x4_1 : Int) (of_decide_eq_true (by first | (with_reducible assumption) | assumption)) (by have h_ : (x4_1 : Int) < ((x199004_1.length : Int) : Int) := of_decide_eq_true (by first | (with_reducible assumption) | assumption); first | exact h_ | (have e_ := (Kd.R_reads' HO_199004.out).1; omega) | simpa using h_) (seg := [.int .i64 0]) (j := 1) hcl22 hcc22 (show 2 ≤ 3 from by decide) (x' := (⟨(rd_T90 x199004_1 x4_1).f0, 0, (rd_T90 x199004_1 x4_1).f2⟩ : S90)) (k90_mkM _ _ _ (⟨(rd_T90 x199004_1 x4_1).f0, 0, (rd_T90 x199004_1 x4_1).f2⟩ : S90) ge22_2) (fun _ hk => hk)
     have hx22_1 := hcc22 1 _ rfl
     (try simp only [show (k90).sz = 3 from rfl, Nat.mul_one, Nat.add_zero] at hx22_1)
     have hf22_1 := hfr22 1
     (try simp only [show (k90).sz = 3 from rfl, Nat.mul_one, Nat.add_zero] at hf22_1)
     clear hcl22 hcc22 hfr22 hM22
     go_wp2_with (first | ((with_reducible refine gate_store (t := 3) (p := 20) rfl ?_); refine store_event (t := 3) (p := 20) (v := ?vo_w23) (w1 := (wr.setCell ⟨go16, (x4_1 : Int).toNat * 3 + 1, none⟩ (.int .i64 0))) ?hg ?ho ?hn ?hr ?_; (case ho => rfl); (case hg => rfl); (case hn => rfl); (case hr => first | (go_simp; done) | (go_simp; rfl)); intro w23 hw; have hg : wr.grownBy w23 (some go16) := (by rw [hw]; exact HP22.2); have hp_ : Kd.R k90 90 w23 w.heap.size (fun _ => True) (.slice (some ⟨go16, 0, none⟩) x199004_1.length co21) y199 := (by rw [hw, Ny199.out]; exact HP22.1); clear HP22; have n0_ := Aside0.mk (hp_); have n1_ := Aside0.mk (Kd.S_over' (v := (.slice (some ⟨go16, 0, none⟩) x199004_1.length co21)) (by (with_reducible repeat (first | apply Kd.S_alloc | apply Kd.S_drewN | apply Kd.S_drew)); exact HO_199005.out) (Kd.R_typed HO_199004.out) (by decide) hg); have n2_ := Aside0.mk (blk_grown (g := gb186) (o := .cells #[.int .u64 a0_0, .int .u64 a0_1, .int .u64 a0_2, .int .i64 a0_3, .slice A0_4 l0_4.length c0_4, .slice A0_5 l0_5.length c0_5] 31 (0, 0)) (by (with_reducible repeat (first | refine blk_drewN ?_ _ | refine blk_drew ?_ | refine blk_alloc ?_ _)); exact BK186.out) hg (Kd.R_ne HO_199004.out BK186.out (by decide))); have n3_ := Aside0.mk (blk_grown (g := gb187) (o := .cells #[.int .u64 0, .int .u64 0, .int .u64 0, .int .i64 0, .slice none 0 0, .slice none 0 0] 31 (0, 0)) (by (with_reducible repeat (first | refine blk_drewN ?_ _ | refine blk_drew ?_ | refine blk_alloc ?_ _)); exact BK187.out) hg (Kd.R_ne HO_199004.out BK187.out (by decide))); have n4_ := Aside0.mk (blk_grown (g := gb198) (o := .cells #[.int .u64 t188, .int .u64 t189, .int .u64 t190, .int .i64 0, .slice (some ⟨go16, 0, none⟩) x199004_1.length co21, .slice Ao13 t195.length co13] 31 (0, 0)) (by (with_reducible repeat (first | refine blk_drewN ?_ _ | refine blk_drew ?_ | refine blk_alloc ?_ _)); exact BK198.out) hg (Kd.R_ne HO_199004.out BK198.out (by decide))); have n5_ := Aside0.mk ((by rw [hw]; exact below_set (HB.out) GB16.out : Below w.heap.size w w23)); clear HO_199004; clear HO_199005; clear BK186; clear BK187; clear BK198; clear HB; have HO_199004 := n0_; have HO_199005 := n1_; have BK186 := n2_; have BK187 := n3_; have BK198 := n4_; have HB := n5_; clear n0_ n1_ n2_ n3_ n4_ n5_; clear hg hw hp_; have hcz24_0 : w23.cell? ⟨gb198, 0, none⟩ = some (.int .u64 t188) := (blk_cell BK198.out 0).trans rfl; have hcz24_1 : w23.cell? ⟨gb198, 1, none⟩ = some (.int .u64 t189) := (blk_cell BK198.out 1).trans rfl; have hcz24_2 : w23.cell? ⟨gb198, 2, none⟩ = some (.int .u64 t190) := (blk_cell BK198.out 2).trans rfl; have hcz24_3 : w23.cell? ⟨gb198, 3, none⟩ = some (.int .i64 0) := (blk_cell BK198.out 3).trans rfl; have hcz24_4 : w23.cell? ⟨gb198, 4, none⟩ = some (.slice (some ⟨go16, 0, none⟩) x199004_1.length co21) := (blk_cell BK198.out 4).trans rfl; have hcz24_5 : w23.cell? ⟨gb198, 5, none⟩ = some (.slice Ao13 t195.length co13) := (blk_cell BK198.out 5).trans rfl; have hfz24_0 := blk_frozen BK198.out 0; have hfz24_1 := blk_frozen BK198.out 1; have hfz24_2 := blk_frozen BK198.out 2; have hfz24_3 := blk_frozen BK198.out 3; have hfz24_4 := blk_frozen BK198.out 4; have hfz24_5 := blk_frozen BK198.out 5; have p17 : 0 ≤ (x4_1 : Int) := of_decide_eq_true (by first | (with_reducible assumption) | assumption); have q17 : (x4_1 : Int) < ((x199004_1.length : Int) : Int) := of_decide_eq_true (by first | (with_reducible assumption) | assumption); obtain ⟨ce17, hcl17, hM17, hcc17, hfr17⟩ := Kd.R_elem HO_199004.out z90 (x4_1 : Int) p17 q17; obtain ⟨ve17_2, rfl, ge17_2⟩ := k90_openM hM17; have hx17_0 : w23.cell? ⟨go16, (x4_1 : Int).toNat * 3, none⟩ = some (.int .u64 ((rd_T90 y199 x4_1).f0)) := hcc17 0 _ rfl; have hx17_1 : w23.cell? ⟨go16, (x4_1 : Int).toNat * 3 + 1, none⟩ = some (.int .i64 ((rd_T90 y199 x4_1).f1)) := hcc17 1 _ rfl; have hx17_2 : w23.cell? ⟨go16, (x4_1 : Int).toNat * 3 + 2, none⟩ = some (ve17_2) := hcc17 2 _ rfl; have hf17_0 : w23.frozen? ⟨go16, (x4_1 : Int).toNat * 3, none⟩ = false := hfr17 0; have hf17_1 : w23.frozen? ⟨go16, (x4_1 : Int).toNat * 3 + 1, none⟩ = false := hfr17 1; have hf17_2 : w23.frozen? ⟨go16, (x4_1 : Int).toNat * 3 + 2, none⟩ = false := hfr17 2; clear hcl17 hcc17 hfr17 hM17; replace p17 := eq_true p17; replace q17 := eq_true q17; have HX25 := Aside0.mk (show Kd.R k90 90 w23 w.heap.size (fun _ => True) (.slice (some ⟨go16, 0, none⟩) x199004_1.length co21) y199 from (by (with_reducible repeat (first | apply Kd.R_alloc | apply Kd.R_drewN | apply Kd.R_drew)); exact HO_199004.out)); obtain ⟨ce25, hcl25, hM25, hcc25, hfr25⟩ := Kd.R_elem HX25.out z90 (x4_1 : Int) (of_decide_eq_true (by first | (with_reducible assumption) | assumption)) (by have h_ : (x4_1 : Int) < ((x199004_1.length : Int) : Int) := of_decide_eq_true (by first | (with_reducible assumption) | assumption); first | exact h_ | (have e_ := (Kd.R_reads' HO_199004.out).1; omega) | simpa using h_); obtain ⟨ve25_2, rfl, ge25_2⟩ := k90_openM hM25; have HP25 := Kd.R_seg HX25.out (x4_1 : Int) (of_decide_eq_true (by first | (with_reducible assumption) | assumption)) (by have h_ : (x4_1 : Int) < ((x199004_1.length : Int) : Int) := of_decide_eq_true (by first | (with_reducible assumption) | assumption); first | exact h_ | (have e_ := (Kd.R_reads' HO_199004.out).1; omega) | simpa using h_) (seg := [.slice none 0 0]) (j := 2) hcl25 hcc25 (show 3 ≤ 3 from by decide) (x' := (⟨(rd_T90 y199 x4_1).f0, (rd_T90 y199 x4_1).f1, ([] : List (S153))⟩ : S90)) (k90_mkM _ _ _ (⟨(rd_T90 y199 x4_1).f0, (rd_T90 y199 x4_1).f1, ([] : List (S153))⟩ : S90) (Kd.R_nil _ _ _ _ _)) (fun _ hk => hk); have hx25_2 := hcc25 2 _ rfl; (try simp only [show (k90).sz = 3 from rfl, Nat.mul_one, Nat.add_zero] at hx25_2); have hf25_2 := hfr25 2; (try simp only [show (k90).sz = 3 from rfl, Nat.mul_one, Nat.add_zero] at hf25_2); clear hcl25 hcc25 hfr25 hM25) | ((with_reducible refine gate_store (t := 88) (p := 25) rfl ?_); refine store_event (t := 88) (p := 25) (v := ?vo_w26) (w1 := (w23.setCell ⟨go16, (x4_1 : Int).toNat * 3 + 2, none⟩ (.slice none 0 0))) ?hg ?ho ?hn ?hr ?_; (case ho => rfl); (case hg => rfl); (case hn => rfl); (case hr => first | (go_simp; done) | (go_simp; rfl)); intro w26 hw; have hg : w23.grownBy w26 (some go16) := (by rw [hw]; exact HP25.2); have hp_ : Kd.R k90 90 w26 w.heap.size (fun _ => True) (.slice (some ⟨go16, 0, none⟩) x199004_1.length co21) y200 := (by rw [hw, Ny200.out]; exact HP25.1); clear HP25; have n0_ := Aside0.mk (hp_); have n1_ := Aside0.mk (Kd.S_over' (v := (.slice (some ⟨go16, 0, none⟩) x199004_1.length co21)) (by (with_reducible repeat (first | apply Kd.S_alloc | apply Kd.S_drewN | apply Kd.S_drew)); exact HO_199005.out) (Kd.R_typed HO_199004.out) (by decide) hg); have n2_ := Aside0.mk (blk_grown (g := gb186) (o := .cells #[.int .u64 a0_0, .int .u64 a0_1, .int .u64 a0_2, .int .i64 a0_3, .slice A0_4 l0_4.length c0_4, .slice A0_5 l0_5.length c0_5] 31 (0, 0)) (by (with_reducible repeat (first | refine blk_drewN ?_ _ | refine blk_drew ?_ | refine blk_alloc ?_ _)); exact BK186.out) hg (Kd.R_ne HO_199004.out BK186.out (by decide))); have n3_ := Aside0.mk (blk_grown (g := gb187) (o := .cells #[.int .u64 0, .int .u64 0, .int .u64 0, .int .i64 0, .slice none 0 0, .slice none 0 0] 31 (0, 0)) (by (with_reducible repeat (first | refine blk_drewN ?_ _ | refine blk_drew ?_ | refine blk_alloc ?_ _)); exact BK187.out) hg (Kd.R_ne HO_199004.out BK187.out (by decide))); have n4_ := Aside0.mk (blk_grown (g := gb198) (o := .cells #[.int .u64 t188, .int .u64 t189, .int .u64 t190, .int .i64 0, .slice (some ⟨go16, 0, none⟩) x199004_1.length co21, .slice Ao13 t195.length co13] 31 (0, 0)) (by (with_reducible repeat (first | refine blk_drewN ?_ _ | refine blk_drew ?_ | refine blk_alloc ?_ _)); exact BK198.out) hg (Kd.R_ne HO_199004.out BK198.out (by decide))); have n5_ := Aside0.mk ((by rw [hw]; exact below_set (HB.out) GB16.out : Below w.heap.size w w26)); clear HO_199004; clear HO_199005; clear BK186; clear BK187; clear BK198; clear HB; have HO_199004 := n0_; have HO_199005 := n1_; have BK186 := n2_; have BK187 := n3_; have BK198 := n4_; have HB := n5_; clear n0_ n1_ n2_ n3_ n4_ n5_; clear hg hw hp_))
     go_roundg k1
     case measure => have := HK1.out; omega
     case rel => exact ⟨(wrap64 (x4_1 + 1)), (y200), (.slice (some ⟨go16, 0, none⟩) x199004_1.length co21), (by first | rfl | (simp; done) | (simp [*]; done)), H', ⟨by have := HK1.out; omega⟩, ⟨by (with_reducible repeat (first | apply Kd.R_alloc | apply Kd.R_drewN | apply Kd.R_drew)); exact HO_199004.out⟩, ⟨by (with_reducible repeat (first | apply Kd.S_alloc | apply Kd.S_drewN | apply Kd.S_drew)); exact HO_199005.out⟩, ⟨by (with_reducible repeat (first | refine blk_drewN ?_ _ | refine blk_drew ?_ | refine blk_alloc ?_ _)); exact BK186.out⟩, ⟨by (with_reducible repeat (first | refine blk_drewN ?_ _ | refine blk_drew ?_ | refine blk_alloc ?_ _)); exact BK187.out⟩, ⟨by (with_reducible repeat (first | refine blk_drewN ?_ _ | refine blk_drew ?_ | refine blk_alloc ?_ _)); exact BK198.out⟩, ⟨by repeat (first | (with_reducible first | exact HB.out | apply below_alloc | apply pw_below_drewN | apply below_drew1 | refine below_set ?_ GE186.out | refine below_set ?_ GE187.out | refine below_set ?_ GE198.out) | exact HB.out)⟩⟩
    ·
     rw [if_neg c15] at H
     exact absurd H (by simp)
   ·
    rw [if_neg c14] at H
    have c14b0 : decide (x4_1 < (x199004_1.length : Int)) = false := decide_eq_false c14
    clear c14
    have H' := Aside0.mk H
    clear H
    have hnb27 := NB198_186.out
    have hnc27 := NB186_198.out
    have hnb28 := NB198_187.out
    have hnc28 := NB187_198.out
    have hcz29_0 : wr.cell? ⟨gb198, 0, none⟩ = some (.int .u64 t188) := (blk_cell BK198.out 0).trans rfl
    have hcz29_1 : wr.cell? ⟨gb198, 1, none⟩ = some (.int .u64 t189) := (blk_cell BK198.out 1).trans rfl
    have hcz29_2 : wr.cell? ⟨gb198, 2, none⟩ = some (.int .u64 t190) := (blk_cell BK198.out 2).trans rfl
    have hcz29_3 : wr.cell? ⟨gb198, 3, none⟩ = some (.int .i64 0) := (blk_cell BK198.out 3).trans rfl
    have hcz29_4 : wr.cell? ⟨gb198, 4, none⟩ = some (u199004) := (blk_cell BK198.out 4).trans rfl
    have hcz29_5 : wr.cell? ⟨gb198, 5, none⟩ = some (.slice Ao13 t195.length co13) := (blk_cell BK198.out 5).trans rfl
    have hfz29_0 := blk_frozen BK198.out 0
    have hfz29_1 := blk_frozen BK198.out 1
    have hfz29_2 := blk_frozen BK198.out 2
    have hfz29_3 := blk_frozen BK198.out 3
    have hfz29_4 := blk_frozen BK198.out 4
    have hfz29_5 := blk_frozen BK198.out 5
    obtain ⟨Ao30, co30, eo30⟩ := Kd.R_slice HO_199004.out
    subst eo30
    go_wp2
    go_loopg [5] k1 (fun kq v5 w' => ∃ (x5_2 : Int) (x199005_2 : List (S93)) (u199005 : Value), v5 = .int .i64 x5_2 ∧ Aside0 (spec_l3durable.l1 kq x5_2 t188 t189 t190 0 x199004_1 x199005_2 = some (r1, r2, r3, r4, r5, r6)) ∧ Aside0 (kq ≤ k1) ∧ Aside0 (Kd.R k90 90 w' w.heap.size (fun _ => True) (.slice Ao30 x199004_1.length co30) x199004_1) ∧ Aside0 (Kd.S k93 93 w' w.heap.size (fun _ => True) u199005 x199005_2) ∧ Aside0 (w'.heap[gb186]? = some (.cells #[.int .u64 a0_0, .int .u64 a0_1, .int .u64 a0_2, .int .i64 a0_3, (.slice A0_4 l0_4.length c0_4), (.slice A0_5 l0_5.length c0_5)] 31 (0, 0))) ∧ Aside0 (w'.heap[gb187]? = some (.cells #[.int .u64 0, .int .u64 0, .int .u64 0, .int .i64 0, (.slice none 0 0), (.slice none 0 0)] 31 (0, 0))) ∧ Aside0 (w'.heap[gb198]? = some (.cells #[.int .u64 t188, .int .u64 t189, .int .u64 t190, .int .i64 0, (.slice Ao30 x199004_1.length co30), u199005] 31 (0, 0))) ∧ Aside0 (Below w.heap.size w w'))
    case atStart => exact ⟨(0), (t195), (.slice Ao13 t195.length co13), (by first | rfl | (simp; done) | (simp [*]; done)), H', ⟨Nat.le_refl _⟩, ⟨by (with_reducible repeat (first | apply Kd.R_alloc | apply Kd.R_drewN | apply Kd.R_drew)); exact HO_199004.out⟩, ⟨by (with_reducible repeat (first | apply Kd.S_alloc | apply Kd.S_drewN | apply Kd.S_drew)); exact HO_199005.out⟩, ⟨by (with_reducible repeat (first | refine blk_drewN ?_ _ | refine blk_drew ?_ | refine blk_alloc ?_ _)); exact BK186.out⟩, ⟨by (with_reducible repeat (first | refine blk_drewN ?_ _ | refine blk_drew ?_ | refine blk_alloc ?_ _)); exact BK187.out⟩, ⟨by (with_reducible repeat (first | refine blk_drewN ?_ _ | refine blk_drew ?_ | refine blk_alloc ?_ _)); exact BK198.out⟩, ⟨by repeat (first | (with_reducible first | exact HB.out | apply below_alloc | apply pw_below_drewN | apply below_drew1 | refine below_set ?_ GE186.out | refine below_set ?_ GE187.out | refine below_set ?_ GE198.out) | exact HB.out)⟩⟩
    case round =>
     clear H'
     try clear c1
     try clear p1
     try clear q1
     try clear hx1
     try clear hf1
     try clear c2
     try clear p2
     try clear hx2
     try clear hf2
     try clear c4
     try clear c5
     try clear p6
     try clear c7
     try clear c9
     try clear c10
     try clear c14
     try clear c14b0
     try clear c15
     try clear c15b0
     try clear c16
     try clear p16
     try clear q16
     try clear hx16
     try clear hf16
     try clear c17
     try clear p17
     try clear q17
     try clear hx17
     try clear hf17
     try clear c18
     try clear c19
     try clear c22
     try clear hx22
     try clear hf22
     try clear c25
     try clear hx25
     try clear hf25
     try clear c27
     try clear c28
     try clear hcz11_0
     try clear hcz11_1
     try clear hcz11_2
     try clear hcz11_3
     try clear hcz11_4
     try clear hcz11_5
     try clear hcz20_0
     try clear hcz20_1
     try clear hcz20_2
     try clear hcz20_3
     try clear hcz20_4
     try clear hcz20_5
     try clear hcz24_0
     try clear hcz24_1
     try clear hcz24_2
     try clear hcz24_3
     try clear hcz24_4
     try clear hcz24_5
     try clear hcz29_0
     try clear hcz29_1
     try clear hcz29_2
     try clear hcz29_3
     try clear hcz29_4
     try clear hcz29_5
     try clear hcz6_0
     try clear hcz6_1
     try clear hcz6_2
     try clear hcz6_3
     try clear hcz6_4
     try clear hcz6_5
     try clear hfz11_0
     try clear hfz11_1
     try clear hfz11_2
     try clear hfz11_3
     try clear hfz11_4
     try clear hfz11_5
     try clear hfz20_0
     try clear hfz20_1
     try clear hfz20_2
     try clear hfz20_3
     try clear hfz20_4
     try clear hfz20_5
     try clear hfz24_0
     try clear hfz24_1
     try clear hfz24_2
     try clear hfz24_3
     try clear hfz24_4
     try clear hfz24_5
     try clear hfz29_0
     try clear hfz29_1
     try clear hfz29_2
     try clear hfz29_3
     try clear hfz29_4
     try clear hfz29_5
     try clear hfz6_0
     try clear hfz6_1
     try clear hfz6_2
     try clear hfz6_3
     try clear hfz6_4
     try clear hfz6_5
     try clear hx16_0
     try clear hx16_1
     try clear hx16_2
     try clear hx17_0
     try clear hx17_1
     try clear hx17_2
     try clear hx22_1
     try clear hx25_2
     try clear p16
     try clear p17
     try clear p2
     try clear q16
     try clear q17
     obtain ⟨x5_2, x199005_2, u199005, rfl, HA, HK2, HO_199004, HO_199005, BK186, BK187, BK198, HB⟩ := hrel
     cases gk with
     | zero => exact absurd HA.out (by simp [spec_l3durable.l1])
     | succ k2 =>
      have H := HA.out
      clear HA
      simp only [spec_l3durable.l1] at H
      by_cases c31 : x5_2 < (x199005_2.length : Int)
      ·
       rw [if_pos c31] at H
       have c31b0 : decide (x5_2 < (x199005_2.length : Int)) = true := decide_eq_true c31
       clear c31
       by_cases c32 : 0 ≤ x5_2
       ·
        rw [if_pos c32] at H
        have c32b0 : decide (0 ≤ x5_2) = true := decide_eq_true c32
        clear c32
        obtain ⟨y201, hy201⟩ : ∃ y_ : List (S93), y_ = (x199005_2.set (x5_2 : Int).toNat (⟨(rd_T93 x199005_2 x5_2).f0, (rd_T93 x199005_2 x5_2).f1, (rd_T93 x199005_2 x5_2).f2, (rd_T93 x199005_2 x5_2).f3, (rd_T93 x199005_2 x5_2).f4, (rd_T93 x199005_2 x5_2).f5, (rd_T93 x199005_2 x5_2).f6, ([] : List Int)⟩ : S93)) := ⟨_, rfl⟩
        replace H : (spec_l3durable.l1 k2 (wrap64 (x5_2 + 1)) t188 t189 t190 0 x199004_1 y201) = some (r1, r2, r3, r4, r5, r6) := by first | (rw [hy201]; with_reducible exact H) | (have H2_ := (Option.bind_some _ _).symm.trans H; rw [hy201]; with_reducible exact H2_) | (have H2_ := (Option.bind_some _ _).symm.trans H; with_reducible exact H2_) | with_reducible exact H | (rw [hy201]; exact H) | exact H
        have Ny201 := Aside0.mk hy201
        clear hy201
        have H' := Aside0.mk H
        clear H
        have hnb34 := NB198_186.out
        have hnc34 := NB186_198.out
        have hnb35 := NB198_187.out
        have hnc35 := NB187_198.out
        have hcz36_0 : wr.cell? ⟨gb198, 0, none⟩ = some (.int .u64 t188) := (blk_cell BK198.out 0).trans rfl
        have hcz36_1 : wr.cell? ⟨gb198, 1, none⟩ = some (.int .u64 t189) := (blk_cell BK198.out 1).trans rfl
        have hcz36_2 : wr.cell? ⟨gb198, 2, none⟩ = some (.int .u64 t190) := (blk_cell BK198.out 2).trans rfl
        have hcz36_3 : wr.cell? ⟨gb198, 3, none⟩ = some (.int .i64 0) := (blk_cell BK198.out 3).trans rfl
        have hcz36_4 : wr.cell? ⟨gb198, 4, none⟩ = some (.slice Ao30 x199004_1.length co30) := (blk_cell BK198.out 4).trans rfl
        have hcz36_5 : wr.cell? ⟨gb198, 5, none⟩ = some (u199005) := (blk_cell BK198.out 5).trans rfl
        have hfz36_0 := blk_frozen BK198.out 0
        have hfz36_1 := blk_frozen BK198.out 1
        have hfz36_2 := blk_frozen BK198.out 2
        have hfz36_3 := blk_frozen BK198.out 3
        have hfz36_4 := blk_frozen BK198.out 4
        have hfz36_5 := blk_frozen BK198.out 5
        obtain ⟨Ao37, co37, eo37⟩ := Kd.S_slice HO_199005.out
        subst eo37
        have p33 : 0 ≤ (x5_2 : Int) := of_decide_eq_true (by first | (with_reducible assumption) | assumption)
        have q33 : (x5_2 : Int) < ((x199005_2.length : Int) : Int) := of_decide_eq_true (by first | (with_reducible assumption) | assumption)
        obtain ⟨go33, co33, eo33, gb33, gl33, cl33, HG33⟩ := Kd.S_form HO_199005.out (by omega)
        (first | cases eo33 | (injection eo33 with ea_ en_ ec_; (first | subst ea_ | (injection ea_ with ea_; subst ea_)); subst ec_; clear en_))
        have GB33 := Aside0.mk gb33
        have GG33 := Aside0.mk HG33
        clear gb33 gl33 HG33
        obtain ⟨_, ce33, hcl33, hM33, hcc33, hfr33, _, _⟩ := Kd.S_elem HO_199005.out z93 (x5_2 : Int) p33 q33
        obtain ⟨ve33_0, ve33_1, ve33_4, ve33_7, rfl, ge33_0, ge33_1, ge33_4, ge33_7⟩ := k93_openM hM33
        have hx33_0 : wr.cell? ⟨go33, (x5_2 : Int).toNat * 8, none⟩ = some (ve33_0) := hcc33 0 _ rfl
        have hx33_1 : wr.cell? ⟨go33, (x5_2 : Int).toNat * 8 + 1, none⟩ = some (ve33_1) := hcc33 1 _ rfl
        have hx33_2 : wr.cell? ⟨go33, (x5_2 : Int).toNat * 8 + 2, none⟩ = some (.int .u64 ((rd_T93 x199005_2 x5_2).f2)) := hcc33 2 _ rfl
        have hx33_3 : wr.cell? ⟨go33, (x5_2 : Int).toNat * 8 + 3, none⟩ = some (.int .i64 ((rd_T93 x199005_2 x5_2).f3)) := hcc33 3 _ rfl
        have hx33_4 : wr.cell? ⟨go33, (x5_2 : Int).toNat * 8 + 4, none⟩ = some (ve33_4) := hcc33 4 _ rfl
        have hx33_5 : wr.cell? ⟨go33, (x5_2 : Int).toNat * 8 + 5, none⟩ = some (.int .u64 ((rd_T93 x199005_2 x5_2).f5)) := hcc33 5 _ rfl
        have hx33_6 : wr.cell? ⟨go33, (x5_2 : Int).toNat * 8 + 6, none⟩ = some (.int .u64 ((rd_T93 x199005_2 x5_2).f6)) := hcc33 6 _ rfl
        have hx33_7 : wr.cell? ⟨go33, (x5_2 : Int).toNat * 8 + 7, none⟩ = some (ve33_7) := hcc33 7 _ rfl
        have hf33_0 : wr.frozen? ⟨go33, (x5_2 : Int).toNat * 8, none⟩ = false := hfr33 0
        have hf33_1 : wr.frozen? ⟨go33, (x5_2 : Int).toNat * 8 + 1, none⟩ = false := hfr33 1
        have hf33_2 : wr.frozen? ⟨go33, (x5_2 : Int).toNat * 8 + 2, none⟩ = false := hfr33 2
        have hf33_3 : wr.frozen? ⟨go33, (x5_2 : Int).toNat * 8 + 3, none⟩ = false := hfr33 3
        have hf33_4 : wr.frozen? ⟨go33, (x5_2 : Int).toNat * 8 + 4, none⟩ = false := hfr33 4
        have hf33_5 : wr.frozen? ⟨go33, (x5_2 : Int).toNat * 8 + 5, none⟩ = false := hfr33 5
        have hf33_6 : wr.frozen? ⟨go33, (x5_2 : Int).toNat * 8 + 6, none⟩ = false := hfr33 6
        have hf33_7 : wr.frozen? ⟨go33, (x5_2 : Int).toNat * 8 + 7, none⟩ = false := hfr33 7
        clear hcl33 hcc33 hfr33 hM33
        replace p33 := eq_true p33
        replace q33 := eq_true q33
        have HX38 := Aside0.mk (show Kd.S k93 93 wr w.heap.size (fun k_ => ((fun _ => True)) k_ ∧ ¬ ((fun _ => False)) k_) (.slice (some ⟨go33, 0, none⟩) x199005_2.length co37) x199005_2 from (by (with_reducible repeat (first | apply Kd.S_alloc | apply Kd.S_drewN | apply Kd.S_drew)); exact Kd.S_mono HO_199005.out (fun k_ hk => ⟨trivial, fun e_ => e_⟩)))
        obtain ⟨oki38, ce38, hcl38, hM38, hcc38, hfr38, hoki38, hH38⟩ := Kd.S_elem HX38.out z93 (x5_2 : Int) (of_decide_eq_true (by first | (with_reducible assumption) | assumption)) (by have h_ : (x5_2 : Int) < ((x199005_2.length : Int) : Int) := of_decide_eq_true (by first | (with_reducible assumption) | assumption); first | exact h_ | (have e_ := (Kd.S_reads' HO_199005.out).1; omega) | simpa using h_)
        obtain ⟨ve38_0, ve38_1, ve38_4, ve38_7, rfl, ge38_0, ge38_1, ge38_4, ge38_7⟩ := k93_openM hM38
        have HP38 := Kd.S_seg hH38 (of_decide_eq_true (by first | (with_reducible assumption) | assumption)) (by have h_ : (x5_2 : Int) < ((x199005_2.length : Int) : Int) := of_decide_eq_true (by first | (with_reducible assumption) | assumption); first | exact h_ | (have e_ := (Kd.S_reads' HO_199005.out).1; omega) | simpa using h_) (seg := [.slice none 0 0]) (j := 7) (show 8 ≤ 8 from by decide) (x' := (⟨(rd_T93 x199005_2 x5_2).f0, (rd_T93 x199005_2 x5_2).f1, (rd_T93 x199005_2 x5_2).f2, (rd_T93 x199005_2 x5_2).f3, (rd_T93 x199005_2 x5_2).f4, (rd_T93 x199005_2 x5_2).f5, (rd_T93 x199005_2 x5_2).f6, ([] : List Int)⟩ : S93)) (k93_mkM _ _ _ (⟨(rd_T93 x199005_2 x5_2).f0, (rd_T93 x199005_2 x5_2).f1, (rd_T93 x199005_2 x5_2).f2, (rd_T93 x199005_2 x5_2).f3, (rd_T93 x199005_2 x5_2).f4, (rd_T93 x199005_2 x5_2).f5, (rd_T93 x199005_2 x5_2).f6, ([] : List Int)⟩ : S93) (Kd.R_mono ge38_0 (fun _ h_ => Or.inl h_)) (Kd.R_mono ge38_1 (fun _ h_ => Or.inl h_)) (Kd.R_mono ge38_4 (fun _ h_ => Or.inl h_)) (Kd.R_nil _ _ _ _ _)) (fun _ hk => hk) (fun k_ hk_ => hk_.elim)
        have hx38_7 := hcc38 7 _ rfl
        (try simp only [show (k93).sz = 8 from rfl, Nat.mul_one, Nat.add_zero] at hx38_7)
        have hf38_7 := hfr38 7
        (try simp only [show (k93).sz = 8 from rfl, Nat.mul_one, Nat.add_zero] at hf38_7)
        clear hcl38 hcc38 hfr38 hM38 hoki38 hH38
        go_wp2_with (first | ((with_reducible refine gate_store (t := 91) (p := 37) rfl ?_); refine store_event (t := 91) (p := 37) (v := ?vo_w39) (w1 := (wr.setCell ⟨go33, (x5_2 : Int).toNat * 8 + 7, none⟩ (.slice none 0 0))) ?hg ?ho ?hn ?hr ?_; (case ho => rfl); (case hg => rfl); (case hn => rfl); (case hr => first | (go_simp; done) | (go_simp; rfl)); intro w39 hw; have hg : wr.grownBy w39 (some go33) := (by rw [hw]; exact HP38.2); have hp_ : Kd.S k93 93 w39 w.heap.size (fun _ => True) (.slice (some ⟨go33, 0, none⟩) x199005_2.length co37) y201 := (by rw [hw, Ny201.out]; exact HP38.1); clear HP38; have n0_ := Aside0.mk (Kd.R_over' (v := (.slice (some ⟨go33, 0, none⟩) x199005_2.length co37)) (by (with_reducible repeat (first | apply Kd.R_alloc | apply Kd.R_drewN | apply Kd.R_drew)); exact HO_199004.out) (Kd.S_typed HO_199005.out) (by decide) hg); have n1_ := Aside0.mk (hp_); have n2_ := Aside0.mk (blk_grown (g := gb186) (o := .cells #[.int .u64 a0_0, .int .u64 a0_1, .int .u64 a0_2, .int .i64 a0_3, .slice A0_4 l0_4.length c0_4, .slice A0_5 l0_5.length c0_5] 31 (0, 0)) (by (with_reducible repeat (first | refine blk_drewN ?_ _ | refine blk_drew ?_ | refine blk_alloc ?_ _)); exact BK186.out) hg (Kd.S_ne HO_199005.out BK186.out (by decide))); have n3_ := Aside0.mk (blk_grown (g := gb187) (o := .cells #[.int .u64 0, .int .u64 0, .int .u64 0, .int .i64 0, .slice none 0 0, .slice none 0 0] 31 (0, 0)) (by (with_reducible repeat (first | refine blk_drewN ?_ _ | refine blk_drew ?_ | refine blk_alloc ?_ _)); exact BK187.out) hg (Kd.S_ne HO_199005.out BK187.out (by decide))); have n4_ := Aside0.mk (blk_grown (g := gb198) (o := .cells #[.int .u64 t188, .int .u64 t189, .int .u64 t190, .int .i64 0, .slice Ao30 x199004_1.length co30, .slice (some ⟨go33, 0, none⟩) x199005_2.length co37] 31 (0, 0)) (by (with_reducible repeat (first | refine blk_drewN ?_ _ | refine blk_drew ?_ | refine blk_alloc ?_ _)); exact BK198.out) hg (Kd.S_ne HO_199005.out BK198.out (by decide))); have n5_ := Aside0.mk ((by rw [hw]; exact below_set (HB.out) GB33.out : Below w.heap.size w w39)); clear HO_199004; clear HO_199005; clear BK186; clear BK187; clear BK198; clear HB; have HO_199004 := n0_; have HO_199005 := n1_; have BK186 := n2_; have BK187 := n3_; have BK198 := n4_; have HB := n5_; clear n0_ n1_ n2_ n3_ n4_ n5_; clear hg hw hp_))
        go_roundg k2
        case measure => have := HK1.out; have := HK2.out; omega
        case rel => exact ⟨(wrap64 (x5_2 + 1)), (y201), (.slice (some ⟨go33, 0, none⟩) x199005_2.length co37), (by first | rfl | (simp; done) | (simp [*]; done)), H', ⟨by have := HK1.out; have := HK2.out; omega⟩, ⟨by (with_reducible repeat (first | apply Kd.R_alloc | apply Kd.R_drewN | apply Kd.R_drew)); exact HO_199004.out⟩, ⟨by (with_reducible repeat (first | apply Kd.S_alloc | apply Kd.S_drewN | apply Kd.S_drew)); exact HO_199005.out⟩, ⟨by (with_reducible repeat (first | refine blk_drewN ?_ _ | refine blk_drew ?_ | refine blk_alloc ?_ _)); exact BK186.out⟩, ⟨by (with_reducible repeat (first | refine blk_drewN ?_ _ | refine blk_drew ?_ | refine blk_alloc ?_ _)); exact BK187.out⟩, ⟨by (with_reducible repeat (first | refine blk_drewN ?_ _ | refine blk_drew ?_ | refine blk_alloc ?_ _)); exact BK198.out⟩, ⟨by repeat (first | (with_reducible first | exact HB.out | apply below_alloc | apply pw_below_drewN | apply below_drew1 | refine below_set ?_ GE186.out | refine below_set ?_ GE187.out | refine below_set ?_ GE198.out) | exact HB.out)⟩⟩
       ·
        rw [if_neg c32] at H
        exact absurd H (by simp)
      ·
       rw [if_neg c31] at H
       have c31b0 : decide (x5_2 < (x199005_2.length : Int)) = false := decide_eq_false c31
       clear c31
       simp only [Option.some.injEq, Prod.mk.injEq] at H
       obtain ⟨rfl, rfl, rfl, rfl, rfl, rfl⟩ := H
       have hnb40 := NB198_186.out
       have hnc40 := NB186_198.out
       have hnb41 := NB198_187.out
       have hnc41 := NB187_198.out
       have hcz42_0 : wr.cell? ⟨gb198, 0, none⟩ = some (.int .u64 t188) := (blk_cell BK198.out 0).trans rfl
       have hcz42_1 : wr.cell? ⟨gb198, 1, none⟩ = some (.int .u64 t189) := (blk_cell BK198.out 1).trans rfl
       have hcz42_2 : wr.cell? ⟨gb198, 2, none⟩ = some (.int .u64 t190) := (blk_cell BK198.out 2).trans rfl
       have hcz42_3 : wr.cell? ⟨gb198, 3, none⟩ = some (.int .i64 0) := (blk_cell BK198.out 3).trans rfl
       have hcz42_4 : wr.cell? ⟨gb198, 4, none⟩ = some (.slice Ao30 x199004_1.length co30) := (blk_cell BK198.out 4).trans rfl
       have hcz42_5 : wr.cell? ⟨gb198, 5, none⟩ = some (u199005) := (blk_cell BK198.out 5).trans rfl
       have hfz42_0 := blk_frozen BK198.out 0
       have hfz42_1 := blk_frozen BK198.out 1
       have hfz42_2 := blk_frozen BK198.out 2
       have hfz42_3 := blk_frozen BK198.out 3
       have hfz42_4 := blk_frozen BK198.out 4
       have hfz42_5 := blk_frozen BK198.out 5
       obtain ⟨Ao43, co43, eo43⟩ := Kd.S_slice HO_199005.out
       subst eo43
       have hnb44 := NB187_186.out
       have hnc44 := NB186_187.out
       have hcz45_0 : wr.cell? ⟨gb187, 0, none⟩ = some (.int .u64 0) := (blk_cell BK187.out 0).trans rfl
       have hcz45_1 : wr.cell? ⟨gb187, 1, none⟩ = some (.int .u64 0) := (blk_cell BK187.out 1).trans rfl
       have hcz45_2 : wr.cell? ⟨gb187, 2, none⟩ = some (.int .u64 0) := (blk_cell BK187.out 2).trans rfl
       have hcz45_3 : wr.cell? ⟨gb187, 3, none⟩ = some (.int .i64 0) := (blk_cell BK187.out 3).trans rfl
       have hcz45_4 : wr.cell? ⟨gb187, 4, none⟩ = some (.slice none 0 0) := (blk_cell BK187.out 4).trans rfl
       have hcz45_5 : wr.cell? ⟨gb187, 5, none⟩ = some (.slice none 0 0) := (blk_cell BK187.out 5).trans rfl
       have hfz45_0 := blk_frozen BK187.out 0
       have hfz45_1 := blk_frozen BK187.out 1
       have hfz45_2 := blk_frozen BK187.out 2
       have hfz45_3 := blk_frozen BK187.out 3
       have hfz45_4 := blk_frozen BK187.out 4
       have hfz45_5 := blk_frozen BK187.out 5
       go_wp2
       refine bodyPost_ret (results_cell_row rfl _ _ gb187 31 #[.int .u64 t188, .int .u64 t189, .int .u64 t190, .int .i64 0, .slice Ao30 x199004_1.length co30, .slice Ao43 x199005_2.length co43] (0, 0) _ rfl (by (with_reducible repeat (first | refine blk_drewN ?_ _ | refine blk_drew ?_ | refine blk_alloc ?_ _)); refine blk_put (cs := #[.int .u64 t188, .int .u64 t189, .int .u64 t190, .int .i64 0, .slice Ao30 x199004_1.length co30, .slice none 0 0]) ?_ 5 _ rfl; (with_reducible repeat (first | refine blk_drewN ?_ _ | refine blk_drew ?_ | refine blk_alloc ?_ _)); refine blk_put (cs := #[.int .u64 t188, .int .u64 t189, .int .u64 t190, .int .i64 0, .slice none 0 0, .slice none 0 0]) ?_ 4 _ rfl; (with_reducible repeat (first | refine blk_drewN ?_ _ | refine blk_drew ?_ | refine blk_alloc ?_ _)); refine blk_put (cs := #[.int .u64 t188, .int .u64 t189, .int .u64 t190, .int .i64 0, .slice none 0 0, .slice none 0 0]) ?_ 3 _ rfl; (with_reducible repeat (first | refine blk_drewN ?_ _ | refine blk_drew ?_ | refine blk_alloc ?_ _)); refine blk_put (cs := #[.int .u64 t188, .int .u64 t189, .int .u64 0, .int .i64 0, .slice none 0 0, .slice none 0 0]) ?_ 2 _ rfl; (with_reducible repeat (first | refine blk_drewN ?_ _ | refine blk_drew ?_ | refine blk_alloc ?_ _)); refine blk_put (cs := #[.int .u64 t188, .int .u64 0, .int .u64 0, .int .i64 0, .slice none 0 0, .slice none 0 0]) ?_ 1 _ rfl; (with_reducible repeat (first | refine blk_drewN ?_ _ | refine blk_drew ?_ | refine blk_alloc ?_ _)); refine blk_put (cs := #[.int .u64 0, .int .u64 0, .int .u64 0, .int .i64 0, .slice none 0 0, .slice none 0 0]) ?_ 0 _ rfl; (with_reducible repeat (first | refine blk_drewN ?_ _ | refine blk_drew ?_ | refine blk_alloc ?_ _)); exact BK187.out) Tryz.underlying31 rfl (by kernel_rfl)) rfl ?_
       exact ⟨_, _, by first | rfl | (simp [errW_none, errW_some] <;> rfl) | (simp [*, errW_none, errW_some] <;> rfl), by (with_reducible repeat (first | apply Kd.R_alloc | apply Kd.R_drewN | apply Kd.R_drew)); exact Kd.R_mono (Kd.R_far (p := ⟨gb187, 5, none⟩) (Kd.R_far (p := ⟨gb187, 4, none⟩) (Kd.R_far (p := ⟨gb187, 3, none⟩) (Kd.R_far (p := ⟨gb187, 2, none⟩) (Kd.R_far (p := ⟨gb187, 1, none⟩) (Kd.R_far (p := ⟨gb187, 0, none⟩) (Kd.R_types HO_199004.out BK187.out (by decide)) (fun _ hk => hk.2) (.int .u64 t188)) (fun _ hk => hk.2) (.int .u64 t189)) (fun _ hk => hk.2) (.int .u64 t190)) (fun _ hk => hk.2) (.int .i64 0)) (fun _ hk => hk.2) (.slice Ao30 x199004_1.length co30)) (fun _ hk => hk.2) (.slice Ao43 x199005_2.length co43)) (fun _ hk => trivial), by (with_reducible repeat (first | apply Kd.S_alloc | apply Kd.S_drewN | apply Kd.S_drew)); exact Kd.S_mono (Kd.S_far (p := ⟨gb187, 5, none⟩) (Kd.S_far (p := ⟨gb187, 4, none⟩) (Kd.S_far (p := ⟨gb187, 3, none⟩) (Kd.S_far (p := ⟨gb187, 2, none⟩) (Kd.S_far (p := ⟨gb187, 1, none⟩) (Kd.S_far (p := ⟨gb187, 0, none⟩) (Kd.S_types HO_199005.out BK187.out (by decide)) (fun _ hk => hk.2) (.int .u64 t188)) (fun _ hk => hk.2) (.int .u64 t189)) (fun _ hk => hk.2) (.int .u64 t190)) (fun _ hk => hk.2) (.int .i64 0)) (fun _ hk => hk.2) (.slice Ao30 x199004_1.length co30)) (fun _ hk => hk.2) (.slice Ao43 x199005_2.length co43)) (fun _ hk => trivial), by repeat (first | (with_reducible first | exact HB.out | apply below_alloc | apply pw_below_drewN | apply below_drew1 | refine below_set ?_ GE186.out | refine below_set ?_ GE187.out | refine below_set ?_ GE198.out) | exact HB.out)⟩
end
section
attribute [local go_sem] max2_int max_two
set_option linter.unusedVariables false
set_option linter.unusedSimpArgs false
def spec_l5regrace.l0 : Nat → Int → Int → Int → Int → Int → Int → List (S90) → List (S93) → Option (Int × Int × Int × Int × (List (S90)) × (List (S93)))
 | 0, _, _, _, _, _, _, _, _ => none
 | k + 1, x1, x6, x215000, x215001, x215002, x215003, x215004, x215005 => if x6 < (x215004.length : Int) then (if 0 ≤ x6 then (spec_l5regrace.l0 k x1 (wrap64 (x6 + 1)) x215000 x215001 x215002 x215003 (x215004.set (x6 : Int).toNat (⟨(rd_T90 x215004 x6).f0, wrap64 ((wrap64 (x1 + 10)) + 5), (rd_T90 x215004 x6).f2⟩ : S90)) x215005) else (none)) else (some (x215000, x215001, x215002, x215003, x215004, x215005))
def spec_l5regrace.f (k : Nat) (a0_0 : Int) (a0_1 : Int) (a0_2 : Int) (a0_3 : Int) (l0_4 : List (S90)) (l0_5 : List (S93)) (a1 : Int) : Option (Int × Int × Int × Int × (List (S90)) × (List (S93))) := (spec_l3durable.f k a0_0 a0_1 a0_2 a0_3 l0_4 l0_5).bind fun bt204 => (spec_l5regrace.l0 k a1 0 bt204.1 bt204.2.1 bt204.2.2.1 a1 bt204.2.2.2.2.1 bt204.2.2.2.2.2)
set_option maxHeartbeats 8000000 in
set_option maxRecDepth 100000 in
theorem spec_l5regrace.calls (k : Nat) (a0_0 : Int) (a0_1 : Int) (a0_2 : Int) (a0_3 : Int) (A0_4 : Option Addr) (c0_4 : Nat) (l0_4 : List (S90)) (A0_5 : Option Addr) (c0_5 : Nat) (l0_5 : List (S93)) (a1 : Int) (r1 : Int) (r2 : Int) (r3 : Int) (r4 : Int) (r5 : List (S90)) (r6 : List (S93)) (w : World) (hr0_4 : Kd.C k90 w A0_4 l0_4.length l0_4) (hc0_4 : l0_4.length ≤ c0_4) (hr0_5 : Kd.C k93 w A0_5 l0_5.length l0_5) (hc0_5 : l0_5.length ≤ c0_5) (h : spec_l5regrace.f k a0_0 a0_1 a0_2 a0_3 l0_4 l0_5 a1 = some (r1, r2, r3, r4, r5, r6)) :
  Calls Tryz.prog 32 #[.agg #[.int .u64 a0_0, .int .u64 a0_1, .int .u64 a0_2, .int .i64 a0_3, .slice A0_4 l0_4.length c0_4, .slice A0_5 l0_5.length c0_5], .int .i64 a1] w fun e w' => ∃ v4_ v5_ : Value, e = .returned (.agg #[.int .u64 r1, .int .u64 r2, .int .u64 r3, .int .i64 r4, v4_, v5_]) ∧ Kd.R k90 90 w' w.heap.size (fun _ => True) v4_ r5 ∧ Kd.S k93 93 w' w.heap.size (fun _ => True) v5_ r6 ∧ Below w.heap.size w w' := by
 have hu31 := Tryz.underlying31
 have HR0_4 := Aside0.mk hr0_4
 have HC0_4 := Aside0.mk hc0_4
 clear hr0_4 hc0_4
 have HR0_5 := Aside0.mk hr0_5
 have HC0_5 := Aside0.mk hc0_5
 clear hr0_5 hc0_5
 have HB := Aside0.mk (Below.refl w.heap.size w)
 have H : ((spec_l3durable.f k a0_0 a0_1 a0_2 a0_3 l0_4 l0_5).bind fun bt204 => (spec_l5regrace.l0 k a1 0 bt204.1 bt204.2.1 bt204.2.2.1 a1 bt204.2.2.2.2.1 bt204.2.2.2.2.2)) = some (r1, r2, r3, r4, r5, r6) := h
 clear h
 replace H := Option.bind_eq_some_iff.mp H
 obtain ⟨⟨t204, t205, t206, t207, t208, t211⟩, A30, H⟩ := H
 replace H : (spec_l5regrace.l0 k a1 0 t204 t205 t206 a1 t208 t211) = some (r1, r2, r3, r4, r5, r6) := H
 have A3 := Aside0.mk A30
 clear A30
 have H' := Aside0.mk H
 clear H
 go_enter Tryz.func32, Tryz.ntmps32
 go_wp2_with (first | ((with_reducible refine gate_dst (N := 2) rfl ?_); refine box_event ?hg (N := 2) ?hd (cs := #[.int .u64 a0_0, .int .u64 a0_1, .int .u64 a0_2, .int .i64 a0_3, .slice A0_4 l0_4.length c0_4, .slice A0_5 l0_5.length c0_5]) (t := 31) ?hr ?_; (case hd => rfl); (case hg => rfl); (case hr => first | (go_simp; done) | (go_simp; rfl)); intro gb202 hg w4 hbox hb; have n0_ := Aside0.mk (below_step (by repeat (first | (with_reducible first | exact HB.out | apply below_alloc | apply pw_below_drewN | apply below_drew1) | exact HB.out)) hb); have n1_ := Aside0.mk (hbox); have n2_ := Aside0.mk ((by rw [hg]; exact (below_size (by repeat (first | (with_reducible first | exact HB.out | apply below_alloc | apply pw_below_drewN | apply below_drew1) | exact HB.out))) : w.heap.size ≤ gb202)); have n3_ := Aside0.mk ((by rw [hg]; exact (below_size (by repeat (first | (with_reducible first | exact HB.out | apply below_alloc | apply pw_below_drewN | apply below_drew1) | exact HB.out))) : w.heap.size ≤ gb202)); clear HB; have HB := n0_; have BK202 := n1_; have GW202 := n2_; have GE202 := n3_; clear n0_ n1_ n2_ n3_; clear hb hbox hg) | ((with_reducible refine gate_dst (N := 4) rfl ?_); refine box_event ?hg (N := 4) ?hd (cs := #[.int .u64 0, .int .u64 0, .int .u64 0, .int .i64 0, .slice none 0 0, .slice none 0 0]) (t := 31) ?hr ?_; (case hd => rfl); (case hg => rfl); (case hr => first | (go_simp; done) | (go_simp; rfl)); intro gb203 hg w5 hbox hb; have n0_ := Aside0.mk (blk_below (g := gb202) (o := .cells #[.int .u64 a0_0, .int .u64 a0_1, .int .u64 a0_2, .int .i64 a0_3, .slice A0_4 l0_4.length c0_4, .slice A0_5 l0_5.length c0_5] 31 (0, 0)) (by (with_reducible repeat (first | refine blk_drewN ?_ _ | refine blk_drew ?_ | refine blk_alloc ?_ _)); exact BK202.out) hb); have n1_ := Aside0.mk (below_step (by repeat (first | (with_reducible first | exact HB.out | apply below_alloc | apply pw_below_drewN | apply below_drew1 | refine below_set ?_ GE202.out) | exact HB.out)) hb); have n2_ := Aside0.mk (hbox); have n3_ := Aside0.mk ((by rw [hg]; exact (below_size (by repeat (first | (with_reducible first | exact HB.out | apply below_alloc | apply pw_below_drewN | apply below_drew1 | refine below_set ?_ GE202.out) | exact HB.out))) : w.heap.size ≤ gb203)); have n4_ := Aside0.mk ((by rw [hg]; exact (below_size (by repeat (first | (with_reducible first | exact HB.out | apply below_alloc | apply pw_below_drewN | apply below_drew1 | refine below_set ?_ GE202.out) | exact HB.out))) : w.heap.size ≤ gb203)); have n5_ := Aside0.mk ((by rw [hg]; exact Nat.ne_of_lt (blk_lt (g := gb202) (o := .cells #[.int .u64 a0_0, .int .u64 a0_1, .int .u64 a0_2, .int .i64 a0_3, .slice A0_4 l0_4.length c0_4, .slice A0_5 l0_5.length c0_5] 31 (0, 0)) (by (with_reducible repeat (first | refine blk_drewN ?_ _ | refine blk_drew ?_ | refine blk_alloc ?_ _)); exact BK202.out)) : gb202 ≠ gb203)); have n6_ := Aside0.mk ((by rw [hg]; exact Nat.ne_of_gt (blk_lt (g := gb202) (o := .cells #[.int .u64 a0_0, .int .u64 a0_1, .int .u64 a0_2, .int .i64 a0_3, .slice A0_4 l0_4.length c0_4, .slice A0_5 l0_5.length c0_5] 31 (0, 0)) (by (with_reducible repeat (first | refine blk_drewN ?_ _ | refine blk_drew ?_ | refine blk_alloc ?_ _)); exact BK202.out)) : gb203 ≠ gb202)); clear BK202; clear HB; have BK202 := n0_; have HB := n1_; have BK203 := n2_; have GW203 := n3_; have GE203 := n4_; have NB202_203 := n5_; have NB203_202 := n6_; clear n0_ n1_ n2_ n3_ n4_ n5_ n6_; clear hb hbox hg; have hnb6 := NB202_203.out; have hnc6 := NB203_202.out; have hcz7_0 : w5.cell? ⟨gb202, 0, none⟩ = some (.int .u64 a0_0) := (blk_cell BK202.out 0).trans rfl; have hcz7_1 : w5.cell? ⟨gb202, 1, none⟩ = some (.int .u64 a0_1) := (blk_cell BK202.out 1).trans rfl; have hcz7_2 : w5.cell? ⟨gb202, 2, none⟩ = some (.int .u64 a0_2) := (blk_cell BK202.out 2).trans rfl; have hcz7_3 : w5.cell? ⟨gb202, 3, none⟩ = some (.int .i64 a0_3) := (blk_cell BK202.out 3).trans rfl; have hcz7_4 : w5.cell? ⟨gb202, 4, none⟩ = some (.slice A0_4 l0_4.length c0_4) := (blk_cell BK202.out 4).trans rfl; have hcz7_5 : w5.cell? ⟨gb202, 5, none⟩ = some (.slice A0_5 l0_5.length c0_5) := (blk_cell BK202.out 5).trans rfl; have hfz7_0 := blk_frozen BK202.out 0; have hfz7_1 := blk_frozen BK202.out 1; have hfz7_2 := blk_frozen BK202.out 2; have hfz7_3 := blk_frozen BK202.out 3; have hfz7_4 := blk_frozen BK202.out 4; have hfz7_5 := blk_frozen BK202.out 5) | ((with_reducible refine gate_callee (f := 79) rfl ?_); refine goesL_ (some 8) rfl rfl Tryz.func79 (by kernel_rfl) rfl #[.agg #[.int .u64 a0_0, .int .u64 a0_1, .int .u64 a0_2, .int .i64 a0_3, .slice A0_4 l0_4.length c0_4, .slice A0_5 l0_5.length c0_5]] rfl (by (try simp only [List.map_toArray, List.map_cons, List.map_nil]); first | done | rfl | (simp only [List.length_drop, List.length_take]; rfl)) ?_; (with_reducible refine (spec_l3durable.calls k a0_0 a0_1 a0_2 a0_3 _ _ l0_4 _ _ l0_5 t204 t205 t206 t207 t208 t211 _ ?side1 ?side2 ?side3 ?side4 A3.out).mono ?_); (case side1 => repeat (first | exact (Kd.C_below HR0_4.out HB.out) | (with_reducible refine Kd.C_alloc ?_ _) | (with_reducible refine Kd.C_drewN ?_ _) | (with_reducible refine Kd.C_drew ?_))); (case side2 => exact HC0_4.out); (case side3 => repeat (first | exact (Kd.C_below HR0_5.out HB.out) | (with_reducible refine Kd.C_alloc ?_ _) | (with_reducible refine Kd.C_drewN ?_ _) | (with_reducible refine Kd.C_drew ?_))); (case side4 => exact HC0_5.out); rintro e w8 ⟨v209, v212, rfl, ho0, ho1, hb⟩; refine ⟨_, rfl, ?_⟩; have n0_ := Aside0.mk (Kd.R_lower ho0 (below_size (by repeat (first | (with_reducible first | exact HB.out | apply below_alloc | apply pw_below_drewN | apply below_drew1 | refine below_set ?_ GE202.out | refine below_set ?_ GE203.out) | exact HB.out)))); have n1_ := Aside0.mk (Kd.S_lower ho1 (below_size (by repeat (first | (with_reducible first | exact HB.out | apply below_alloc | apply pw_below_drewN | apply below_drew1 | refine below_set ?_ GE202.out | refine below_set ?_ GE203.out) | exact HB.out)))); have n2_ := Aside0.mk (blk_below (g := gb202) (o := .cells #[.int .u64 a0_0, .int .u64 a0_1, .int .u64 a0_2, .int .i64 a0_3, .slice A0_4 l0_4.length c0_4, .slice A0_5 l0_5.length c0_5] 31 (0, 0)) (by (with_reducible repeat (first | refine blk_drewN ?_ _ | refine blk_drew ?_ | refine blk_alloc ?_ _)); exact BK202.out) hb); have n3_ := Aside0.mk (blk_below (g := gb203) (o := .cells #[.int .u64 0, .int .u64 0, .int .u64 0, .int .i64 0, .slice none 0 0, .slice none 0 0] 31 (0, 0)) (by (with_reducible repeat (first | refine blk_drewN ?_ _ | refine blk_drew ?_ | refine blk_alloc ?_ _)); exact BK203.out) hb); have n4_ := Aside0.mk (below_step (by repeat (first | (with_reducible first | exact HB.out | apply below_alloc | apply pw_below_drewN | apply below_drew1 | refine below_set ?_ GE202.out | refine below_set ?_ GE203.out) | exact HB.out)) hb); clear BK202; clear BK203; clear HB; have HO210 := n0_; have HO213 := n1_; have BK202 := n2_; have BK203 := n3_; have HB := n4_; clear n0_ n1_ n2_ n3_ n4_; (try clear hb); (try clear hb2); (try clear hk); (try clear hi); (try clear ho0); (try clear ho1)) | ((with_reducible refine gate_dst (N := 5) rfl ?_); refine box_event ?hg (N := 5) ?hd (cs := #[.int .u64 0, .int .u64 0, .int .u64 0, .int .i64 0, .slice none 0 0, .slice none 0 0]) (t := 31) ?hr ?_; (case hd => rfl); (case hg => rfl); (case hr => first | (go_simp; done) | (go_simp; rfl)); intro gb214 hg w9 hbox hb; have n0_ := Aside0.mk (Kd.R_below (by (with_reducible repeat (first | apply Kd.R_alloc | apply Kd.R_drewN | apply Kd.R_drew)); exact HO210.out) hb); have n1_ := Aside0.mk (Kd.S_below (by (with_reducible repeat (first | apply Kd.S_alloc | apply Kd.S_drewN | apply Kd.S_drew)); exact HO213.out) hb); have n2_ := Aside0.mk (blk_below (g := gb202) (o := .cells #[.int .u64 a0_0, .int .u64 a0_1, .int .u64 a0_2, .int .i64 a0_3, .slice A0_4 l0_4.length c0_4, .slice A0_5 l0_5.length c0_5] 31 (0, 0)) (by (with_reducible repeat (first | refine blk_drewN ?_ _ | refine blk_drew ?_ | refine blk_alloc ?_ _)); exact BK202.out) hb); have n3_ := Aside0.mk (blk_below (g := gb203) (o := .cells #[.int .u64 0, .int .u64 0, .int .u64 0, .int .i64 0, .slice none 0 0, .slice none 0 0] 31 (0, 0)) (by (with_reducible repeat (first | refine blk_drewN ?_ _ | refine blk_drew ?_ | refine blk_alloc ?_ _)); exact BK203.out) hb); have n4_ := Aside0.mk (below_step (by repeat (first | (with_reducible first | exact HB.out | apply below_alloc | apply pw_below_drewN | apply below_drew1 | refine below_set ?_ GE202.out | refine below_set ?_ GE203.out) | exact HB.out)) hb); have n5_ := Aside0.mk (hbox); have n6_ := Aside0.mk ((by rw [hg]; exact (below_size (by repeat (first | (with_reducible first | exact HB.out | apply below_alloc | apply pw_below_drewN | apply below_drew1 | refine below_set ?_ GE202.out | refine below_set ?_ GE203.out) | exact HB.out))) : w.heap.size ≤ gb214)); have n7_ := Aside0.mk ((by rw [hg]; exact (below_size (by repeat (first | (with_reducible first | exact HB.out | apply below_alloc | apply pw_below_drewN | apply below_drew1 | refine below_set ?_ GE202.out | refine below_set ?_ GE203.out) | exact HB.out))) : w.heap.size ≤ gb214)); have n8_ := Aside0.mk ((by rw [hg]; exact Nat.ne_of_lt (blk_lt (g := gb202) (o := .cells #[.int .u64 a0_0, .int .u64 a0_1, .int .u64 a0_2, .int .i64 a0_3, .slice A0_4 l0_4.length c0_4, .slice A0_5 l0_5.length c0_5] 31 (0, 0)) (by (with_reducible repeat (first | refine blk_drewN ?_ _ | refine blk_drew ?_ | refine blk_alloc ?_ _)); exact BK202.out)) : gb202 ≠ gb214)); have n9_ := Aside0.mk ((by rw [hg]; exact Nat.ne_of_gt (blk_lt (g := gb202) (o := .cells #[.int .u64 a0_0, .int .u64 a0_1, .int .u64 a0_2, .int .i64 a0_3, .slice A0_4 l0_4.length c0_4, .slice A0_5 l0_5.length c0_5] 31 (0, 0)) (by (with_reducible repeat (first | refine blk_drewN ?_ _ | refine blk_drew ?_ | refine blk_alloc ?_ _)); exact BK202.out)) : gb214 ≠ gb202)); have n10_ := Aside0.mk ((by rw [hg]; exact Nat.ne_of_lt (blk_lt (g := gb203) (o := .cells #[.int .u64 0, .int .u64 0, .int .u64 0, .int .i64 0, .slice none 0 0, .slice none 0 0] 31 (0, 0)) (by (with_reducible repeat (first | refine blk_drewN ?_ _ | refine blk_drew ?_ | refine blk_alloc ?_ _)); exact BK203.out)) : gb203 ≠ gb214)); have n11_ := Aside0.mk ((by rw [hg]; exact Nat.ne_of_gt (blk_lt (g := gb203) (o := .cells #[.int .u64 0, .int .u64 0, .int .u64 0, .int .i64 0, .slice none 0 0, .slice none 0 0] 31 (0, 0)) (by (with_reducible repeat (first | refine blk_drewN ?_ _ | refine blk_drew ?_ | refine blk_alloc ?_ _)); exact BK203.out)) : gb214 ≠ gb203)); clear HO210; clear HO213; clear BK202; clear BK203; clear HB; have HO210 := n0_; have HO213 := n1_; have BK202 := n2_; have BK203 := n3_; have HB := n4_; have BK214 := n5_; have GW214 := n6_; have GE214 := n7_; have NB202_214 := n8_; have NB214_202 := n9_; have NB203_214 := n10_; have NB214_203 := n11_; clear n0_ n1_ n2_ n3_ n4_ n5_ n6_ n7_ n8_ n9_ n10_ n11_; clear hb hbox hg; have hnb10 := NB214_202.out; have hnc10 := NB202_214.out; have hnb11 := NB214_203.out; have hnc11 := NB203_214.out; have hcz12_0 : w9.cell? ⟨gb214, 0, none⟩ = some (.int .u64 0) := (blk_cell BK214.out 0).trans rfl; have hcz12_1 : w9.cell? ⟨gb214, 1, none⟩ = some (.int .u64 0) := (blk_cell BK214.out 1).trans rfl; have hcz12_2 : w9.cell? ⟨gb214, 2, none⟩ = some (.int .u64 0) := (blk_cell BK214.out 2).trans rfl; have hcz12_3 : w9.cell? ⟨gb214, 3, none⟩ = some (.int .i64 0) := (blk_cell BK214.out 3).trans rfl; have hcz12_4 : w9.cell? ⟨gb214, 4, none⟩ = some (.slice none 0 0) := (blk_cell BK214.out 4).trans rfl; have hcz12_5 : w9.cell? ⟨gb214, 5, none⟩ = some (.slice none 0 0) := (blk_cell BK214.out 5).trans rfl; have hfz12_0 := blk_frozen BK214.out 0; have hfz12_1 := blk_frozen BK214.out 1; have hfz12_2 := blk_frozen BK214.out 2; have hfz12_3 := blk_frozen BK214.out 3; have hfz12_4 := blk_frozen BK214.out 4; have hfz12_5 := blk_frozen BK214.out 5; obtain ⟨Ao13, co13, eo13⟩ := Kd.R_slice HO210.out; subst eo13; obtain ⟨Ao14, co14, eo14⟩ := Kd.S_slice HO213.out; subst eo14))
 go_loopg [6] k (fun kq v6 w' => ∃ (x6_1 : Int) (x215004_1 : List (S90)) (u215004 : Value), v6 = .int .i64 x6_1 ∧ Aside0 (spec_l5regrace.l0 kq a1 x6_1 t204 t205 t206 a1 x215004_1 t211 = some (r1, r2, r3, r4, r5, r6)) ∧ Aside0 (kq ≤ k) ∧ Aside0 (Kd.R k90 90 w' w.heap.size (fun _ => True) u215004 x215004_1) ∧ Aside0 (Kd.S k93 93 w' w.heap.size (fun _ => True) (.slice Ao14 t211.length co14) t211) ∧ Aside0 (w'.heap[gb202]? = some (.cells #[.int .u64 a0_0, .int .u64 a0_1, .int .u64 a0_2, .int .i64 a0_3, (.slice A0_4 l0_4.length c0_4), (.slice A0_5 l0_5.length c0_5)] 31 (0, 0))) ∧ Aside0 (w'.heap[gb203]? = some (.cells #[.int .u64 0, .int .u64 0, .int .u64 0, .int .i64 0, (.slice none 0 0), (.slice none 0 0)] 31 (0, 0))) ∧ Aside0 (w'.heap[gb214]? = some (.cells #[.int .u64 t204, .int .u64 t205, .int .u64 t206, .int .i64 a1, u215004, (.slice Ao14 t211.length co14)] 31 (0, 0))) ∧ Aside0 (Below w.heap.size w w'))
 case atStart => exact ⟨(0), (t208), (.slice Ao13 t208.length co13), (by first | rfl | (simp; done) | (simp [*]; done)), H', ⟨Nat.le_refl _⟩, ⟨by (with_reducible repeat (first | apply Kd.R_alloc | apply Kd.R_drewN | apply Kd.R_drew)); exact Kd.R_mono (Kd.R_far (p := ⟨gb214, 3, none⟩) (Kd.R_far (p := ⟨gb214, 5, none⟩) (Kd.R_far (p := ⟨gb214, 4, none⟩) (Kd.R_far (p := ⟨gb214, 3, none⟩) (Kd.R_far (p := ⟨gb214, 2, none⟩) (Kd.R_far (p := ⟨gb214, 1, none⟩) (Kd.R_far (p := ⟨gb214, 0, none⟩) (Kd.R_types HO210.out BK214.out (by decide)) (fun _ hk => hk.2) (.int .u64 t204)) (fun _ hk => hk.2) (.int .u64 t205)) (fun _ hk => hk.2) (.int .u64 t206)) (fun _ hk => hk.2) (.int .i64 t207)) (fun _ hk => hk.2) (.slice Ao13 t208.length co13)) (fun _ hk => hk.2) (.slice Ao14 t211.length co14)) (fun _ hk => hk.2) (.int .i64 a1)) (fun _ hk => trivial)⟩, ⟨by (with_reducible repeat (first | apply Kd.S_alloc | apply Kd.S_drewN | apply Kd.S_drew)); exact Kd.S_mono (Kd.S_far (p := ⟨gb214, 3, none⟩) (Kd.S_far (p := ⟨gb214, 5, none⟩) (Kd.S_far (p := ⟨gb214, 4, none⟩) (Kd.S_far (p := ⟨gb214, 3, none⟩) (Kd.S_far (p := ⟨gb214, 2, none⟩) (Kd.S_far (p := ⟨gb214, 1, none⟩) (Kd.S_far (p := ⟨gb214, 0, none⟩) (Kd.S_types HO213.out BK214.out (by decide)) (fun _ hk => hk.2) (.int .u64 t204)) (fun _ hk => hk.2) (.int .u64 t205)) (fun _ hk => hk.2) (.int .u64 t206)) (fun _ hk => hk.2) (.int .i64 t207)) (fun _ hk => hk.2) (.slice Ao13 t208.length co13)) (fun _ hk => hk.2) (.slice Ao14 t211.length co14)) (fun _ hk => hk.2) (.int .i64 a1)) (fun _ hk => trivial)⟩, ⟨by (with_reducible repeat (first | refine blk_drewN ?_ _ | refine blk_drew ?_ | refine blk_alloc ?_ _)); refine blk_far ?_ NB202_214.out _; (with_reducible repeat (first | refine blk_drewN ?_ _ | refine blk_drew ?_ | refine blk_alloc ?_ _)); refine blk_far ?_ NB202_214.out _; (with_reducible repeat (first | refine blk_drewN ?_ _ | refine blk_drew ?_ | refine blk_alloc ?_ _)); refine blk_far ?_ NB202_214.out _; (with_reducible repeat (first | refine blk_drewN ?_ _ | refine blk_drew ?_ | refine blk_alloc ?_ _)); refine blk_far ?_ NB202_214.out _; (with_reducible repeat (first | refine blk_drewN ?_ _ | refine blk_drew ?_ | refine blk_alloc ?_ _)); refine blk_far ?_ NB202_214.out _; (with_reducible repeat (first | refine blk_drewN ?_ _ | refine blk_drew ?_ | refine blk_alloc ?_ _)); refine blk_far ?_ NB202_214.out _; (with_reducible repeat (first | refine blk_drewN ?_ _ | refine blk_drew ?_ | refine blk_alloc ?_ _)); refine blk_far ?_ NB202_214.out _; (with_reducible repeat (first | refine blk_drewN ?_ _ | refine blk_drew ?_ | refine blk_alloc ?_ _)); exact BK202.out⟩, ⟨by (with_reducible repeat (first | refine blk_drewN ?_ _ | refine blk_drew ?_ | refine blk_alloc ?_ _)); refine blk_far ?_ NB203_214.out _; (with_reducible repeat (first | refine blk_drewN ?_ _ | refine blk_drew ?_ | refine blk_alloc ?_ _)); refine blk_far ?_ NB203_214.out _; (with_reducible repeat (first | refine blk_drewN ?_ _ | refine blk_drew ?_ | refine blk_alloc ?_ _)); refine blk_far ?_ NB203_214.out _; (with_reducible repeat (first | refine blk_drewN ?_ _ | refine blk_drew ?_ | refine blk_alloc ?_ _)); refine blk_far ?_ NB203_214.out _; (with_reducible repeat (first | refine blk_drewN ?_ _ | refine blk_drew ?_ | refine blk_alloc ?_ _)); refine blk_far ?_ NB203_214.out _; (with_reducible repeat (first | refine blk_drewN ?_ _ | refine blk_drew ?_ | refine blk_alloc ?_ _)); refine blk_far ?_ NB203_214.out _; (with_reducible repeat (first | refine blk_drewN ?_ _ | refine blk_drew ?_ | refine blk_alloc ?_ _)); refine blk_far ?_ NB203_214.out _; (with_reducible repeat (first | refine blk_drewN ?_ _ | refine blk_drew ?_ | refine blk_alloc ?_ _)); exact BK203.out⟩, ⟨by (with_reducible repeat (first | refine blk_drewN ?_ _ | refine blk_drew ?_ | refine blk_alloc ?_ _)); refine blk_put (cs := #[.int .u64 t204, .int .u64 t205, .int .u64 t206, .int .i64 t207, .slice Ao13 t208.length co13, .slice Ao14 t211.length co14]) ?_ 3 _ rfl; (with_reducible repeat (first | refine blk_drewN ?_ _ | refine blk_drew ?_ | refine blk_alloc ?_ _)); refine blk_put (cs := #[.int .u64 t204, .int .u64 t205, .int .u64 t206, .int .i64 t207, .slice Ao13 t208.length co13, .slice none 0 0]) ?_ 5 _ rfl; (with_reducible repeat (first | refine blk_drewN ?_ _ | refine blk_drew ?_ | refine blk_alloc ?_ _)); refine blk_put (cs := #[.int .u64 t204, .int .u64 t205, .int .u64 t206, .int .i64 t207, .slice none 0 0, .slice none 0 0]) ?_ 4 _ rfl; (with_reducible repeat (first | refine blk_drewN ?_ _ | refine blk_drew ?_ | refine blk_alloc ?_ _)); refine blk_put (cs := #[.int .u64 t204, .int .u64 t205, .int .u64 t206, .int .i64 0, .slice none 0 0, .slice none 0 0]) ?_ 3 _ rfl; (with_reducible repeat (first | refine blk_drewN ?_ _ | refine blk_drew ?_ | refine blk_alloc ?_ _)); refine blk_put (cs := #[.int .u64 t204, .int .u64 t205, .int .u64 0, .int .i64 0, .slice none 0 0, .slice none 0 0]) ?_ 2 _ rfl; (with_reducible repeat (first | refine blk_drewN ?_ _ | refine blk_drew ?_ | refine blk_alloc ?_ _)); refine blk_put (cs := #[.int .u64 t204, .int .u64 0, .int .u64 0, .int .i64 0, .slice none 0 0, .slice none 0 0]) ?_ 1 _ rfl; (with_reducible repeat (first | refine blk_drewN ?_ _ | refine blk_drew ?_ | refine blk_alloc ?_ _)); refine blk_put (cs := #[.int .u64 0, .int .u64 0, .int .u64 0, .int .i64 0, .slice none 0 0, .slice none 0 0]) ?_ 0 _ rfl; (with_reducible repeat (first | refine blk_drewN ?_ _ | refine blk_drew ?_ | refine blk_alloc ?_ _)); exact BK214.out⟩, ⟨by repeat (first | (with_reducible first | exact HB.out | apply below_alloc | apply pw_below_drewN | apply below_drew1 | refine below_set ?_ GE202.out | refine below_set ?_ GE203.out | refine below_set ?_ GE214.out) | exact HB.out)⟩⟩
 case round =>
  clear H'
  try clear c1
  try clear p2
  try clear c3
  try clear c6
  try clear c7
  try clear c10
  try clear c11
  try clear hcz12_0
  try clear hcz12_1
  try clear hcz12_2
  try clear hcz12_3
  try clear hcz12_4
  try clear hcz12_5
  try clear hcz7_0
  try clear hcz7_1
  try clear hcz7_2
  try clear hcz7_3
  try clear hcz7_4
  try clear hcz7_5
  try clear hfz12_0
  try clear hfz12_1
  try clear hfz12_2
  try clear hfz12_3
  try clear hfz12_4
  try clear hfz12_5
  try clear hfz7_0
  try clear hfz7_1
  try clear hfz7_2
  try clear hfz7_3
  try clear hfz7_4
  try clear hfz7_5
  obtain ⟨x6_1, x215004_1, u215004, rfl, HA, HK1, HO_215004, HO_215005, BK202, BK203, BK214, HB⟩ := hrel
  cases gk with
  | zero => exact absurd HA.out (by simp [spec_l5regrace.l0])
  | succ k1 =>
   have H := HA.out
   clear HA
   simp only [spec_l5regrace.l0] at H
   by_cases c15 : x6_1 < (x215004_1.length : Int)
   ·
    rw [if_pos c15] at H
    have c15b0 : decide (x6_1 < (x215004_1.length : Int)) = true := decide_eq_true c15
    clear c15
    by_cases c16 : 0 ≤ x6_1
    ·
     rw [if_pos c16] at H
     have c16b0 : decide (0 ≤ x6_1) = true := decide_eq_true c16
     clear c16
     obtain ⟨y215, hy215⟩ : ∃ y_ : List (S90), y_ = (x215004_1.set (x6_1 : Int).toNat (⟨(rd_T90 x215004_1 x6_1).f0, wrap64 ((wrap64 (a1 + 10)) + 5), (rd_T90 x215004_1 x6_1).f2⟩ : S90)) := ⟨_, rfl⟩
     replace H : (spec_l5regrace.l0 k1 a1 (wrap64 (x6_1 + 1)) t204 t205 t206 a1 y215 t211) = some (r1, r2, r3, r4, r5, r6) := by first | (rw [hy215]; with_reducible exact H) | (have H2_ := (Option.bind_some _ _).symm.trans H; rw [hy215]; with_reducible exact H2_) | (have H2_ := (Option.bind_some _ _).symm.trans H; with_reducible exact H2_) | with_reducible exact H | (rw [hy215]; exact H) | exact H
     have Ny215 := Aside0.mk hy215
     clear hy215
     have H' := Aside0.mk H
     clear H
     have hnb18 := NB214_202.out
     have hnc18 := NB202_214.out
     have hnb19 := NB214_203.out
     have hnc19 := NB203_214.out
     have hcz20_0 : wr.cell? ⟨gb214, 0, none⟩ = some (.int .u64 t204) := (blk_cell BK214.out 0).trans rfl
     have hcz20_1 : wr.cell? ⟨gb214, 1, none⟩ = some (.int .u64 t205) := (blk_cell BK214.out 1).trans rfl
     have hcz20_2 : wr.cell? ⟨gb214, 2, none⟩ = some (.int .u64 t206) := (blk_cell BK214.out 2).trans rfl
     have hcz20_3 : wr.cell? ⟨gb214, 3, none⟩ = some (.int .i64 a1) := (blk_cell BK214.out 3).trans rfl
     have hcz20_4 : wr.cell? ⟨gb214, 4, none⟩ = some (u215004) := (blk_cell BK214.out 4).trans rfl
     have hcz20_5 : wr.cell? ⟨gb214, 5, none⟩ = some (.slice Ao14 t211.length co14) := (blk_cell BK214.out 5).trans rfl
     have hfz20_0 := blk_frozen BK214.out 0
     have hfz20_1 := blk_frozen BK214.out 1
     have hfz20_2 := blk_frozen BK214.out 2
     have hfz20_3 := blk_frozen BK214.out 3
     have hfz20_4 := blk_frozen BK214.out 4
     have hfz20_5 := blk_frozen BK214.out 5
     obtain ⟨Ao21, co21, eo21⟩ := Kd.R_slice HO_215004.out
     subst eo21
     have p17 : 0 ≤ (x6_1 : Int) := of_decide_eq_true (by first | (with_reducible assumption) | assumption)
     have q17 : (x6_1 : Int) < ((x215004_1.length : Int) : Int) := of_decide_eq_true (by first | (with_reducible assumption) | assumption)
     obtain ⟨go17, co17, eo17, gb17, gl17, cl17, HG17⟩ := Kd.R_form HO_215004.out (by omega)
     (first | cases eo17 | (injection eo17 with ea_ en_ ec_; (first | subst ea_ | (injection ea_ with ea_; subst ea_)); subst ec_; clear en_))
     have GB17 := Aside0.mk gb17
     have GG17 := Aside0.mk HG17
     clear gb17 gl17 HG17
     obtain ⟨ce17, hcl17, hM17, hcc17, hfr17⟩ := Kd.R_elem HO_215004.out z90 (x6_1 : Int) p17 q17
     obtain ⟨ve17_2, rfl, ge17_2⟩ := k90_openM hM17
     have hx17_0 : wr.cell? ⟨go17, (x6_1 : Int).toNat * 3, none⟩ = some (.int .u64 ((rd_T90 x215004_1 x6_1).f0)) := hcc17 0 _ rfl
     have hx17_1 : wr.cell? ⟨go17, (x6_1 : Int).toNat * 3 + 1, none⟩ = some (.int .i64 ((rd_T90 x215004_1 x6_1).f1)) := hcc17 1 _ rfl
     have hx17_2 : wr.cell? ⟨go17, (x6_1 : Int).toNat * 3 + 2, none⟩ = some (ve17_2) := hcc17 2 _ rfl
     have hf17_0 : wr.frozen? ⟨go17, (x6_1 : Int).toNat * 3, none⟩ = false := hfr17 0
     have hf17_1 : wr.frozen? ⟨go17, (x6_1 : Int).toNat * 3 + 1, none⟩ = false := hfr17 1
     have hf17_2 : wr.frozen? ⟨go17, (x6_1 : Int).toNat * 3 + 2, none⟩ = false := hfr17 2
     clear hcl17 hcc17 hfr17 hM17
     replace p17 := eq_true p17
     replace q17 := eq_true q17
     have HX22 := Aside0.mk (show Kd.R k90 90 wr w.heap.size (fun _ => True) (.slice (some ⟨go17, 0, none⟩) x215004_1.length co21) x215004_1 from (by (with_reducible repeat (first | apply Kd.R_alloc | apply Kd.R_drewN | apply Kd.R_drew)); exact HO_215004.out))
     obtain ⟨ce22, hcl22, hM22, hcc22, hfr22⟩ := Kd.R_elem HX22.out z90 (x6_1 : Int) (of_decide_eq_true (by first | (with_reducible assumption) | assumption)) (by have h_ : (x6_1 : Int) < ((x215004_1.length : Int) : Int) := of_decide_eq_true (by first | (with_reducible assumption) | assumption); first | exact h_ | (have e_ := (Kd.R_reads' HO_215004.out).1; omega) | simpa using h_)
     obtain ⟨ve22_2, rfl, ge22_2⟩ := k90_openM hM22
     have HP22 := Kd.R_seg HX22.out (x6_1 : Int) (of_decide_eq_true (by first | (with_reducible assumption) | assumption)) (by have h_ : (x6_1 : Int) < ((x215004_1.length : Int) : Int) := of_decide_eq_true (by first | (with_reducible assumption) | assumption); first | exact h_ | (have e_ := (Kd.R_reads' HO_215004.out).1; omega) | simpa using h_) (seg := [.int .i64 (wrap64 ((wrap64 (a1 + 10)) + 5))]) (j := 1) hcl22 hcc22 (show 2 ≤ 3 from by decide) (x' := (⟨(rd_T90 x215004_1 x6_1).f0, wrap64 ((wrap64 (a1 + 10)) + 5), (rd_T90 x215004_1 x6_1).f2⟩ : S90)) (k90_mkM _ _ _ (⟨(rd_T90 x215004_1 x6_1).f0, wrap64 ((wrap64 (a1 + 10)) + 5), (rd_T90 x215004_1 x6_1).f2⟩ : S90) ge22_2) (fun _ hk => hk)
     have hx22_1 := hcc22 1 _ rfl
     (try simp only [show (k90).sz = 3 from rfl, Nat.mul_one, Nat.add_zero] at hx22_1)
     have hf22_1 := hfr22 1
     (try simp only [show (k90).sz = 3 from rfl, Nat.mul_one, Nat.add_zero] at hf22_1)
     clear hcl22 hcc22 hfr22 hM22
     go_wp2_with (first | ((with_reducible refine gate_store (t := 3) (p := 25) rfl ?_); refine store_event (t := 3) (p := 25) (v := ?vo_w23) (w1 := (wr.setCell ⟨go17, (x6_1 : Int).toNat * 3 + 1, none⟩ (.int .i64 (wrap64 ((wrap64 (a1 + 10)) + 5))))) ?hg ?ho ?hn ?hr ?_; (case ho => rfl); (case hg => rfl); (case hn => rfl); (case hr => first | (go_simp; done) | (go_simp; rfl)); intro w23 hw; have hg : wr.grownBy w23 (some go17) := (by rw [hw]; exact HP22.2); have hp_ : Kd.R k90 90 w23 w.heap.size (fun _ => True) (.slice (some ⟨go17, 0, none⟩) x215004_1.length co21) y215 := (by rw [hw, Ny215.out]; exact HP22.1); clear HP22; have n0_ := Aside0.mk (hp_); have n1_ := Aside0.mk (Kd.S_over' (v := (.slice (some ⟨go17, 0, none⟩) x215004_1.length co21)) (by (with_reducible repeat (first | apply Kd.S_alloc | apply Kd.S_drewN | apply Kd.S_drew)); exact HO_215005.out) (Kd.R_typed HO_215004.out) (by decide) hg); have n2_ := Aside0.mk (blk_grown (g := gb202) (o := .cells #[.int .u64 a0_0, .int .u64 a0_1, .int .u64 a0_2, .int .i64 a0_3, .slice A0_4 l0_4.length c0_4, .slice A0_5 l0_5.length c0_5] 31 (0, 0)) (by (with_reducible repeat (first | refine blk_drewN ?_ _ | refine blk_drew ?_ | refine blk_alloc ?_ _)); exact BK202.out) hg (Kd.R_ne HO_215004.out BK202.out (by decide))); have n3_ := Aside0.mk (blk_grown (g := gb203) (o := .cells #[.int .u64 0, .int .u64 0, .int .u64 0, .int .i64 0, .slice none 0 0, .slice none 0 0] 31 (0, 0)) (by (with_reducible repeat (first | refine blk_drewN ?_ _ | refine blk_drew ?_ | refine blk_alloc ?_ _)); exact BK203.out) hg (Kd.R_ne HO_215004.out BK203.out (by decide))); have n4_ := Aside0.mk (blk_grown (g := gb214) (o := .cells #[.int .u64 t204, .int .u64 t205, .int .u64 t206, .int .i64 a1, .slice (some ⟨go17, 0, none⟩) x215004_1.length co21, .slice Ao14 t211.length co14] 31 (0, 0)) (by (with_reducible repeat (first | refine blk_drewN ?_ _ | refine blk_drew ?_ | refine blk_alloc ?_ _)); exact BK214.out) hg (Kd.R_ne HO_215004.out BK214.out (by decide))); have n5_ := Aside0.mk ((by rw [hw]; exact below_set (HB.out) GB17.out : Below w.heap.size w w23)); clear HO_215004; clear HO_215005; clear BK202; clear BK203; clear BK214; clear HB; have HO_215004 := n0_; have HO_215005 := n1_; have BK202 := n2_; have BK203 := n3_; have BK214 := n4_; have HB := n5_; clear n0_ n1_ n2_ n3_ n4_ n5_; clear hg hw hp_))
     go_roundg k1
     case measure => have := HK1.out; omega
     case rel => exact ⟨(wrap64 (x6_1 + 1)), (y215), (.slice (some ⟨go17, 0, none⟩) x215004_1.length co21), (by first | rfl | (simp; done) | (simp [*]; done)), H', ⟨by have := HK1.out; omega⟩, ⟨by (with_reducible repeat (first | apply Kd.R_alloc | apply Kd.R_drewN | apply Kd.R_drew)); exact HO_215004.out⟩, ⟨by (with_reducible repeat (first | apply Kd.S_alloc | apply Kd.S_drewN | apply Kd.S_drew)); exact HO_215005.out⟩, ⟨by (with_reducible repeat (first | refine blk_drewN ?_ _ | refine blk_drew ?_ | refine blk_alloc ?_ _)); exact BK202.out⟩, ⟨by (with_reducible repeat (first | refine blk_drewN ?_ _ | refine blk_drew ?_ | refine blk_alloc ?_ _)); exact BK203.out⟩, ⟨by (with_reducible repeat (first | refine blk_drewN ?_ _ | refine blk_drew ?_ | refine blk_alloc ?_ _)); exact BK214.out⟩, ⟨by repeat (first | (with_reducible first | exact HB.out | apply below_alloc | apply pw_below_drewN | apply below_drew1 | refine below_set ?_ GE202.out | refine below_set ?_ GE203.out | refine below_set ?_ GE214.out) | exact HB.out)⟩⟩
    ·
     rw [if_neg c16] at H
     exact absurd H (by simp)
   ·
    rw [if_neg c15] at H
    have c15b0 : decide (x6_1 < (x215004_1.length : Int)) = false := decide_eq_false c15
    clear c15
    simp only [Option.some.injEq, Prod.mk.injEq] at H
    obtain ⟨rfl, rfl, rfl, rfl, rfl, rfl⟩ := H
    have hnb24 := NB214_202.out
    have hnc24 := NB202_214.out
    have hnb25 := NB214_203.out
    have hnc25 := NB203_214.out
    have hcz26_0 : wr.cell? ⟨gb214, 0, none⟩ = some (.int .u64 t204) := (blk_cell BK214.out 0).trans rfl
    have hcz26_1 : wr.cell? ⟨gb214, 1, none⟩ = some (.int .u64 t205) := (blk_cell BK214.out 1).trans rfl
    have hcz26_2 : wr.cell? ⟨gb214, 2, none⟩ = some (.int .u64 t206) := (blk_cell BK214.out 2).trans rfl
    have hcz26_3 : wr.cell? ⟨gb214, 3, none⟩ = some (.int .i64 a1) := (blk_cell BK214.out 3).trans rfl
    have hcz26_4 : wr.cell? ⟨gb214, 4, none⟩ = some (u215004) := (blk_cell BK214.out 4).trans rfl
    have hcz26_5 : wr.cell? ⟨gb214, 5, none⟩ = some (.slice Ao14 t211.length co14) := (blk_cell BK214.out 5).trans rfl
    have hfz26_0 := blk_frozen BK214.out 0
    have hfz26_1 := blk_frozen BK214.out 1
    have hfz26_2 := blk_frozen BK214.out 2
    have hfz26_3 := blk_frozen BK214.out 3
    have hfz26_4 := blk_frozen BK214.out 4
    have hfz26_5 := blk_frozen BK214.out 5
    obtain ⟨Ao27, co27, eo27⟩ := Kd.R_slice HO_215004.out
    subst eo27
    have hnb28 := NB203_202.out
    have hnc28 := NB202_203.out
    have hcz29_0 : wr.cell? ⟨gb203, 0, none⟩ = some (.int .u64 0) := (blk_cell BK203.out 0).trans rfl
    have hcz29_1 : wr.cell? ⟨gb203, 1, none⟩ = some (.int .u64 0) := (blk_cell BK203.out 1).trans rfl
    have hcz29_2 : wr.cell? ⟨gb203, 2, none⟩ = some (.int .u64 0) := (blk_cell BK203.out 2).trans rfl
    have hcz29_3 : wr.cell? ⟨gb203, 3, none⟩ = some (.int .i64 0) := (blk_cell BK203.out 3).trans rfl
    have hcz29_4 : wr.cell? ⟨gb203, 4, none⟩ = some (.slice none 0 0) := (blk_cell BK203.out 4).trans rfl
    have hcz29_5 : wr.cell? ⟨gb203, 5, none⟩ = some (.slice none 0 0) := (blk_cell BK203.out 5).trans rfl
    have hfz29_0 := blk_frozen BK203.out 0
    have hfz29_1 := blk_frozen BK203.out 1
    have hfz29_2 := blk_frozen BK203.out 2
    have hfz29_3 := blk_frozen BK203.out 3
    have hfz29_4 := blk_frozen BK203.out 4
    have hfz29_5 := blk_frozen BK203.out 5
    go_wp2
    refine bodyPost_ret (results_cell_row rfl _ _ gb203 31 #[.int .u64 t204, .int .u64 t205, .int .u64 t206, .int .i64 a1, .slice Ao27 x215004_1.length co27, .slice Ao14 t211.length co14] (0, 0) _ rfl (by (with_reducible repeat (first | refine blk_drewN ?_ _ | refine blk_drew ?_ | refine blk_alloc ?_ _)); refine blk_put (cs := #[.int .u64 t204, .int .u64 t205, .int .u64 t206, .int .i64 a1, .slice Ao27 x215004_1.length co27, .slice none 0 0]) ?_ 5 _ rfl; (with_reducible repeat (first | refine blk_drewN ?_ _ | refine blk_drew ?_ | refine blk_alloc ?_ _)); refine blk_put (cs := #[.int .u64 t204, .int .u64 t205, .int .u64 t206, .int .i64 a1, .slice none 0 0, .slice none 0 0]) ?_ 4 _ rfl; (with_reducible repeat (first | refine blk_drewN ?_ _ | refine blk_drew ?_ | refine blk_alloc ?_ _)); refine blk_put (cs := #[.int .u64 t204, .int .u64 t205, .int .u64 t206, .int .i64 0, .slice none 0 0, .slice none 0 0]) ?_ 3 _ rfl; (with_reducible repeat (first | refine blk_drewN ?_ _ | refine blk_drew ?_ | refine blk_alloc ?_ _)); refine blk_put (cs := #[.int .u64 t204, .int .u64 t205, .int .u64 0, .int .i64 0, .slice none 0 0, .slice none 0 0]) ?_ 2 _ rfl; (with_reducible repeat (first | refine blk_drewN ?_ _ | refine blk_drew ?_ | refine blk_alloc ?_ _)); refine blk_put (cs := #[.int .u64 t204, .int .u64 0, .int .u64 0, .int .i64 0, .slice none 0 0, .slice none 0 0]) ?_ 1 _ rfl; (with_reducible repeat (first | refine blk_drewN ?_ _ | refine blk_drew ?_ | refine blk_alloc ?_ _)); refine blk_put (cs := #[.int .u64 0, .int .u64 0, .int .u64 0, .int .i64 0, .slice none 0 0, .slice none 0 0]) ?_ 0 _ rfl; (with_reducible repeat (first | refine blk_drewN ?_ _ | refine blk_drew ?_ | refine blk_alloc ?_ _)); exact BK203.out) Tryz.underlying31 rfl (by kernel_rfl)) rfl ?_
    exact ⟨_, _, by first | rfl | (simp [errW_none, errW_some] <;> rfl) | (simp [*, errW_none, errW_some] <;> rfl), by (with_reducible repeat (first | apply Kd.R_alloc | apply Kd.R_drewN | apply Kd.R_drew)); exact Kd.R_mono (Kd.R_far (p := ⟨gb203, 5, none⟩) (Kd.R_far (p := ⟨gb203, 4, none⟩) (Kd.R_far (p := ⟨gb203, 3, none⟩) (Kd.R_far (p := ⟨gb203, 2, none⟩) (Kd.R_far (p := ⟨gb203, 1, none⟩) (Kd.R_far (p := ⟨gb203, 0, none⟩) (Kd.R_types HO_215004.out BK203.out (by decide)) (fun _ hk => hk.2) (.int .u64 t204)) (fun _ hk => hk.2) (.int .u64 t205)) (fun _ hk => hk.2) (.int .u64 t206)) (fun _ hk => hk.2) (.int .i64 a1)) (fun _ hk => hk.2) (.slice Ao27 x215004_1.length co27)) (fun _ hk => hk.2) (.slice Ao14 t211.length co14)) (fun _ hk => trivial), by (with_reducible repeat (first | apply Kd.S_alloc | apply Kd.S_drewN | apply Kd.S_drew)); exact Kd.S_mono (Kd.S_far (p := ⟨gb203, 5, none⟩) (Kd.S_far (p := ⟨gb203, 4, none⟩) (Kd.S_far (p := ⟨gb203, 3, none⟩) (Kd.S_far (p := ⟨gb203, 2, none⟩) (Kd.S_far (p := ⟨gb203, 1, none⟩) (Kd.S_far (p := ⟨gb203, 0, none⟩) (Kd.S_types HO_215005.out BK203.out (by decide)) (fun _ hk => hk.2) (.int .u64 t204)) (fun _ hk => hk.2) (.int .u64 t205)) (fun _ hk => hk.2) (.int .u64 t206)) (fun _ hk => hk.2) (.int .i64 a1)) (fun _ hk => hk.2) (.slice Ao27 x215004_1.length co27)) (fun _ hk => hk.2) (.slice Ao14 t211.length co14)) (fun _ hk => trivial), by repeat (first | (with_reducible first | exact HB.out | apply below_alloc | apply pw_below_drewN | apply below_drew1 | refine below_set ?_ GE202.out | refine below_set ?_ GE203.out | refine below_set ?_ GE214.out) | exact HB.out)⟩
end
theorem rd_evP (xs : List Ev) (i : Nat) (h : i < xs.length) : rd_T153 xs (i : Int) = xs[i] := by unfold rd_T153; rw [Int.toNat_natCast, List.getD_eq_getElem?_getD, List.getElem?_eq_getElem h]; rfl
theorem rd_seP (xs : List Se) (i : Nat) (h : i < xs.length) : rd_T90 xs (i : Int) = xs[i] := by unfold rd_T90; rw [Int.toNat_natCast, List.getD_eq_getElem?_getD, List.getElem?_eq_getElem h]; rfl
theorem rd_noP (xs : List No) (i : Nat) (h : i < xs.length) : rd_T93 xs (i : Int) = xs[i] := by unfold rd_T93; rw [Int.toNat_natCast, List.getD_eq_getElem?_getD, List.getElem?_eq_getElem h]; rfl
theorem up1 (i : Nat) (h : i ≤ 2097152) : wrap64 ((i : Int) + 1) = ((i + 1 : Nat) : Int) := by unfold wrap64; omega
def mapI {α : Type} (f : α → α) (D : List α) (i : Nat) : List α := (D.take i).map f ++ D.drop i
theorem mapI_len {α : Type} (f : α → α) (D : List α) (i : Nat) (h : i ≤ D.length) : (mapI f D i).length = D.length := by
 unfold mapI
 rw [List.length_append, List.length_map, List.length_take, List.length_drop]
 omega
theorem mapI_at {α : Type} (f : α → α) (D : List α) (i : Nat) (h : i < D.length) (h2 : i < (mapI f D i).length) : (mapI f D i)[i] = D[i] := by
 have : (mapI f D i)[i]? = some D[i] := by
  unfold mapI
  rw [List.getElem?_append_right (by rw [List.length_map, List.length_take]; omega), List.length_map, List.length_take, Nat.min_eq_left (by omega), Nat.sub_self, List.getElem?_drop, Nat.add_zero, List.getElem?_eq_getElem h]
 rw [List.getElem?_eq_getElem h2] at this
 exact Option.some.inj this
theorem mapI_succ {α : Type} (f : α → α) (D : List α) (i : Nat) (h : i < D.length) : (mapI f D i).set i (f D[i]) = mapI f D (i + 1) := by
 unfold mapI
 rw [List.set_append_right _ _ (by rw [List.length_map, List.length_take]; omega), List.length_map, List.length_take, Nat.min_eq_left (by omega), Nat.sub_self, List.take_succ_eq_append_getElem h, List.map_append, List.append_assoc, List.drop_eq_getElem_cons h]
 rfl
theorem mapI_full {α : Type} (f : α → α) (D : List α) : mapI f D D.length = D.map f := by
 unfold mapI
 rw [List.take_length, List.drop_length, List.append_nil]
theorem l1copy_f (l : List Int) (h : l.length ≤ 2097152) : spec_l1copy.f l = some l := by
 unfold spec_l1copy.f
 first | rw [if_pos (by simp only [List.length_nil]; omega)]; rfl | rfl | simp
theorem l3ids_f (l : List Int) (h : l.length ≤ 2097152) : spec_l3ids.f l = some l := by
 unfold spec_l3ids.f
 rw [if_pos (by simp only [List.length_nil]; omega)]
 rfl
theorem l3events_f (q : List Ev) (hq : q.length ≤ 2097152) (hy : ∀ y ∈ q, y.f1.length ≤ 2097152) (k : Nat) (hk : q.length < k) : spec_l3events.f k q = some q := by
 have L : ∀ (d k i : Nat), i + d = q.length → d < k → spec_l3events.l0 k q (q.take i) (i : Int) = some q := by
  intro d
  induction d with
  | zero =>
   intro k i hi hk
   obtain ⟨k, rfl⟩ : ∃ m, k = m + 1 := ⟨k - 1, by omega⟩
   rw [spec_l3events.l0, if_neg (by omega), show i = q.length by omega, List.take_length]
  | succ d ih =>
   intro k i hi hk
   obtain ⟨k, rfl⟩ : ∃ m, k = m + 1 := ⟨k - 1, by omega⟩
   have hl : i < q.length := by omega
   rw [spec_l3events.l0, if_pos (by omega), if_pos (by omega), rd_evP q i hl, l1copy_f _ (hy _ (List.getElem_mem hl)), Option.bind_some, if_pos (by rw [List.length_take]; omega), up1 i (by omega)]
   have := ih k (i + 1) (by omega) (by omega)
   rw [List.take_succ_eq_append_getElem hl] at this
   exact this
 have := L q.length k 0 (by omega) hk
 rw [List.take_zero] at this
 exact this
theorem l3copy_f (e g n t : Int) (xs : List Se) (ns : List No) (hs : SmS xs ns) (k : Nat) (hk : xs.length + ns.length + 2097152 + 2 < k) : spec_l3copy.f k e g n t xs ns = some (e, g, n, t, xs, ns) := by
 have hx := hs.x
 have hn := hs.n
 have L1 : ∀ (d k i : Nat), i + d = ns.length → d < k → spec_l3copy.l1 k (i : Int) e g n t xs ns e g n t xs (ns.take i) = some (e, g, n, t, xs, ns) := by
  intro d
  induction d with
  | zero =>
   intro k i hi hk
   obtain ⟨k, rfl⟩ : ∃ m, k = m + 1 := ⟨k - 1, by omega⟩
   rw [spec_l3copy.l1, if_neg (by omega), show i = ns.length by omega, List.take_length]
  | succ d ih =>
   intro k i hi hk
   obtain ⟨k, rfl⟩ : ∃ m, k = m + 1 := ⟨k - 1, by omega⟩
   have hl : i < ns.length := by omega
   have hm := hs.m ns[i] (List.getElem_mem hl)
   have hc : spec_l3copyNode.f ns[i].f0 ns[i].f1 ns[i].f2 ns[i].f3 ns[i].f4 ns[i].f5 ns[i].f6 ns[i].f7 = some (ns[i].f0, ns[i].f1, ns[i].f2, ns[i].f3, ns[i].f4, ns[i].f5, ns[i].f6, ns[i].f7) := by
    unfold spec_l3copyNode.f
    rw [l1copy_f _ hm.1.1.1, Option.bind_some, l1copy_f _ hm.1.2, Option.bind_some, l3ids_f _ hm.2.1, Option.bind_some, l3ids_f _ hm.2.2, Option.bind_some]
   rw [spec_l3copy.l1, if_pos (by omega), if_pos (by omega), rd_noP ns i hl, hc, Option.bind_some, if_pos (by rw [List.length_take]; omega), up1 i (by omega)]
   have := ih k (i + 1) (by omega) (by omega)
   rw [List.take_succ_eq_append_getElem hl] at this
   exact this
 have L0 : ∀ (d k i : Nat), i + d = xs.length → d + ns.length + 2097152 + 2 < k → spec_l3copy.l0 k (i : Int) e g n t xs ns e g n t (xs.take i) = some (e, g, n, t, xs, ns) := by
  intro d
  induction d with
  | zero =>
   intro k i hi hk
   obtain ⟨k, rfl⟩ : ∃ m, k = m + 1 := ⟨k - 1, by omega⟩
   rw [spec_l3copy.l0, if_neg (by omega), show i = xs.length by omega, List.take_length]
   have := L1 ns.length k 0 (by omega) (by omega)
   rw [List.take_zero] at this
   exact this
  | succ d ih =>
   intro k i hi hk
   obtain ⟨k, rfl⟩ : ∃ m, k = m + 1 := ⟨k - 1, by omega⟩
   have hl : i < xs.length := by omega
   have he := hs.e xs[i] (List.getElem_mem hl)
   rw [spec_l3copy.l0, if_pos (by omega), if_pos (by omega), rd_seP xs i hl, l3events_f _ he.1 (fun y hy => (he.2 y hy).1) k (by omega), Option.bind_some, if_pos (by rw [List.length_take]; omega), up1 i (by omega)]
   have := ih k (i + 1) (by omega) (by omega)
   rw [List.take_succ_eq_append_getElem hl] at this
   exact this
 have := L0 xs.length k 0 (by omega) (by omega)
 rw [List.take_zero] at this
 exact this
theorem l3durable_f (e g n t : Int) (xs : List Se) (ns : List No) (hs : SmS xs ns) (k : Nat) (hk : xs.length + ns.length + 2097152 + 2 < k) : spec_l3durable.f k e g n t xs ns = some (e, g, n, 0, xs.map durSe, ns.map durNo) := by
 have hx := hs.x
 have hn := hs.n
 have L1 : ∀ (X : List Se) (d k i : Nat), i + d = ns.length → d < k → spec_l3durable.l1 k (i : Int) e g n 0 X (mapI durNo ns i) = some (e, g, n, 0, X, ns.map durNo) := by
  intro X d
  induction d with
  | zero =>
   intro k i hi hk
   obtain ⟨k, rfl⟩ : ∃ m, k = m + 1 := ⟨k - 1, by omega⟩
   rw [spec_l3durable.l1, mapI_len _ _ _ (by omega), if_neg (by omega), show i = ns.length by omega, mapI_full]
  | succ d ih =>
   intro k i hi hk
   obtain ⟨k, rfl⟩ : ∃ m, k = m + 1 := ⟨k - 1, by omega⟩
   have hl : i < ns.length := by omega
   have hl2 : i < (mapI durNo ns i).length := by rw [mapI_len _ _ _ (by omega)]; exact hl
   rw [spec_l3durable.l1, mapI_len _ _ _ (by omega), if_pos (by omega), if_pos (by omega), rd_noP _ i hl2, mapI_at durNo ns i hl hl2, up1 i (by omega), Int.toNat_natCast]
   have := ih k (i + 1) (by omega) (by omega)
   rw [← mapI_succ durNo ns i hl] at this
   exact this
 have L0 : ∀ (d k i : Nat), i + d = xs.length → d + ns.length + 1 < k → spec_l3durable.l0 k (i : Int) e g n 0 (mapI durSe xs i) ns = some (e, g, n, 0, xs.map durSe, ns.map durNo) := by
  intro d
  induction d with
  | zero =>
   intro k i hi hk
   obtain ⟨k, rfl⟩ : ∃ m, k = m + 1 := ⟨k - 1, by omega⟩
   rw [spec_l3durable.l0, mapI_len _ _ _ (by omega), if_neg (by omega), show i = xs.length by omega, mapI_full]
   exact L1 _ ns.length k 0 (by omega) (by omega)
  | succ d ih =>
   intro k i hi hk
   obtain ⟨k, rfl⟩ : ∃ m, k = m + 1 := ⟨k - 1, by omega⟩
   have hl : i < xs.length := by omega
   have hl2 : i < (mapI durSe xs i).length := by rw [mapI_len _ _ _ (by omega)]; exact hl
   have hl3 : i < ((mapI durSe xs i).set i (⟨xs[i].f0, 0, xs[i].f2⟩ : Se)).length := by rw [List.length_set]; exact hl2
   rw [spec_l3durable.l0, mapI_len _ _ _ (by omega), if_pos (by omega), if_pos (by omega), rd_seP _ i hl2, mapI_at durSe xs i hl hl2, Option.bind_some, up1 i (by omega), Int.toNat_natCast, rd_seP _ i hl3, List.getElem_set_self, List.set_set]
   have := ih k (i + 1) (by omega) (by omega)
   rw [← mapI_succ durSe xs i hl] at this
   exact this
 unfold spec_l3durable.f
 rw [l3copy_f e g n t xs ns hs k hk, Option.bind_some]
 exact L0 xs.length k 0 (by omega) (by omega)
theorem l5regrace_f (e g n t now : Int) (xs : List Se) (ns : List No) (hs : SmS xs ns) (hnow : 0 ≤ now ∧ now ≤ 1000000) (k : Nat) (hk : xs.length + ns.length + 2097152 + 2 < k) : spec_l5regrace.f k e g n t xs ns now = some (e, g, n, now, xs.map (rgSe now), ns.map durNo) := by
 have hx := hs.x
 have h15 : wrap64 (wrap64 (now + 10) + 5) = now + 15 := by unfold wrap64; omega
 have L0 : ∀ (d k i : Nat), i + d = (xs.map durSe).length → d < k → spec_l5regrace.l0 k now (i : Int) e g n now (rgL (now + 15) (xs.map durSe) i) (ns.map durNo) = some (e, g, n, now, xs.map (rgSe now), ns.map durNo) := by
  intro d
  induction d with
  | zero =>
   intro k i hi hk
   obtain ⟨k, rfl⟩ : ∃ m, k = m + 1 := ⟨k - 1, by omega⟩
   rw [spec_l5regrace.l0, rgL_len _ _ _ (by omega), if_neg (by omega), show i = (xs.map durSe).length by omega, rgL_full, rg_dur]
  | succ d ih =>
   intro k i hi hk
   obtain ⟨k, rfl⟩ : ∃ m, k = m + 1 := ⟨k - 1, by omega⟩
   have hl : i < (xs.map durSe).length := by omega
   have hl1 : i ≤ 2097152 := by rw [List.length_map] at hl; omega
   have hl2 : i < (rgL (now + 15) (xs.map durSe) i).length := by rw [rgL_len _ _ _ (by omega)]; exact hl
   have hat := rgL_at (now + 15) (xs.map durSe) i hl
   rw [List.getElem?_eq_getElem hl2] at hat
   rw [spec_l5regrace.l0, rgL_len _ _ _ (by omega), if_pos (by omega), if_pos (by omega), rd_seP _ i hl2, Option.some.inj hat, up1 i hl1, Int.toNat_natCast, h15, rgL_succ _ _ i hl]
   exact ih k (i + 1) (by omega) (by omega)
 unfold spec_l5regrace.f
 rw [l3durable_f e g n t xs ns hs k hk, Option.bind_some]
 have := L0 (xs.map durSe).length k 0 (by omega) (by rw [List.length_map]; omega)
 exact this
theorem sumEv_of (q : List EvL) : sumL lnEv (q.map toEv) = q.length + pE q := by
 induction q with
 | nil => rfl
 | cons y r ih =>
  have h1 : pE (y :: r) = y.f1.length + pE r := rfl
  have h2 : lnEv (toEv y) = 1 + y.f1.length := rfl
  simp only [List.map_cons, sumL, List.length_cons, ih, h1, h2]
  omega
theorem sumSe_of (xs : List SeL) : sumL lnSe (xs.map toSe) = 2 * xs.length + pS xs := by
 induction xs with
 | nil => rfl
 | cons x r ih =>
  have h1 : pS (x :: r) = (x.f2.length + pE x.f2) + pS r := rfl
  have h2 : lnSe (toSe x) = 2 + (x.f2.length + pE x.f2) := by rw [← sumEv_of]; rfl
  simp only [List.map_cons, sumL, List.length_cons, ih, h1, h2]
  omega
theorem sumNo_of (ns : List NoL) : sumL lnNo (ns.map toNo) = 4 * ns.length + pN ns := by
 induction ns with
 | nil => rfl
 | cons x r ih =>
  have h1 : pN (x :: r) = (x.f0.length + x.f1.length + x.f4.length + x.f7.length) + pN r := rfl
  have h2 : lnNo (toNo x) = x.f0.length + x.f1.length + 4 + x.f4.length + x.f7.length := rfl
  simp only [List.map_cons, sumL, List.length_cons, ih, h1, h2]
  omega
section
attribute [local go_sem] max2_int max_two
set_option linter.unusedVariables false
set_option linter.unusedSimpArgs false
def laws_heldUint64S.l0 : Nat → List Int → Int → Int → Option (Int)
 | 0, _, _, _ => none
 | k + 1, x0, x1, x5 => if x5 < (x0.length : Int) then (if 0 ≤ x5 then (if (rd x0 x5) = (IntKind.u64.wrap (x1)) then (laws_heldUint64S.l0 k x0 (wrap64 (x1 + 1)) (wrap64 (x5 + 1))) else (some (-1))) else (none)) else (some x1)
def laws_heldUint64S.f (k : Nat) (l0 : List Int) (a1 : Int) : Option (Int) := laws_heldUint64S.l0 k l0 a1 0
set_option maxHeartbeats 8000000 in
set_option maxRecDepth 100000 in
theorem laws_heldUint64S.calls (k : Nat) (A0 : Option Addr) (c0 : Nat) (l0 : List Int) (a1 : Int) (r : Int) (w : World) (hr0 : Kd.C (Kd.int .u64) w A0 l0.length l0) (hc0 : l0.length ≤ c0) (h : laws_heldUint64S.f k l0 a1 = some r) :
  Calls Tryz.prog 98 #[.slice A0 l0.length c0, .int .i64 a1] w fun e w' => e = .returned (.int .i64 r) ∧ Drawn0 w w' := by
 have HR0 := Aside0.mk hr0
 have HC0 := Aside0.mk hc0
 clear hr0 hc0
 have H : (laws_heldUint64S.l0 k l0 a1 0) = some r := h
 clear h
 have H' := Aside0.mk H
 clear H
 go_enter Tryz.func98, Tryz.ntmps98
 go_wp2
 go_loopg [1, 5] k (fun kq v1 v5 w' => ∃ (x1_1 : Int) (x5_1 : Int), v1 = .int .i64 x1_1 ∧ v5 = .int .i64 x5_1 ∧ Aside0 (laws_heldUint64S.l0 kq l0 x1_1 x5_1 = some r) ∧ Aside0 (kq ≤ k) ∧ Drawn0 w w')
 case atStart => exact ⟨(a1), (0), (by first | rfl | (simp; done) | (simp [*]; done)), (by first | rfl | (simp; done) | (simp [*]; done)), H', ⟨Nat.le_refl _⟩, by repeat (first | exact Drawn0.refl _ | apply Drawn0.step)⟩
 case round =>
  clear H'
  try clear p2
  obtain ⟨x1_1, x5_1, rfl, rfl, HA, HK1, ⟨m1, rfl⟩⟩ := hrel
  cases gk with
  | zero => exact absurd HA.out (by simp [laws_heldUint64S.l0])
  | succ k1 =>
   have H := HA.out
   clear HA
   simp only [laws_heldUint64S.l0] at H
   by_cases c3 : x5_1 < (l0.length : Int)
   ·
    rw [if_pos c3] at H
    have c3b0 : decide (x5_1 < (l0.length : Int)) = true := decide_eq_true c3
    clear c3
    by_cases c4 : 0 ≤ x5_1
    ·
     rw [if_pos c4] at H
     have c4b0 : decide (0 ≤ x5_1) = true := decide_eq_true c4
     clear c4
     by_cases c5 : (rd l0 x5_1) = (IntKind.u64.wrap (x1_1))
     ·
      rw [if_pos c5] at H
      have c5b0 : ((rd l0 x5_1) == (IntKind.u64.wrap (x1_1))) = true := beq_iff_eq.mpr c5
      have c5b1 : ((rd l0 x5_1) != (IntKind.u64.wrap (x1_1))) = false := bne_eq_false_iff_eq.mpr c5
      clear c5
      have H' := Aside0.mk H
      clear H
      have p384 : 0 ≤ (x5_1 : Int) := of_decide_eq_true (by first | (with_reducible assumption) | assumption)
      have q384 : x5_1 < (l0.length : Int) := of_decide_eq_true (by first | (with_reducible assumption) | assumption)
      obtain ⟨ad384, e384, hx384_0⟩ := Kd.at_int HR0.out x5_1 p384 q384
      cases e384
      replace p384 := eq_true p384
      replace q384 := eq_true q384
      go_wp2
      go_roundg k1
      case measure => have := HK1.out; omega
      case rel => exact ⟨(wrap64 (x1_1 + 1)), (wrap64 (x5_1 + 1)), (by first | rfl | (simp; done) | (simp [*]; done)), (by first | rfl | (simp; done) | (simp [*]; done)), H', ⟨by have := HK1.out; omega⟩, by repeat (first | exact Drawn0.refl _ | apply Drawn0.step)⟩
     ·
      rw [if_neg c5] at H
      have c5b0 : ((rd l0 x5_1) == (IntKind.u64.wrap (x1_1))) = false := beq_eq_false_iff_ne.mpr c5
      have c5b1 : ((rd l0 x5_1) != (IntKind.u64.wrap (x1_1))) = true := bne_iff_ne.mpr c5
      obtain rfl := Option.some.inj H
      have p384 : 0 ≤ (x5_1 : Int) := of_decide_eq_true (by first | (with_reducible assumption) | assumption)
      have q384 : x5_1 < (l0.length : Int) := of_decide_eq_true (by first | (with_reducible assumption) | assumption)
      obtain ⟨ad384, e384, hx384_0⟩ := Kd.at_int HR0.out x5_1 p384 q384
      cases e384
      replace p384 := eq_true p384
      replace q384 := eq_true q384
      go_wp2
      go_ret
      exact ⟨by first | rfl | (simp; done) | (simp [*]; done), by repeat (first | exact Drawn0.refl _ | apply Drawn0.step)⟩
    ·
     rw [if_neg c4] at H
     exact absurd H (by simp)
   ·
    rw [if_neg c3] at H
    have c3b0 : decide (x5_1 < (l0.length : Int)) = false := decide_eq_false c3
    clear c3
    obtain rfl := Option.some.inj H
    go_wp2
    go_ret
    exact ⟨by first | rfl | (simp; done) | (simp [*]; done), by repeat (first | exact Drawn0.refl _ | apply Drawn0.step)⟩
end
theorem heldUint64S_loop (n m : Nat) (hm : m + n ≤ 140737488351232) (d : Nat) : ∀ (k i : Nat), i + d = n → d < k → laws_heldUint64S.l0 k (marksU n m) ((m + i : Nat) : Int) (i : Int) = some (((m + n : Nat) : Int)) := by
 induction d with
 | zero =>
  intro k i hi hk
  obtain ⟨k, rfl⟩ : ∃ q, k = q + 1 := ⟨k - 1, by omega⟩
  rw [laws_heldUint64S.l0, if_neg (by rw [marksU_length]; omega), show i = n by omega]
 | succ d ih =>
  intro k i hi hk
  obtain ⟨k, rfl⟩ : ∃ q, k = q + 1 := ⟨k - 1, by omega⟩
  have hr : rd (marksU n m) (i : Int) = ((m + i : Nat) : Int) := by
   rw [rd_nat, List.getD_eq_getElem?_getD, marksU_at n m i (by omega)]; rfl
  rw [laws_heldUint64S.l0, if_pos (by rw [marksU_length]; omega), if_pos (by omega), hr, u64_nat _ (by omega), if_pos rfl, wrap_up (m + i) (by omega), wrap_up i (by omega)]
  exact ih k (i + 1) (by omega) (by omega)
theorem heldUint64S_f (n m : Nat) (hm : m + n ≤ 140737488351232) (k : Nat) (hk : n < k) : laws_heldUint64S.f k (marksU n m) (m : Int) = some (((m + n : Nat) : Int)) :=
 heldUint64S_loop n m hm n k 0 (by omega) hk
theorem glue_b1 {xs : List SeL} (h : ∀ x ∈ xs, gSe x) : ∀ x ∈ xs, ∀ y ∈ x.f2, ∀ z ∈ y.f1, 0 ≤ z ∧ z < 256 := fun x hx y hy => byte_range ((h x hx).2.2 y hy).2
theorem glue_b2 {ns : List NoL} (h : ∀ x ∈ ns, gNo x) : ∀ x ∈ ns, ∀ z ∈ x.f0, 0 ≤ z ∧ z < 256 := fun x hx => byte_range (h x hx).1.2
theorem glue_rx {xs : List SeL} (h : ∀ x ∈ xs, gSe x) : ∀ x ∈ xs.map toSe, 0 ≤ x.f0 ∧ x.f0 < 18446744073709551616 := fun x hx => by
 obtain ⟨y, hy, rfl⟩ := List.mem_map.1 hx
 exact u64_range (h y hy).1
theorem glue_rn {ns : List NoL} (h : ∀ x ∈ ns, gNo x) : ∀ x ∈ ns.map toNo, (0 ≤ x.f2 ∧ x.f2 < 18446744073709551616) ∧ (∀ z ∈ x.f4, 0 ≤ z ∧ z < 18446744073709551616) ∧ (∀ z ∈ x.f7, 0 ≤ z ∧ z < 18446744073709551616) := fun x hx => by
 obtain ⟨y, hy, rfl⟩ := List.mem_map.1 hx
 obtain ⟨_, _, a, ⟨_, b⟩, _, c⟩ := h y hy
 exact ⟨u64_range a, fun z hz => u64_range (b z hz), fun z hz => u64_range (c.1 z hz)⟩
theorem glue_rp {ns : List NoL} (h : ∀ x ∈ ns, gNo x) : ∀ x ∈ ns.map toNo, (0 ≤ x.f5 ∧ x.f5 < 18446744073709551616) ∧ (0 ≤ x.f6 ∧ x.f6 < 18446744073709551616) := fun x hx => by
 obtain ⟨y, hy, rfl⟩ := List.mem_map.1 hx
 obtain ⟨_, _, _, _, _, _, a, b⟩ := h y hy
 exact ⟨u64_range a, u64_range b⟩
end Go.Proofs.YtbgbocdohadhoaaGreatDoor.Print
