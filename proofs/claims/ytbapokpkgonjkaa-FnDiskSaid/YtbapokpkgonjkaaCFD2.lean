/- Texts of this session, joined by its own program. -/
import Derived.Test.YtbapokpkgonjkaaCFD0
import Derived.Test.YtbapokpkgonjkaaCFD1
/- The machine's side of the statements: what a Go function comes to, as a Lean function, and that it does so (written by this session's own program over the kit's printer; Lean checks it). -/
namespace Go.Proofs.Ytbapokpkgonjkaa.Print
open Go.RowKit Go.Proofs.YtbapokpkgonjkaaW.PrintWords Go.Proofs.YtbapokpkgonjkaaW.PrintLast Go.Proofs.YtbapokpkgonjkaaW.PrintMore
attribute [local go_sem] max2_int min2_int max_two min_two max_three min_three max_four min_four   -- for this text's walks alone
set_option linter.unusedVariables false
set_option linter.unusedSimpArgs false

/-! ### spec_DrawDiskAppend: function 51 -/
def spec_DrawDiskAppend.f (k : Nat) (l0 : List Int) : Option (List Int × Int × List Int × Int × List Int × Int × Int × List Int) := (spec_l1open.f l0).bind fun bt1265 => ((spec_l1drawBytes.f k bt1265.1 bt1265.2).bind fun bt1268 => ((spec_l1rd_next.f bt1265.1 bt1268.2).bind fun bt1272 => ((spec_l1drawFileNo.f bt1265.1 bt1272.2).bind fun bt1274 => ((spec_l1drawDisk.f k bt1265.1 bt1274.2).bind fun bt1276 => (if bt1272.1 = 0 then ((spec_l1fill.f k 3 199998).bind fun t1290 => ((spec_l1fill.f k 4 (wrap64 (1 + (Int.tmod bt1274.1 3)))).bind fun t1293 => (some (bt1276.1, bt1276.2.1, bt1276.2.2.1, bt1276.2.2.2.1, t1290, 0, 2, t1293)))) else (some (bt1276.1, bt1276.2.1, bt1276.2.2.1, bt1276.2.2.2.1, bt1276.2.2.2.2.1, bt1276.2.2.2.2.2.1, bt1274.1, bt1268.1)))))))
theorem spec_DrawDiskAppend.mono : ∀ a0 k, LeO (spec_DrawDiskAppend.f k a0) (spec_DrawDiskAppend.f (k + 1) a0) := by
  intro a0 k
  unfold spec_DrawDiskAppend.f
  repeat' first
      | (with_reducible exact spec_l1drawBytes.mono _ _ _)
      | (with_reducible exact spec_l1drawDisk.mono _ _ _)
      | (with_reducible exact spec_l1fill.mono _ _ _)
      | (with_reducible exact LeO.refl _)
      | (with_reducible exact LeO.none _)
      | (with_reducible refine LeO.ite ?_ ?_)
      | (with_reducible refine LeO.bind ?_ (fun _ => ?_))
      | exact spec_l1drawBytes.mono _ _ _
      | exact spec_l1drawDisk.mono _ _ _
      | exact spec_l1fill.mono _ _ _
      | exact LeO.none _
      | refine LeO.ite ?_ ?_
      | refine LeO.bind ?_ (fun _ => ?_)
def spec_DrawDiskAppend.T8 : Bool × List (List Nat × List Nat) := (true, [([], []), ([], []), ([1], [1]), ([2], [2]), ([3], [3]), ([0, 4, 0], [0]), ([5, 0, 5], []), ([4, 6, 0, 1, 2, 3, 4, 5, 6], [4])])
def spec_DrawDiskAppend.B8 : List Nat := [0, 0, 2, 6, 14, 31, 63, 127]
theorem spec_DrawDiskAppend.tab8 : rtab .any (opsOf Try.f51 8) = spec_DrawDiskAppend.T8 := by kernel_rfl
theorem spec_DrawDiskAppend.bits8 : waitsOk spec_DrawDiskAppend.T8.2 spec_DrawDiskAppend.B8 = true := by kernel_rfl
set_option maxHeartbeats 8000000 in
set_option maxRecDepth 100000 in
theorem spec_DrawDiskAppend.calls (k : Nat) (A0 : Option Addr) (c0 : Nat) (l0 : List Int) (r1 : List Int) (r2 : Int) (r3 : List Int) (r4 : Int) (r5 : List Int) (r6 : Int) (r7 : Int) (r8 : List Int) (w : World) (hr0 : Kd.C (Kd.int .u8) w A0 l0.length l0) (hc0 : l0.length ≤ c0) (h : spec_DrawDiskAppend.f k l0 = some (r1, r2, r3, r4, r5, r6, r7, r8)) :
    Calls Try.prog 51 #[.slice A0 l0.length c0] w fun e w' => ∃ v0_ v2_ v4_ v7_ : Value, e = .returned (.tuple #[.agg #[v0_, .int .i64 r2, v2_, .int .i64 r4, v4_, .int .i64 r6], .int .i64 r7, v7_]) ∧ Kd.R (Kd.int .u8) 5 w' w.heap.size (fun k_ => some k_ ≠ (v2_ : Value).ownBlock ∧ some k_ ≠ (v4_ : Value).ownBlock ∧ some k_ ≠ (v7_ : Value).ownBlock) v0_ r1 ∧ Kd.R (Kd.int .u8) 5 w' w.heap.size (fun k_ => some k_ ≠ (v0_ : Value).ownBlock ∧ some k_ ≠ (v4_ : Value).ownBlock ∧ some k_ ≠ (v7_ : Value).ownBlock) v2_ r3 ∧ Kd.R (Kd.int .u8) 5 w' w.heap.size (fun k_ => some k_ ≠ (v0_ : Value).ownBlock ∧ some k_ ≠ (v2_ : Value).ownBlock ∧ some k_ ≠ (v7_ : Value).ownBlock) v4_ r5 ∧ Kd.R (Kd.int .u8) 5 w' w.heap.size (fun k_ => some k_ ≠ (v0_ : Value).ownBlock ∧ some k_ ≠ (v2_ : Value).ownBlock ∧ some k_ ≠ (v4_ : Value).ownBlock) v7_ r8 ∧ Below w.heap.size w w' := by
  have hu31 := Try.underlying31
  have hu29 := Try.underlying29
  have HR0 := Aside0.mk hr0
  have HC0 := Aside0.mk hc0
  clear hr0 hc0
  have HB := Aside0.mk (Below.refl w.heap.size w)
  have H : ((spec_l1open.f l0).bind fun bt1265 => ((spec_l1drawBytes.f k bt1265.1 bt1265.2).bind fun bt1268 => ((spec_l1rd_next.f bt1265.1 bt1268.2).bind fun bt1272 => ((spec_l1drawFileNo.f bt1265.1 bt1272.2).bind fun bt1274 => ((spec_l1drawDisk.f k bt1265.1 bt1274.2).bind fun bt1276 => (if bt1272.1 = 0 then ((spec_l1fill.f k 3 199998).bind fun t1290 => ((spec_l1fill.f k 4 (wrap64 (1 + (Int.tmod bt1274.1 3)))).bind fun t1293 => (some (bt1276.1, bt1276.2.1, bt1276.2.2.1, bt1276.2.2.2.1, t1290, 0, 2, t1293)))) else (some (bt1276.1, bt1276.2.1, bt1276.2.2.1, bt1276.2.2.2.1, bt1276.2.2.2.2.1, bt1276.2.2.2.2.2.1, bt1274.1, bt1268.1)))))))) = some (r1, r2, r3, r4, r5, r6, r7, r8) := h
  clear h
  replace H := Option.bind_eq_some_iff.mp H
  obtain ⟨⟨t1265, t1266⟩, A20, H⟩ := H
  replace H : ((spec_l1drawBytes.f k t1265 t1266).bind fun bt1268 => ((spec_l1rd_next.f t1265 bt1268.2).bind fun bt1272 => ((spec_l1drawFileNo.f t1265 bt1272.2).bind fun bt1274 => ((spec_l1drawDisk.f k t1265 bt1274.2).bind fun bt1276 => (if bt1272.1 = 0 then ((spec_l1fill.f k 3 199998).bind fun t1290 => ((spec_l1fill.f k 4 (wrap64 (1 + (Int.tmod bt1274.1 3)))).bind fun t1293 => (some (bt1276.1, bt1276.2.1, bt1276.2.2.1, bt1276.2.2.2.1, t1290, 0, 2, t1293)))) else (some (bt1276.1, bt1276.2.1, bt1276.2.2.1, bt1276.2.2.2.1, bt1276.2.2.2.2.1, bt1276.2.2.2.2.2.1, bt1274.1, bt1268.1))))))) = some (r1, r2, r3, r4, r5, r6, r7, r8) := H
  have A2 := Aside0.mk A20
  clear A20
  replace H := Option.bind_eq_some_iff.mp H
  obtain ⟨⟨t1268, t1271⟩, A30, H⟩ := H
  replace H : ((spec_l1rd_next.f t1265 t1271).bind fun bt1272 => ((spec_l1drawFileNo.f t1265 bt1272.2).bind fun bt1274 => ((spec_l1drawDisk.f k t1265 bt1274.2).bind fun bt1276 => (if bt1272.1 = 0 then ((spec_l1fill.f k 3 199998).bind fun t1290 => ((spec_l1fill.f k 4 (wrap64 (1 + (Int.tmod bt1274.1 3)))).bind fun t1293 => (some (bt1276.1, bt1276.2.1, bt1276.2.2.1, bt1276.2.2.2.1, t1290, 0, 2, t1293)))) else (some (bt1276.1, bt1276.2.1, bt1276.2.2.1, bt1276.2.2.2.1, bt1276.2.2.2.2.1, bt1276.2.2.2.2.2.1, bt1274.1, t1268)))))) = some (r1, r2, r3, r4, r5, r6, r7, r8) := H
  have A3 := Aside0.mk A30
  clear A30
  replace H := Option.bind_eq_some_iff.mp H
  obtain ⟨⟨t1272, t1273⟩, A40, H⟩ := H
  replace H : ((spec_l1drawFileNo.f t1265 t1273).bind fun bt1274 => ((spec_l1drawDisk.f k t1265 bt1274.2).bind fun bt1276 => (if t1272 = 0 then ((spec_l1fill.f k 3 199998).bind fun t1290 => ((spec_l1fill.f k 4 (wrap64 (1 + (Int.tmod bt1274.1 3)))).bind fun t1293 => (some (bt1276.1, bt1276.2.1, bt1276.2.2.1, bt1276.2.2.2.1, t1290, 0, 2, t1293)))) else (some (bt1276.1, bt1276.2.1, bt1276.2.2.1, bt1276.2.2.2.1, bt1276.2.2.2.2.1, bt1276.2.2.2.2.2.1, bt1274.1, t1268))))) = some (r1, r2, r3, r4, r5, r6, r7, r8) := H
  have A4 := Aside0.mk A40
  clear A40
  replace H := Option.bind_eq_some_iff.mp H
  obtain ⟨⟨t1274, t1275⟩, A50, H⟩ := H
  replace H : ((spec_l1drawDisk.f k t1265 t1275).bind fun bt1276 => (if t1272 = 0 then ((spec_l1fill.f k 3 199998).bind fun t1290 => ((spec_l1fill.f k 4 (wrap64 (1 + (Int.tmod t1274 3)))).bind fun t1293 => (some (bt1276.1, bt1276.2.1, bt1276.2.2.1, bt1276.2.2.2.1, t1290, 0, 2, t1293)))) else (some (bt1276.1, bt1276.2.1, bt1276.2.2.1, bt1276.2.2.2.1, bt1276.2.2.2.2.1, bt1276.2.2.2.2.2.1, t1274, t1268)))) = some (r1, r2, r3, r4, r5, r6, r7, r8) := H
  have A5 := Aside0.mk A50
  clear A50
  replace H := Option.bind_eq_some_iff.mp H
  obtain ⟨⟨t1276, t1279, t1280, t1283, t1284, t1287, t1288⟩, A60, H⟩ := H
  replace H : (if t1272 = 0 then ((spec_l1fill.f k 3 199998).bind fun t1290 => ((spec_l1fill.f k 4 (wrap64 (1 + (Int.tmod t1274 3)))).bind fun t1293 => (some (t1276, t1279, t1280, t1283, t1290, 0, 2, t1293)))) else (some (t1276, t1279, t1280, t1283, t1284, t1287, t1274, t1268))) = some (r1, r2, r3, r4, r5, r6, r7, r8) := H
  have A6 := Aside0.mk A60
  clear A60
  by_cases c7 : t1272 = 0
  · rw [if_pos c7] at H
    have c7b0 : (t1272 == 0) = true := beq_iff_eq.mpr c7
    have c7b1 : (t1272 != 0) = false := bne_eq_false_iff_eq.mpr c7
    clear c7
    replace H := Option.bind_eq_some_iff.mp H
    obtain ⟨t1290, A80, H⟩ := H
    replace H : ((spec_l1fill.f k 4 (wrap64 (1 + (Int.tmod t1274 3)))).bind fun t1293 => (some (t1276, t1279, t1280, t1283, t1290, 0, 2, t1293))) = some (r1, r2, r3, r4, r5, r6, r7, r8) := H
    have A8 := Aside0.mk A80
    clear A80
    replace H := Option.bind_eq_some_iff.mp H
    obtain ⟨t1293, A90, H⟩ := H
    replace H : (some (t1276, t1279, t1280, t1283, t1290, 0, 2, t1293)) = some (r1, r2, r3, r4, r5, r6, r7, r8) := H
    have A9 := Aside0.mk A90
    clear A90
    simp only [Option.some.injEq, Prod.mk.injEq] at H
    obtain ⟨rfl, rfl, rfl, rfl, rfl, rfl, rfl, rfl⟩ := H
    go_enter Try.func51, Try.ntmps51
    try go_wp2_with (first | ((with_reducible refine gate_dst (N := 2) rfl ?_); refine box_event ?hg (N := 2) ?hd (cs := #[.slice none 0 0, .int .i64 0, .slice none 0 0, .int .i64 0, .slice none 0 0, .int .i64 0]) (t := 31) ?hr ?_; (case hd => rfl); (case hg => rfl); (case hr => first | (go_simp; done) | (go_simp; rfl)); intro gb1264 hg w10 hbox hb; have n0_ := Aside0.mk (below_step (by repeat (first | (with_reducible first | exact HB.out | apply below_alloc | apply pw_below_drewN | apply below_drew1) | exact HB.out)) hb); have n1_ := Aside0.mk (hbox); have n2_ := Aside0.mk ((by rw [hg]; exact (below_size (by repeat (first | (with_reducible first | exact HB.out | apply below_alloc | apply pw_below_drewN | apply below_drew1) | exact HB.out))) : w.heap.size ≤ gb1264)); have n3_ := Aside0.mk ((by rw [hg]; exact (below_size (by repeat (first | (with_reducible first | exact HB.out | apply below_alloc | apply pw_below_drewN | apply below_drew1) | exact HB.out))) : w.heap.size ≤ gb1264)); clear HB; have HB := n0_; have BK1264 := n1_; have GW1264 := n2_; have GE1264 := n3_; clear n0_ n1_ n2_ n3_; clear hb hbox hg) | ((with_reducible refine gate_callee (f := 92) rfl ?_); refine goesL_ (some 11) rfl rfl Try.func92 (by kernel_rfl) rfl #[.slice A0 l0.length c0] rfl (by (try simp only [List.map_toArray, List.map_cons, List.map_nil]); first | done | rfl | (simp only [List.length_drop, List.length_take]; rfl)) ?_; (with_reducible refine (spec_l1open.calls _ _ l0 t1265 t1266 w _ ?side1 ?side2 ?side3 A2.out).mono ?_); (case side1 => repeat (first | (with_reducible first | exact HB.out | apply below_alloc | apply pw_below_drewN | apply below_drew1 | refine below_set ?_ GE1264.out) | exact HB.out)); (case side2 => exact HR0.out); (case side3 => exact HC0.out); rintro e w11 ⟨g1267, rfl, hi, hb, hb2⟩; refine ⟨_, rfl, ?_⟩; have n0_ := Aside0.mk (blk_below (g := gb1264) (o := .cells #[.slice none 0 0, .int .i64 0, .slice none 0 0, .int .i64 0, .slice none 0 0, .int .i64 0] 31 (0, 0)) (by (with_reducible repeat (first | refine blk_drewN ?_ _ | refine blk_drew ?_ | refine blk_alloc ?_ _)); exact BK1264.out) hb2); have n1_ := Aside0.mk (hb); have n2_ := Aside0.mk (hi); have n3_ := Aside0.mk (IsS112.ne_blk hi (blk_below (g := gb1264) (o := .cells #[.slice none 0 0, .int .i64 0, .slice none 0 0, .int .i64 0, .slice none 0 0, .int .i64 0] 31 (0, 0)) (by (with_reducible repeat (first | refine blk_drewN ?_ _ | refine blk_drew ?_ | refine blk_alloc ?_ _)); exact BK1264.out) hb2) (by decide)); have n4_ := Aside0.mk (Ne.symm (IsS112.ne_blk hi (blk_below (g := gb1264) (o := .cells #[.slice none 0 0, .int .i64 0, .slice none 0 0, .int .i64 0, .slice none 0 0, .int .i64 0] 31 (0, 0)) (by (with_reducible repeat (first | refine blk_drewN ?_ _ | refine blk_drew ?_ | refine blk_alloc ?_ _)); exact BK1264.out) hb2) (by decide))); clear BK1264; clear HB; have BK1264 := n0_; have HB := n1_; have HI1267 := n2_; have NB1267_1264 := n3_; have NB1264_1267 := n4_; clear n0_ n1_ n2_ n3_ n4_; (try clear hb); (try clear hb2); (try clear hk); (try clear hi)) | ((with_reducible refine gate_callee (f := 93) rfl ?_); refine goesL_ (some 13) rfl rfl Try.func93 (by kernel_rfl) rfl #[.pointer (some ⟨g1267, 0, none⟩)] rfl (by (try simp only [List.map_toArray, List.map_cons, List.map_nil]); first | done | rfl | (simp only [List.length_drop, List.length_take]; rfl)) ?_; (with_reducible refine (spec_l1drawBytes.calls k g1267 t1265 t1266 t1268 t1271 w _ ?side1 ?side2 A3.out).mono ?_); (case side1 => repeat (first | (with_reducible first | exact HI1267.out | apply IsS112.alloc | apply IsS112.drewN | apply IsS112.drew | apply IsS112.set_1 | refine IsS112.far ?_ NB1267_1264.out _) | exact HI1267.out)); (case side2 => repeat (first | (with_reducible first | exact HB.out | apply below_alloc | apply pw_below_drewN | apply below_drew1 | refine below_set ?_ (IsS112.ge HI1267.out) | refine below_set ?_ GE1264.out) | exact HB.out)); rintro e w12 ⟨v1269, rfl, ho0, hi, hb, hk⟩; refine ⟨_, rfl, ?_⟩; have n0_ := Aside0.mk (KeepBut.blk hk (g' := gb1264) (o := .cells #[.slice none 0 0, .int .i64 0, .slice none 0 0, .int .i64 0, .slice none 0 0, .int .i64 0] 31 (0, 0)) (by (with_reducible repeat (first | refine blk_drewN ?_ _ | refine blk_drew ?_ | refine blk_alloc ?_ _)); exact BK1264.out) NB1264_1267.out (by simp)); have n1_ := Aside0.mk (Kd.R_lower ho0 (below_size (by repeat (first | (with_reducible first | exact HB.out | apply below_alloc | apply pw_below_drewN | apply below_drew1 | refine below_set ?_ (IsS112.ge HI1267.out) | refine below_set ?_ GE1264.out) | exact HB.out)))); have n2_ := Aside0.mk (hb); have n3_ := Aside0.mk (hi); clear BK1264; clear HB; clear HI1267; have BK1264 := n0_; have HO1270 := n1_; have HB := n2_; have HI1267 := n3_; clear n0_ n1_ n2_ n3_; (try clear hb); (try clear hb2); (try clear hk); (try clear hi); (try clear ho0)) | ((with_reducible refine gate_callee (f := 94) rfl ?_); refine goesL_ (some 15) rfl rfl Try.func94 (by kernel_rfl) rfl #[.pointer (some ⟨g1267, 0, none⟩)] rfl (by (try simp only [List.map_toArray, List.map_cons, List.map_nil]); first | done | rfl | (simp only [List.length_drop, List.length_take]; rfl)) ?_; (with_reducible refine (spec_l1rd_next.calls g1267 t1265 t1271 t1272 t1273 w _ ?side1 ?side2 A4.out).mono ?_); (case side1 => repeat (first | (with_reducible first | exact HI1267.out | apply IsS112.alloc | apply IsS112.drewN | apply IsS112.drew | apply IsS112.set_1 | refine IsS112.far ?_ NB1267_1264.out _) | exact HI1267.out)); (case side2 => repeat (first | (with_reducible first | exact HB.out | apply below_alloc | apply pw_below_drewN | apply below_drew1 | refine below_set ?_ (IsS112.ge HI1267.out) | refine below_set ?_ GE1264.out) | exact HB.out)); rintro e w13 ⟨rfl, hi, hb, hk⟩; refine ⟨_, rfl, ?_⟩; have n0_ := Aside0.mk (KeepBut.blk hk (g' := gb1264) (o := .cells #[.slice none 0 0, .int .i64 0, .slice none 0 0, .int .i64 0, .slice none 0 0, .int .i64 0] 31 (0, 0)) (by (with_reducible repeat (first | refine blk_drewN ?_ _ | refine blk_drew ?_ | refine blk_alloc ?_ _)); exact BK1264.out) NB1264_1267.out (by simp)); have n1_ := Aside0.mk (Kd.R_mono (Kd.R_keep (IsS112.apart (show IsS112 w _ g1267 t1265 t1271 from by repeat (first | (with_reducible first | exact HI1267.out | apply IsS112.alloc | apply IsS112.drewN | apply IsS112.drew | apply IsS112.set_1 | refine IsS112.far ?_ NB1267_1264.out _) | exact HI1267.out)) (by (with_reducible repeat (first | apply Kd.R_alloc | apply Kd.R_drewN | apply Kd.R_drew)); exact HO1270.out) (by decide)) hk (fun _ h => h.2)) (fun _ h => h.1)); have n2_ := Aside0.mk (hb); have n3_ := Aside0.mk (hi); clear BK1264; clear HO1270; clear HB; clear HI1267; have BK1264 := n0_; have HO1270 := n1_; have HB := n2_; have HI1267 := n3_; clear n0_ n1_ n2_ n3_; (try clear hb); (try clear hb2); (try clear hk); (try clear hi)) | ((with_reducible refine gate_callee (f := 95) rfl ?_); refine goesL_ (some 17) rfl rfl Try.func95 (by kernel_rfl) rfl #[.pointer (some ⟨g1267, 0, none⟩)] rfl (by (try simp only [List.map_toArray, List.map_cons, List.map_nil]); first | done | rfl | (simp only [List.length_drop, List.length_take]; rfl)) ?_; (with_reducible refine (spec_l1drawFileNo.calls g1267 t1265 t1273 t1274 t1275 w _ ?side1 ?side2 A5.out).mono ?_); (case side1 => repeat (first | (with_reducible first | exact HI1267.out | apply IsS112.alloc | apply IsS112.drewN | apply IsS112.drew | apply IsS112.set_1 | refine IsS112.far ?_ NB1267_1264.out _) | exact HI1267.out)); (case side2 => repeat (first | (with_reducible first | exact HB.out | apply below_alloc | apply pw_below_drewN | apply below_drew1 | refine below_set ?_ (IsS112.ge HI1267.out) | refine below_set ?_ GE1264.out) | exact HB.out)); rintro e w14 ⟨rfl, hi, hb, hk⟩; refine ⟨_, rfl, ?_⟩; have n0_ := Aside0.mk (KeepBut.blk hk (g' := gb1264) (o := .cells #[.slice none 0 0, .int .i64 0, .slice none 0 0, .int .i64 0, .slice none 0 0, .int .i64 0] 31 (0, 0)) (by (with_reducible repeat (first | refine blk_drewN ?_ _ | refine blk_drew ?_ | refine blk_alloc ?_ _)); exact BK1264.out) NB1264_1267.out (by simp)); have n1_ := Aside0.mk (Kd.R_mono (Kd.R_keep (IsS112.apart (show IsS112 w _ g1267 t1265 t1273 from by repeat (first | (with_reducible first | exact HI1267.out | apply IsS112.alloc | apply IsS112.drewN | apply IsS112.drew | apply IsS112.set_1 | refine IsS112.far ?_ NB1267_1264.out _) | exact HI1267.out)) (by (with_reducible repeat (first | apply Kd.R_alloc | apply Kd.R_drewN | apply Kd.R_drew)); exact HO1270.out) (by decide)) hk (fun _ h => h.2)) (fun _ h => h.1)); have n2_ := Aside0.mk (hb); have n3_ := Aside0.mk (hi); clear BK1264; clear HO1270; clear HB; clear HI1267; have BK1264 := n0_; have HO1270 := n1_; have HB := n2_; have HI1267 := n3_; clear n0_ n1_ n2_ n3_; (try clear hb); (try clear hb2); (try clear hk); (try clear hi)) | ((with_reducible refine gate_callee (f := 96) rfl ?_); refine goesL_ (some 19) rfl rfl Try.func96 (by kernel_rfl) rfl #[.pointer (some ⟨g1267, 0, none⟩)] rfl (by (try simp only [List.map_toArray, List.map_cons, List.map_nil]); first | done | rfl | (simp only [List.length_drop, List.length_take]; rfl)) ?_; (with_reducible refine (spec_l1drawDisk.calls k g1267 t1265 t1275 t1276 t1279 t1280 t1283 t1284 t1287 t1288 w _ ?side1 ?side2 A6.out).mono ?_); (case side1 => repeat (first | (with_reducible first | exact HI1267.out | apply IsS112.alloc | apply IsS112.drewN | apply IsS112.drew | apply IsS112.set_1 | refine IsS112.far ?_ NB1267_1264.out _) | exact HI1267.out)); (case side2 => repeat (first | (with_reducible first | exact HB.out | apply below_alloc | apply pw_below_drewN | apply below_drew1 | refine below_set ?_ (IsS112.ge HI1267.out) | refine below_set ?_ GE1264.out) | exact HB.out)); rintro e w15 ⟨v1277, v1281, v1285, rfl, ho0, ho1, ho2, hi, hb, hk⟩; refine ⟨_, rfl, ?_⟩; have n0_ := Aside0.mk (KeepBut.blk hk (g' := gb1264) (o := .cells #[.slice none 0 0, .int .i64 0, .slice none 0 0, .int .i64 0, .slice none 0 0, .int .i64 0] 31 (0, 0)) (by (with_reducible repeat (first | refine blk_drewN ?_ _ | refine blk_drew ?_ | refine blk_alloc ?_ _)); exact BK1264.out) NB1264_1267.out (by simp)); have n1_ := Aside0.mk (Kd.R_mono (Kd.R_told (Kd.R_told (Kd.R_told (Kd.R_oldK (IsS112.apart (show IsS112 w _ g1267 t1265 t1275 from by repeat (first | (with_reducible first | exact HI1267.out | apply IsS112.alloc | apply IsS112.drewN | apply IsS112.drew | apply IsS112.set_1 | refine IsS112.far ?_ NB1267_1264.out _) | exact HI1267.out)) (by (with_reducible repeat (first | apply Kd.R_alloc | apply Kd.R_drewN | apply Kd.R_drew)); exact HO1270.out) (by decide)) hk) (Kd.R_base ho0)) (Kd.R_base ho1)) (Kd.R_base ho2)) (fun _ h_ => h_.1)); have n2_ := Aside0.mk (Kd.R_lower (Kd.R_new' ho0 (Kd.R_lt (by (with_reducible repeat (first | apply Kd.R_alloc | apply Kd.R_drewN | apply Kd.R_drew)); exact HO1270.out))) (below_size (by repeat (first | (with_reducible first | exact HB.out | apply below_alloc | apply pw_below_drewN | apply below_drew1 | refine below_set ?_ (IsS112.ge HI1267.out) | refine below_set ?_ GE1264.out) | exact HB.out)))); have n3_ := Aside0.mk (Kd.R_lower (Kd.R_new' ho1 (Kd.R_lt (by (with_reducible repeat (first | apply Kd.R_alloc | apply Kd.R_drewN | apply Kd.R_drew)); exact HO1270.out))) (below_size (by repeat (first | (with_reducible first | exact HB.out | apply below_alloc | apply pw_below_drewN | apply below_drew1 | refine below_set ?_ (IsS112.ge HI1267.out) | refine below_set ?_ GE1264.out) | exact HB.out)))); have n4_ := Aside0.mk (Kd.R_lower (Kd.R_new' ho2 (Kd.R_lt (by (with_reducible repeat (first | apply Kd.R_alloc | apply Kd.R_drewN | apply Kd.R_drew)); exact HO1270.out))) (below_size (by repeat (first | (with_reducible first | exact HB.out | apply below_alloc | apply pw_below_drewN | apply below_drew1 | refine below_set ?_ (IsS112.ge HI1267.out) | refine below_set ?_ GE1264.out) | exact HB.out)))); have n5_ := Aside0.mk (hb); have n6_ := Aside0.mk (hi); clear BK1264; clear HO1270; clear HB; clear HI1267; have BK1264 := n0_; have HO1270 := n1_; have HO1278 := n2_; have HO1282 := n3_; have HO1286 := n4_; have HB := n5_; have HI1267 := n6_; clear n0_ n1_ n2_ n3_ n4_ n5_ n6_; (try clear hb); (try clear hb2); (try clear hk); (try clear hi); (try clear ho0); (try clear ho1); (try clear ho2)) | ((with_reducible refine gate_dst (N := 9) rfl ?_); refine box_event ?hg (N := 9) ?hd (cs := #[.slice none 0 0, .int .i64 0, .slice none 0 0, .int .i64 0, .slice none 0 0, .int .i64 0]) (t := 31) ?hr ?_; (case hd => rfl); (case hg => rfl); (case hr => first | (go_simp; done) | (go_simp; rfl)); intro gb1289 hg w16 hbox hb; have n0_ := Aside0.mk (Kd.R_below (by (with_reducible repeat (first | apply Kd.R_alloc | apply Kd.R_drewN | apply Kd.R_drew)); exact HO1270.out) hb); have n1_ := Aside0.mk (Kd.R_below (by (with_reducible repeat (first | apply Kd.R_alloc | apply Kd.R_drewN | apply Kd.R_drew)); exact HO1278.out) hb); have n2_ := Aside0.mk (Kd.R_below (by (with_reducible repeat (first | apply Kd.R_alloc | apply Kd.R_drewN | apply Kd.R_drew)); exact HO1282.out) hb); have n3_ := Aside0.mk (Kd.R_below (by (with_reducible repeat (first | apply Kd.R_alloc | apply Kd.R_drewN | apply Kd.R_drew)); exact HO1286.out) hb); have n4_ := Aside0.mk (blk_below (g := gb1264) (o := .cells #[.slice none 0 0, .int .i64 0, .slice none 0 0, .int .i64 0, .slice none 0 0, .int .i64 0] 31 (0, 0)) (by (with_reducible repeat (first | refine blk_drewN ?_ _ | refine blk_drew ?_ | refine blk_alloc ?_ _)); exact BK1264.out) hb); have n5_ := Aside0.mk (IsS112.below (by repeat (first | (with_reducible first | exact HI1267.out | apply IsS112.alloc | apply IsS112.drewN | apply IsS112.drew | apply IsS112.set_1 | refine IsS112.far ?_ NB1267_1264.out _) | exact HI1267.out)) hb); have n6_ := Aside0.mk (below_step (by repeat (first | (with_reducible first | exact HB.out | apply below_alloc | apply pw_below_drewN | apply below_drew1 | refine below_set ?_ (IsS112.ge HI1267.out) | refine below_set ?_ GE1264.out) | exact HB.out)) hb); have n7_ := Aside0.mk (hbox); have n8_ := Aside0.mk ((by rw [hg]; exact (below_size (by repeat (first | (with_reducible first | exact HB.out | apply below_alloc | apply pw_below_drewN | apply below_drew1 | refine below_set ?_ (IsS112.ge HI1267.out) | refine below_set ?_ GE1264.out) | exact HB.out))) : w.heap.size ≤ gb1289)); have n9_ := Aside0.mk ((by rw [hg]; exact (below_size (by repeat (first | (with_reducible first | exact HB.out | apply below_alloc | apply pw_below_drewN | apply below_drew1 | refine below_set ?_ (IsS112.ge HI1267.out) | refine below_set ?_ GE1264.out) | exact HB.out))) : w.heap.size ≤ gb1289)); have n10_ := Aside0.mk ((by rw [hg]; exact Nat.ne_of_lt (blk_lt (g := gb1264) (o := .cells #[.slice none 0 0, .int .i64 0, .slice none 0 0, .int .i64 0, .slice none 0 0, .int .i64 0] 31 (0, 0)) (by (with_reducible repeat (first | refine blk_drewN ?_ _ | refine blk_drew ?_ | refine blk_alloc ?_ _)); exact BK1264.out)) : gb1264 ≠ gb1289)); have n11_ := Aside0.mk ((by rw [hg]; exact Nat.ne_of_gt (blk_lt (g := gb1264) (o := .cells #[.slice none 0 0, .int .i64 0, .slice none 0 0, .int .i64 0, .slice none 0 0, .int .i64 0] 31 (0, 0)) (by (with_reducible repeat (first | refine blk_drewN ?_ _ | refine blk_drew ?_ | refine blk_alloc ?_ _)); exact BK1264.out)) : gb1289 ≠ gb1264)); have n12_ := Aside0.mk ((by rw [hg]; exact Nat.ne_of_lt (IsS112.lt (show IsS112 w _ g1267 t1265 t1288 from by repeat (first | (with_reducible first | exact HI1267.out | apply IsS112.alloc | apply IsS112.drewN | apply IsS112.drew | apply IsS112.set_1 | refine IsS112.far ?_ NB1267_1264.out _) | exact HI1267.out))) : g1267 ≠ gb1289)); have n13_ := Aside0.mk ((by rw [hg]; exact Nat.ne_of_gt (IsS112.lt (show IsS112 w _ g1267 t1265 t1288 from by repeat (first | (with_reducible first | exact HI1267.out | apply IsS112.alloc | apply IsS112.drewN | apply IsS112.drew | apply IsS112.set_1 | refine IsS112.far ?_ NB1267_1264.out _) | exact HI1267.out))) : gb1289 ≠ g1267)); clear HO1270; clear HO1278; clear HO1282; clear HO1286; clear BK1264; clear HI1267; clear HB; have HO1270 := n0_; have HO1278 := n1_; have HO1282 := n2_; have HO1286 := n3_; have BK1264 := n4_; have HI1267 := n5_; have HB := n6_; have BK1289 := n7_; have GW1289 := n8_; have GE1289 := n9_; have NB1264_1289 := n10_; have NB1289_1264 := n11_; have NB1267_1289 := n12_; have NB1289_1267 := n13_; clear n0_ n1_ n2_ n3_ n4_ n5_ n6_ n7_ n8_ n9_ n10_ n11_ n12_ n13_; clear hb hbox hg; obtain ⟨Ao17, co17, eo17⟩ := Kd.R_slice HO1278.out; subst eo17; have hnb18 := NB1289_1264.out; have hnc18 := NB1264_1289.out; have hnb19 := NB1289_1267.out; have hnc19 := NB1267_1289.out; have hcz20_0 : w16.cell? ⟨gb1289, 0, none⟩ = some (.slice none 0 0) := (blk_cell BK1289.out 0).trans rfl; have hcz20_1 : w16.cell? ⟨gb1289, 1, none⟩ = some (.int .i64 0) := (blk_cell BK1289.out 1).trans rfl; have hcz20_2 : w16.cell? ⟨gb1289, 2, none⟩ = some (.slice none 0 0) := (blk_cell BK1289.out 2).trans rfl; have hcz20_3 : w16.cell? ⟨gb1289, 3, none⟩ = some (.int .i64 0) := (blk_cell BK1289.out 3).trans rfl; have hcz20_4 : w16.cell? ⟨gb1289, 4, none⟩ = some (.slice none 0 0) := (blk_cell BK1289.out 4).trans rfl; have hcz20_5 : w16.cell? ⟨gb1289, 5, none⟩ = some (.int .i64 0) := (blk_cell BK1289.out 5).trans rfl; have hfz20_0 := blk_frozen BK1289.out 0; have hfz20_1 := blk_frozen BK1289.out 1; have hfz20_2 := blk_frozen BK1289.out 2; have hfz20_3 := blk_frozen BK1289.out 3; have hfz20_4 := blk_frozen BK1289.out 4; have hfz20_5 := blk_frozen BK1289.out 5; obtain ⟨Ao21, co21, eo21⟩ := Kd.R_slice HO1282.out; subst eo21; obtain ⟨Ao22, co22, eo22⟩ := Kd.R_slice HO1286.out; subst eo22) | ((with_reducible refine gate_callee (f := 97) rfl ?_); refine goesL_ (some 22) rfl rfl Try.func97 (by kernel_rfl) rfl #[.int .u8 3, .int .i64 199998] rfl (by (try simp only [List.map_toArray, List.map_cons, List.map_nil]); first | done | rfl | (simp only [List.length_drop, List.length_take]; rfl)) ?_; (with_reducible refine (spec_l1fill.calls k 3 199998 t1290 _ A8.out).mono ?_); rintro e w23 ⟨v1291, rfl, ho0, hb⟩; refine ⟨_, rfl, ?_⟩; have n0_ := Aside0.mk (Kd.R_elder' (by (with_reducible repeat (first | apply Kd.R_alloc | apply Kd.R_drewN | apply Kd.R_drew)); exact (Kd.R_mono (Kd.R_far (p := ⟨gb1289, 5, none⟩) (Kd.R_far (p := ⟨gb1289, 4, none⟩) (Kd.R_far (p := ⟨gb1289, 3, none⟩) (Kd.R_far (p := ⟨gb1289, 2, none⟩) (Kd.R_far (p := ⟨gb1289, 1, none⟩) (Kd.R_far (p := ⟨gb1289, 0, none⟩) (Kd.R_types HO1270.out BK1289.out (by decide)) (fun _ hk => hk.2) (.slice Ao17 t1276.length co17)) (fun _ hk => hk.2) (.int .i64 t1279)) (fun _ hk => hk.2) (.slice Ao21 t1280.length co21)) (fun _ hk => hk.2) (.int .i64 t1283)) (fun _ hk => hk.2) (.slice Ao22 t1284.length co22)) (fun _ hk => hk.2) (.int .i64 t1287)) (fun _ h_ => h_.1))) (Kd.R_base ho0) hb); have n1_ := Aside0.mk (Kd.R_elder' (by (with_reducible repeat (first | apply Kd.R_alloc | apply Kd.R_drewN | apply Kd.R_drew)); exact (Kd.R_mono (Kd.R_far (p := ⟨gb1289, 5, none⟩) (Kd.R_far (p := ⟨gb1289, 4, none⟩) (Kd.R_far (p := ⟨gb1289, 3, none⟩) (Kd.R_far (p := ⟨gb1289, 2, none⟩) (Kd.R_far (p := ⟨gb1289, 1, none⟩) (Kd.R_far (p := ⟨gb1289, 0, none⟩) (Kd.R_types HO1278.out BK1289.out (by decide)) (fun _ hk => hk.2) (.slice Ao17 t1276.length co17)) (fun _ hk => hk.2) (.int .i64 t1279)) (fun _ hk => hk.2) (.slice Ao21 t1280.length co21)) (fun _ hk => hk.2) (.int .i64 t1283)) (fun _ hk => hk.2) (.slice Ao22 t1284.length co22)) (fun _ hk => hk.2) (.int .i64 t1287)) (fun _ h_ => h_.1))) (Kd.R_base ho0) hb); have n2_ := Aside0.mk (Kd.R_elder' (by (with_reducible repeat (first | apply Kd.R_alloc | apply Kd.R_drewN | apply Kd.R_drew)); exact (Kd.R_mono (Kd.R_far (p := ⟨gb1289, 5, none⟩) (Kd.R_far (p := ⟨gb1289, 4, none⟩) (Kd.R_far (p := ⟨gb1289, 3, none⟩) (Kd.R_far (p := ⟨gb1289, 2, none⟩) (Kd.R_far (p := ⟨gb1289, 1, none⟩) (Kd.R_far (p := ⟨gb1289, 0, none⟩) (Kd.R_types HO1282.out BK1289.out (by decide)) (fun _ hk => hk.2) (.slice Ao17 t1276.length co17)) (fun _ hk => hk.2) (.int .i64 t1279)) (fun _ hk => hk.2) (.slice Ao21 t1280.length co21)) (fun _ hk => hk.2) (.int .i64 t1283)) (fun _ hk => hk.2) (.slice Ao22 t1284.length co22)) (fun _ hk => hk.2) (.int .i64 t1287)) (fun _ h_ => h_.1))) (Kd.R_base ho0) hb); have n3_ := Aside0.mk (Kd.R_elder' (by (with_reducible repeat (first | apply Kd.R_alloc | apply Kd.R_drewN | apply Kd.R_drew)); exact (Kd.R_mono (Kd.R_far (p := ⟨gb1289, 5, none⟩) (Kd.R_far (p := ⟨gb1289, 4, none⟩) (Kd.R_far (p := ⟨gb1289, 3, none⟩) (Kd.R_far (p := ⟨gb1289, 2, none⟩) (Kd.R_far (p := ⟨gb1289, 1, none⟩) (Kd.R_far (p := ⟨gb1289, 0, none⟩) (Kd.R_types HO1286.out BK1289.out (by decide)) (fun _ hk => hk.2) (.slice Ao17 t1276.length co17)) (fun _ hk => hk.2) (.int .i64 t1279)) (fun _ hk => hk.2) (.slice Ao21 t1280.length co21)) (fun _ hk => hk.2) (.int .i64 t1283)) (fun _ hk => hk.2) (.slice Ao22 t1284.length co22)) (fun _ hk => hk.2) (.int .i64 t1287)) (fun _ h_ => h_.1))) (Kd.R_base ho0) hb); have n4_ := Aside0.mk (Kd.R_lower (Kd.R_new' (Kd.R_new' (Kd.R_new' (Kd.R_new' ho0 (Kd.R_lt (by (with_reducible repeat (first | apply Kd.R_alloc | apply Kd.R_drewN | apply Kd.R_drew)); exact (Kd.R_mono (Kd.R_far (p := ⟨gb1289, 5, none⟩) (Kd.R_far (p := ⟨gb1289, 4, none⟩) (Kd.R_far (p := ⟨gb1289, 3, none⟩) (Kd.R_far (p := ⟨gb1289, 2, none⟩) (Kd.R_far (p := ⟨gb1289, 1, none⟩) (Kd.R_far (p := ⟨gb1289, 0, none⟩) (Kd.R_types HO1270.out BK1289.out (by decide)) (fun _ hk => hk.2) (.slice Ao17 t1276.length co17)) (fun _ hk => hk.2) (.int .i64 t1279)) (fun _ hk => hk.2) (.slice Ao21 t1280.length co21)) (fun _ hk => hk.2) (.int .i64 t1283)) (fun _ hk => hk.2) (.slice Ao22 t1284.length co22)) (fun _ hk => hk.2) (.int .i64 t1287)) (fun _ h_ => h_.1))))) (Kd.R_lt (by (with_reducible repeat (first | apply Kd.R_alloc | apply Kd.R_drewN | apply Kd.R_drew)); exact (Kd.R_mono (Kd.R_far (p := ⟨gb1289, 5, none⟩) (Kd.R_far (p := ⟨gb1289, 4, none⟩) (Kd.R_far (p := ⟨gb1289, 3, none⟩) (Kd.R_far (p := ⟨gb1289, 2, none⟩) (Kd.R_far (p := ⟨gb1289, 1, none⟩) (Kd.R_far (p := ⟨gb1289, 0, none⟩) (Kd.R_types HO1278.out BK1289.out (by decide)) (fun _ hk => hk.2) (.slice Ao17 t1276.length co17)) (fun _ hk => hk.2) (.int .i64 t1279)) (fun _ hk => hk.2) (.slice Ao21 t1280.length co21)) (fun _ hk => hk.2) (.int .i64 t1283)) (fun _ hk => hk.2) (.slice Ao22 t1284.length co22)) (fun _ hk => hk.2) (.int .i64 t1287)) (fun _ h_ => h_.1))))) (Kd.R_lt (by (with_reducible repeat (first | apply Kd.R_alloc | apply Kd.R_drewN | apply Kd.R_drew)); exact (Kd.R_mono (Kd.R_far (p := ⟨gb1289, 5, none⟩) (Kd.R_far (p := ⟨gb1289, 4, none⟩) (Kd.R_far (p := ⟨gb1289, 3, none⟩) (Kd.R_far (p := ⟨gb1289, 2, none⟩) (Kd.R_far (p := ⟨gb1289, 1, none⟩) (Kd.R_far (p := ⟨gb1289, 0, none⟩) (Kd.R_types HO1282.out BK1289.out (by decide)) (fun _ hk => hk.2) (.slice Ao17 t1276.length co17)) (fun _ hk => hk.2) (.int .i64 t1279)) (fun _ hk => hk.2) (.slice Ao21 t1280.length co21)) (fun _ hk => hk.2) (.int .i64 t1283)) (fun _ hk => hk.2) (.slice Ao22 t1284.length co22)) (fun _ hk => hk.2) (.int .i64 t1287)) (fun _ h_ => h_.1))))) (Kd.R_lt (by (with_reducible repeat (first | apply Kd.R_alloc | apply Kd.R_drewN | apply Kd.R_drew)); exact (Kd.R_mono (Kd.R_far (p := ⟨gb1289, 5, none⟩) (Kd.R_far (p := ⟨gb1289, 4, none⟩) (Kd.R_far (p := ⟨gb1289, 3, none⟩) (Kd.R_far (p := ⟨gb1289, 2, none⟩) (Kd.R_far (p := ⟨gb1289, 1, none⟩) (Kd.R_far (p := ⟨gb1289, 0, none⟩) (Kd.R_types HO1286.out BK1289.out (by decide)) (fun _ hk => hk.2) (.slice Ao17 t1276.length co17)) (fun _ hk => hk.2) (.int .i64 t1279)) (fun _ hk => hk.2) (.slice Ao21 t1280.length co21)) (fun _ hk => hk.2) (.int .i64 t1283)) (fun _ hk => hk.2) (.slice Ao22 t1284.length co22)) (fun _ hk => hk.2) (.int .i64 t1287)) (fun _ h_ => h_.1))))) (below_size (by repeat (first | (with_reducible first | exact HB.out | apply below_alloc | apply pw_below_drewN | apply below_drew1 | refine below_set ?_ (IsS112.ge HI1267.out) | refine below_set ?_ GE1264.out | refine below_set ?_ GE1289.out) | exact HB.out)))); have n5_ := Aside0.mk (blk_below (g := gb1264) (o := .cells #[.slice none 0 0, .int .i64 0, .slice none 0 0, .int .i64 0, .slice none 0 0, .int .i64 0] 31 (0, 0)) (by (with_reducible repeat (first | refine blk_drewN ?_ _ | refine blk_drew ?_ | refine blk_alloc ?_ _)); refine blk_far ?_ NB1264_1289.out _; (with_reducible repeat (first | refine blk_drewN ?_ _ | refine blk_drew ?_ | refine blk_alloc ?_ _)); refine blk_far ?_ NB1264_1289.out _; (with_reducible repeat (first | refine blk_drewN ?_ _ | refine blk_drew ?_ | refine blk_alloc ?_ _)); refine blk_far ?_ NB1264_1289.out _; (with_reducible repeat (first | refine blk_drewN ?_ _ | refine blk_drew ?_ | refine blk_alloc ?_ _)); refine blk_far ?_ NB1264_1289.out _; (with_reducible repeat (first | refine blk_drewN ?_ _ | refine blk_drew ?_ | refine blk_alloc ?_ _)); refine blk_far ?_ NB1264_1289.out _; (with_reducible repeat (first | refine blk_drewN ?_ _ | refine blk_drew ?_ | refine blk_alloc ?_ _)); refine blk_far ?_ NB1264_1289.out _; (with_reducible repeat (first | refine blk_drewN ?_ _ | refine blk_drew ?_ | refine blk_alloc ?_ _)); exact BK1264.out) hb); have n6_ := Aside0.mk (IsS112.below (show IsS112 w ((((((w16.setCell ⟨gb1289, 0, none⟩ (.slice Ao17 t1276.length co17)).setCell ⟨gb1289, 1, none⟩ (.int .i64 t1279)).setCell ⟨gb1289, 2, none⟩ (.slice Ao21 t1280.length co21)).setCell ⟨gb1289, 3, none⟩ (.int .i64 t1283)).setCell ⟨gb1289, 4, none⟩ (.slice Ao22 t1284.length co22)).setCell ⟨gb1289, 5, none⟩ (.int .i64 t1287)) g1267 t1265 t1288 from by repeat (first | (with_reducible first | exact HI1267.out | apply IsS112.alloc | apply IsS112.drewN | apply IsS112.drew | apply IsS112.set_1 | refine IsS112.far ?_ NB1267_1264.out _ | refine IsS112.far ?_ NB1267_1289.out _) | exact HI1267.out)) hb); have n7_ := Aside0.mk (blk_below (g := gb1289) (o := .cells #[.slice Ao17 t1276.length co17, .int .i64 t1279, .slice Ao21 t1280.length co21, .int .i64 t1283, .slice Ao22 t1284.length co22, .int .i64 t1287] 31 (0, 0)) (by (with_reducible repeat (first | refine blk_drewN ?_ _ | refine blk_drew ?_ | refine blk_alloc ?_ _)); refine blk_put (cs := #[.slice Ao17 t1276.length co17, .int .i64 t1279, .slice Ao21 t1280.length co21, .int .i64 t1283, .slice Ao22 t1284.length co22, .int .i64 0]) ?_ 5 _ rfl; (with_reducible repeat (first | refine blk_drewN ?_ _ | refine blk_drew ?_ | refine blk_alloc ?_ _)); refine blk_put (cs := #[.slice Ao17 t1276.length co17, .int .i64 t1279, .slice Ao21 t1280.length co21, .int .i64 t1283, .slice none 0 0, .int .i64 0]) ?_ 4 _ rfl; (with_reducible repeat (first | refine blk_drewN ?_ _ | refine blk_drew ?_ | refine blk_alloc ?_ _)); refine blk_put (cs := #[.slice Ao17 t1276.length co17, .int .i64 t1279, .slice Ao21 t1280.length co21, .int .i64 0, .slice none 0 0, .int .i64 0]) ?_ 3 _ rfl; (with_reducible repeat (first | refine blk_drewN ?_ _ | refine blk_drew ?_ | refine blk_alloc ?_ _)); refine blk_put (cs := #[.slice Ao17 t1276.length co17, .int .i64 t1279, .slice none 0 0, .int .i64 0, .slice none 0 0, .int .i64 0]) ?_ 2 _ rfl; (with_reducible repeat (first | refine blk_drewN ?_ _ | refine blk_drew ?_ | refine blk_alloc ?_ _)); refine blk_put (cs := #[.slice Ao17 t1276.length co17, .int .i64 0, .slice none 0 0, .int .i64 0, .slice none 0 0, .int .i64 0]) ?_ 1 _ rfl; (with_reducible repeat (first | refine blk_drewN ?_ _ | refine blk_drew ?_ | refine blk_alloc ?_ _)); refine blk_put (cs := #[.slice none 0 0, .int .i64 0, .slice none 0 0, .int .i64 0, .slice none 0 0, .int .i64 0]) ?_ 0 _ rfl; (with_reducible repeat (first | refine blk_drewN ?_ _ | refine blk_drew ?_ | refine blk_alloc ?_ _)); exact BK1289.out) hb); have n8_ := Aside0.mk (below_step (by repeat (first | (with_reducible first | exact HB.out | apply below_alloc | apply pw_below_drewN | apply below_drew1 | refine below_set ?_ (IsS112.ge HI1267.out) | refine below_set ?_ GE1264.out | refine below_set ?_ GE1289.out) | exact HB.out)) hb); clear HO1270; clear HO1278; clear HO1282; clear HO1286; clear BK1264; clear HI1267; clear BK1289; clear HB; have HO1270 := n0_; have HO1278 := n1_; have HO1282 := n2_; have HO1286 := n3_; have HO1292 := n4_; have BK1264 := n5_; have HI1267 := n6_; have BK1289 := n7_; have HB := n8_; clear n0_ n1_ n2_ n3_ n4_ n5_ n6_ n7_ n8_; (try clear hb); (try clear hb2); (try clear hk); (try clear hi); (try clear ho0); obtain ⟨Ao24, co24, eo24⟩ := Kd.R_slice HO1292.out; subst eo24; have hcz25_0 : w23.cell? ⟨gb1289, 0, none⟩ = some (.slice Ao17 t1276.length co17) := (blk_cell BK1289.out 0).trans rfl; have hcz25_1 : w23.cell? ⟨gb1289, 1, none⟩ = some (.int .i64 t1279) := (blk_cell BK1289.out 1).trans rfl; have hcz25_2 : w23.cell? ⟨gb1289, 2, none⟩ = some (.slice Ao21 t1280.length co21) := (blk_cell BK1289.out 2).trans rfl; have hcz25_3 : w23.cell? ⟨gb1289, 3, none⟩ = some (.int .i64 t1283) := (blk_cell BK1289.out 3).trans rfl; have hcz25_4 : w23.cell? ⟨gb1289, 4, none⟩ = some (.slice Ao22 t1284.length co22) := (blk_cell BK1289.out 4).trans rfl; have hcz25_5 : w23.cell? ⟨gb1289, 5, none⟩ = some (.int .i64 t1287) := (blk_cell BK1289.out 5).trans rfl; have hfz25_0 := blk_frozen BK1289.out 0; have hfz25_1 := blk_frozen BK1289.out 1; have hfz25_2 := blk_frozen BK1289.out 2; have hfz25_3 := blk_frozen BK1289.out 3; have hfz25_4 := blk_frozen BK1289.out 4; have hfz25_5 := blk_frozen BK1289.out 5))
    have n0_ : Aside0 (Kd.R (Kd.int .u8) 5 ((w23.setCell ⟨gb1289, 4, none⟩ (.slice Ao24 t1290.length co24)).setCell ⟨gb1289, 5, none⟩ (.int .i64 0)) w.heap.size (fun k_ => some k_ ≠ (.slice Ao17 t1276.length co17 : Value).ownBlock ∧ some k_ ≠ (.slice Ao21 t1280.length co21 : Value).ownBlock ∧ some k_ ≠ (.slice Ao22 t1284.length co22 : Value).ownBlock ∧ some k_ ≠ (.slice Ao24 t1290.length co24 : Value).ownBlock) v1269 t1268) := ⟨by (with_reducible repeat (first | apply Kd.R_alloc | apply Kd.R_drewN | apply Kd.R_drew)); exact Kd.R_mono (Kd.R_far (p := ⟨gb1289, 5, none⟩) (Kd.R_far (p := ⟨gb1289, 4, none⟩) (Kd.R_types HO1270.out BK1289.out (by decide)) (fun _ hk => hk.2) (.slice Ao24 t1290.length co24)) (fun _ hk => hk.2) (.int .i64 0)) (fun _ hk => ⟨hk.1.1.1.1.2, ⟨hk.1.1.1.2, ⟨hk.1.1.2, hk.1.2⟩⟩⟩)⟩
    have n1_ : Aside0 (Kd.R (Kd.int .u8) 5 ((w23.setCell ⟨gb1289, 4, none⟩ (.slice Ao24 t1290.length co24)).setCell ⟨gb1289, 5, none⟩ (.int .i64 0)) w.heap.size (fun k_ => some k_ ≠ (v1269 : Value).ownBlock ∧ some k_ ≠ (.slice Ao21 t1280.length co21 : Value).ownBlock ∧ some k_ ≠ (.slice Ao22 t1284.length co22 : Value).ownBlock ∧ some k_ ≠ (.slice Ao24 t1290.length co24 : Value).ownBlock) (.slice Ao17 t1276.length co17) t1276) := ⟨by (with_reducible repeat (first | apply Kd.R_alloc | apply Kd.R_drewN | apply Kd.R_drew)); exact Kd.R_mono (Kd.R_far (p := ⟨gb1289, 5, none⟩) (Kd.R_far (p := ⟨gb1289, 4, none⟩) (Kd.R_types HO1278.out BK1289.out (by decide)) (fun _ hk => hk.2) (.slice Ao24 t1290.length co24)) (fun _ hk => hk.2) (.int .i64 0)) (fun _ hk => ⟨hk.1.1.2, ⟨hk.1.1.1.1, ⟨hk.1.1.1.2, hk.1.2⟩⟩⟩)⟩
    have n2_ : Aside0 (Kd.R (Kd.int .u8) 5 ((w23.setCell ⟨gb1289, 4, none⟩ (.slice Ao24 t1290.length co24)).setCell ⟨gb1289, 5, none⟩ (.int .i64 0)) w.heap.size (fun k_ => some k_ ≠ (v1269 : Value).ownBlock ∧ some k_ ≠ (.slice Ao17 t1276.length co17 : Value).ownBlock ∧ some k_ ≠ (.slice Ao22 t1284.length co22 : Value).ownBlock ∧ some k_ ≠ (.slice Ao24 t1290.length co24 : Value).ownBlock) (.slice Ao21 t1280.length co21) t1280) := ⟨by (with_reducible repeat (first | apply Kd.R_alloc | apply Kd.R_drewN | apply Kd.R_drew)); exact Kd.R_mono (Kd.R_far (p := ⟨gb1289, 5, none⟩) (Kd.R_far (p := ⟨gb1289, 4, none⟩) (Kd.R_types HO1282.out BK1289.out (by decide)) (fun _ hk => hk.2) (.slice Ao24 t1290.length co24)) (fun _ hk => hk.2) (.int .i64 0)) (fun _ hk => ⟨hk.1.1.2, ⟨hk.1.1.1.1, ⟨hk.1.1.1.2, hk.1.2⟩⟩⟩)⟩
    have n3_ : Aside0 (Kd.R (Kd.int .u8) 5 ((w23.setCell ⟨gb1289, 4, none⟩ (.slice Ao24 t1290.length co24)).setCell ⟨gb1289, 5, none⟩ (.int .i64 0)) w.heap.size (fun k_ => some k_ ≠ (v1269 : Value).ownBlock ∧ some k_ ≠ (.slice Ao17 t1276.length co17 : Value).ownBlock ∧ some k_ ≠ (.slice Ao21 t1280.length co21 : Value).ownBlock ∧ some k_ ≠ (.slice Ao24 t1290.length co24 : Value).ownBlock) (.slice Ao22 t1284.length co22) t1284) := ⟨by (with_reducible repeat (first | apply Kd.R_alloc | apply Kd.R_drewN | apply Kd.R_drew)); exact Kd.R_mono (Kd.R_far (p := ⟨gb1289, 5, none⟩) (Kd.R_far (p := ⟨gb1289, 4, none⟩) (Kd.R_types HO1286.out BK1289.out (by decide)) (fun _ hk => hk.2) (.slice Ao24 t1290.length co24)) (fun _ hk => hk.2) (.int .i64 0)) (fun _ hk => ⟨hk.1.1.2, ⟨hk.1.1.1.1, ⟨hk.1.1.1.2, hk.1.2⟩⟩⟩)⟩
    have n4_ : Aside0 (Kd.R (Kd.int .u8) 5 ((w23.setCell ⟨gb1289, 4, none⟩ (.slice Ao24 t1290.length co24)).setCell ⟨gb1289, 5, none⟩ (.int .i64 0)) w.heap.size (fun k_ => some k_ ≠ (v1269 : Value).ownBlock ∧ some k_ ≠ (.slice Ao17 t1276.length co17 : Value).ownBlock ∧ some k_ ≠ (.slice Ao21 t1280.length co21 : Value).ownBlock ∧ some k_ ≠ (.slice Ao22 t1284.length co22 : Value).ownBlock) (.slice Ao24 t1290.length co24) t1290) := ⟨by (with_reducible repeat (first | apply Kd.R_alloc | apply Kd.R_drewN | apply Kd.R_drew)); exact Kd.R_mono (Kd.R_far (p := ⟨gb1289, 5, none⟩) (Kd.R_far (p := ⟨gb1289, 4, none⟩) (Kd.R_types HO1292.out BK1289.out (by decide)) (fun _ hk => hk.2) (.slice Ao24 t1290.length co24)) (fun _ hk => hk.2) (.int .i64 0)) (fun _ hk => ⟨hk.1.1.1.1.2, ⟨hk.1.1.1.2, ⟨hk.1.1.2, hk.1.2⟩⟩⟩)⟩
    have n5_ : Aside0 (((w23.setCell ⟨gb1289, 4, none⟩ (.slice Ao24 t1290.length co24)).setCell ⟨gb1289, 5, none⟩ (.int .i64 0)).heap[gb1264]? = some (.cells #[.slice none 0 0, .int .i64 0, .slice none 0 0, .int .i64 0, .slice none 0 0, .int .i64 0] 31 (0, 0))) := ⟨by (with_reducible repeat (first | refine blk_drewN ?_ _ | refine blk_drew ?_ | refine blk_alloc ?_ _)); refine blk_far ?_ NB1264_1289.out _; (with_reducible repeat (first | refine blk_drewN ?_ _ | refine blk_drew ?_ | refine blk_alloc ?_ _)); refine blk_far ?_ NB1264_1289.out _; (with_reducible repeat (first | refine blk_drewN ?_ _ | refine blk_drew ?_ | refine blk_alloc ?_ _)); exact BK1264.out⟩
    have n6_ : Aside0 (((w23.setCell ⟨gb1289, 4, none⟩ (.slice Ao24 t1290.length co24)).setCell ⟨gb1289, 5, none⟩ (.int .i64 0)).heap[gb1289]? = some (.cells #[.slice Ao17 t1276.length co17, .int .i64 t1279, .slice Ao21 t1280.length co21, .int .i64 t1283, .slice Ao24 t1290.length co24, .int .i64 0] 31 (0, 0))) := ⟨by (with_reducible repeat (first | refine blk_drewN ?_ _ | refine blk_drew ?_ | refine blk_alloc ?_ _)); refine blk_put (cs := #[.slice Ao17 t1276.length co17, .int .i64 t1279, .slice Ao21 t1280.length co21, .int .i64 t1283, .slice Ao24 t1290.length co24, .int .i64 t1287]) ?_ 5 _ rfl; (with_reducible repeat (first | refine blk_drewN ?_ _ | refine blk_drew ?_ | refine blk_alloc ?_ _)); refine blk_put (cs := #[.slice Ao17 t1276.length co17, .int .i64 t1279, .slice Ao21 t1280.length co21, .int .i64 t1283, .slice Ao22 t1284.length co22, .int .i64 t1287]) ?_ 4 _ rfl; (with_reducible repeat (first | refine blk_drewN ?_ _ | refine blk_drew ?_ | refine blk_alloc ?_ _)); exact BK1289.out⟩
    have n7_ : Aside0 (IsS112 w ((w23.setCell ⟨gb1289, 4, none⟩ (.slice Ao24 t1290.length co24)).setCell ⟨gb1289, 5, none⟩ (.int .i64 0)) g1267 t1265 t1288) := ⟨by repeat (first | (with_reducible first | exact HI1267.out | apply IsS112.alloc | apply IsS112.drewN | apply IsS112.drew | apply IsS112.set_1 | refine IsS112.far ?_ NB1267_1264.out _ | refine IsS112.far ?_ NB1267_1289.out _) | exact HI1267.out)⟩
    have n8_ : Aside0 (Below w.heap.size w ((w23.setCell ⟨gb1289, 4, none⟩ (.slice Ao24 t1290.length co24)).setCell ⟨gb1289, 5, none⟩ (.int .i64 0))) := ⟨by repeat (first | (with_reducible first | exact HB.out | apply below_alloc | apply pw_below_drewN | apply below_drew1 | refine below_set ?_ (IsS112.ge HI1267.out) | refine below_set ?_ GE1264.out | refine below_set ?_ GE1289.out) | exact HB.out)⟩
    (try clear HO1270)
    (try clear HO1278)
    (try clear HO1282)
    (try clear HO1286)
    (try clear HO1292)
    (try clear BK1264)
    (try clear BK1289)
    (try clear HI1267)
    (try clear HB)
    generalize ((w23.setCell ⟨gb1289, 4, none⟩ (.slice Ao24 t1290.length co24)).setCell ⟨gb1289, 5, none⟩ (.int .i64 0)) = w26 at n0_ n1_ n2_ n3_ n4_ n5_ n6_ n7_ n8_ ⊢
    have HO1270 := n0_
    have HO1278 := n1_
    have HO1282 := n2_
    have HO1286 := n3_
    have HO1292 := n4_
    have BK1264 := n5_
    have BK1289 := n6_
    have HI1267 := n7_
    have HB := n8_
    clear n0_ n1_ n2_ n3_ n4_ n5_ n6_ n7_ n8_
    have n0_ := Aside0.mk (Kd.R_drew HO1270.out)
    have n1_ := Aside0.mk (Kd.R_drew HO1278.out)
    have n2_ := Aside0.mk (Kd.R_drew HO1282.out)
    have n3_ := Aside0.mk (Kd.R_drew HO1286.out)
    have n4_ := Aside0.mk (Kd.R_drew HO1292.out)
    have n5_ := Aside0.mk (blk_drew BK1264.out)
    have n6_ := Aside0.mk (blk_drew BK1289.out)
    have n7_ := Aside0.mk (IsS112.drew HI1267.out)
    have n8_ := Aside0.mk (below_drew1 HB.out)
    clear HO1270
    clear HO1278
    clear HO1282
    clear HO1286
    clear HO1292
    clear BK1264
    clear BK1289
    clear HI1267
    clear HB
    have HO1270 := n0_
    have HO1278 := n1_
    have HO1282 := n2_
    have HO1286 := n3_
    have HO1292 := n4_
    have BK1264 := n5_
    have BK1289 := n6_
    have HI1267 := n7_
    have HB := n8_
    clear n0_ n1_ n2_ n3_ n4_ n5_ n6_ n7_ n8_
    refine start_ (n := 8) (S := fun w' => w'.cell? ⟨gb1289, 0, none⟩ = some (.slice Ao17 t1276.length co17) ∧ w'.cell? ⟨gb1289, 1, none⟩ = some (.int .i64 t1279) ∧ w'.cell? ⟨gb1289, 2, none⟩ = some (.slice Ao21 t1280.length co21) ∧ w'.cell? ⟨gb1289, 3, none⟩ = some (.int .i64 t1283) ∧ w'.cell? ⟨gb1289, 4, none⟩ = some (.slice Ao24 t1290.length co24) ∧ w'.cell? ⟨gb1289, 5, none⟩ = some (.int .i64 0)) (ds := []) #[false, false, false, false, false, false, false, false] (by kernel_rfl) rfl rfl ⟨(blk_cell BK1289.out 0).trans rfl, (blk_cell BK1289.out 1).trans rfl, (blk_cell BK1289.out 2).trans rfl, (blk_cell BK1289.out 3).trans rfl, (blk_cell BK1289.out 4).trans rfl, (blk_cell BK1289.out 5).trans rfl⟩ (fun hHeld => ?_); refine with_tabW spec_DrawDiskAppend.tab8 spec_DrawDiskAppend.bits8 (fun HT_ HW_ => ?_)
    generalize w26.drew = w27 at HO1270 HO1278 HO1282 HO1286 HO1292 BK1264 BK1289 HI1267 HB hHeld ⊢
    refine pure_ (i := 1) (N := some 26) (v := ?_) (a' := ?_) #[false, true, false, false, false, false, false, false] rfl rfl (any_of HT_.out (by kernel_rfl)) (fun _ _ _ h => h) (Or.inl ⟨by rfl, ?_⟩) ?_ ?_
    rotate_left
    · intro w'
      go_simp
      with_reducible rfl
    rotate_left
    · simp only [Act.put, List.setIfInBounds_toArray, List.set_cons_zero, List.set_cons_succ, i64_w, i32_w]
      rfl
    refine pure_ (i := 2) (N := some 27) (v := ?_) (a' := ?_) #[false, true, true, false, false, false, false, false] rfl rfl (any_of HT_.out (by kernel_rfl)) (fun _ _ _ h => h) (Or.inl ⟨by rfl, ?_⟩) ?_ ?_
    rotate_left
    · intro w'
      go_simp
      with_reducible rfl
    rotate_left
    · simp only [Act.put, List.setIfInBounds_toArray, List.set_cons_zero, List.set_cons_succ, i64_w, i32_w]
      rfl
    refine pure_ (i := 3) (N := some 28) (v := ?_) (a' := ?_) #[false, true, true, true, false, false, false, false] rfl rfl (any_of HT_.out (by kernel_rfl)) (fun _ _ _ h => h) (Or.inl ⟨by rfl, ?_⟩) ?_ ?_
    rotate_left
    · intro w'
      go_simp
      with_reducible rfl
    rotate_left
    · simp only [Act.put, List.setIfInBounds_toArray, List.set_cons_zero, List.set_cons_succ, i64_w, i32_w]
      rfl
    refine take_ (i := 0) (N := some 25) (v := ?_) (a' := ?_) #[true, true, true, true, false, false, false, false] rfl rfl (take_ofW HT_.out HW_.out (by kernel_rfl)) (fun _ _ _ h => h) (Or.inl ⟨by rfl, ?_⟩) hHeld ?_ ?_
    rotate_left
    · rintro w' ⟨s0, s1, s2, s3, s4, s5⟩
      go_simp
      with_reducible rfl
    rotate_left
    · simp only [Act.put, List.setIfInBounds_toArray, List.set_cons_zero, List.set_cons_succ, i64_w, i32_w]
      rfl
    refine one_ (i := 4) (N := some 29) #[true, true, true, true, true, false, false, false] rfl rfl (one_of HT_.out (by kernel_rfl)) (by decide) (fun K hK => ?_)
    refine goes_ Try.func97 (by kernel_rfl) rfl #[.int .u8 4, .int .i64 (wrap64 (1 + (Int.tmod t1274 3)))] (by rfl) rfl rfl (by (try simp only [List.map_toArray, List.map_cons, List.map_nil]); first | done | rfl | (simp only [List.length_drop, List.length_take]; rfl)) ?_
    with_reducible refine (spec_l1fill.calls k 4 (wrap64 (1 + (Int.tmod t1274 3))) t1293 _ A9.out).mono ?_
    rintro e w28 ⟨v1294, rfl, ho0, hb⟩
    refine ⟨_, rfl, ?_⟩
    have n0_ := Aside0.mk (Kd.R_elder' (by (with_reducible repeat (first | apply Kd.R_alloc | apply Kd.R_drewN | apply Kd.R_drew)); exact HO1270.out) (Kd.R_base ho0) hb)
    have n1_ := Aside0.mk (Kd.R_elder' (by (with_reducible repeat (first | apply Kd.R_alloc | apply Kd.R_drewN | apply Kd.R_drew)); exact HO1278.out) (Kd.R_base ho0) hb)
    have n2_ := Aside0.mk (Kd.R_elder' (by (with_reducible repeat (first | apply Kd.R_alloc | apply Kd.R_drewN | apply Kd.R_drew)); exact HO1282.out) (Kd.R_base ho0) hb)
    have n3_ := Aside0.mk (Kd.R_elder' (by (with_reducible repeat (first | apply Kd.R_alloc | apply Kd.R_drewN | apply Kd.R_drew)); exact HO1286.out) (Kd.R_base ho0) hb)
    have n4_ := Aside0.mk (Kd.R_elder' (by (with_reducible repeat (first | apply Kd.R_alloc | apply Kd.R_drewN | apply Kd.R_drew)); exact HO1292.out) (Kd.R_base ho0) hb)
    have n5_ := Aside0.mk (Kd.R_lower (Kd.R_new' (Kd.R_new' (Kd.R_new' (Kd.R_new' (Kd.R_new' ho0 (Kd.R_lt (by (with_reducible repeat (first | apply Kd.R_alloc | apply Kd.R_drewN | apply Kd.R_drew)); exact HO1270.out))) (Kd.R_lt (by (with_reducible repeat (first | apply Kd.R_alloc | apply Kd.R_drewN | apply Kd.R_drew)); exact HO1278.out))) (Kd.R_lt (by (with_reducible repeat (first | apply Kd.R_alloc | apply Kd.R_drewN | apply Kd.R_drew)); exact HO1282.out))) (Kd.R_lt (by (with_reducible repeat (first | apply Kd.R_alloc | apply Kd.R_drewN | apply Kd.R_drew)); exact HO1286.out))) (Kd.R_lt (by (with_reducible repeat (first | apply Kd.R_alloc | apply Kd.R_drewN | apply Kd.R_drew)); exact HO1292.out))) (below_size (by repeat (first | (with_reducible first | exact HB.out | apply below_alloc | apply pw_below_drewN | apply below_drew1 | refine below_set ?_ (IsS112.ge HI1267.out) | refine below_set ?_ GE1264.out | refine below_set ?_ GE1289.out) | exact HB.out))))
    have n6_ := Aside0.mk (blk_below (g := gb1264) (o := .cells #[.slice none 0 0, .int .i64 0, .slice none 0 0, .int .i64 0, .slice none 0 0, .int .i64 0] 31 (0, 0)) (by (with_reducible repeat (first | refine blk_drewN ?_ _ | refine blk_drew ?_ | refine blk_alloc ?_ _)); exact BK1264.out) hb)
    have n7_ := Aside0.mk (IsS112.below (by repeat (first | (with_reducible first | exact HI1267.out | apply IsS112.alloc | apply IsS112.drewN | apply IsS112.drew | apply IsS112.set_1 | refine IsS112.far ?_ NB1267_1264.out _ | refine IsS112.far ?_ NB1267_1289.out _) | exact HI1267.out)) hb)
    have n8_ := Aside0.mk (blk_below (g := gb1289) (o := .cells #[.slice Ao17 t1276.length co17, .int .i64 t1279, .slice Ao21 t1280.length co21, .int .i64 t1283, .slice Ao24 t1290.length co24, .int .i64 0] 31 (0, 0)) (by (with_reducible repeat (first | refine blk_drewN ?_ _ | refine blk_drew ?_ | refine blk_alloc ?_ _)); exact BK1289.out) hb)
    have n9_ := Aside0.mk (below_step (by repeat (first | (with_reducible first | exact HB.out | apply below_alloc | apply pw_below_drewN | apply below_drew1 | refine below_set ?_ (IsS112.ge HI1267.out) | refine below_set ?_ GE1264.out | refine below_set ?_ GE1289.out) | exact HB.out)) hb)
    clear HO1270
    clear HO1278
    clear HO1282
    clear HO1286
    clear HO1292
    clear BK1264
    clear HI1267
    clear BK1289
    clear HB
    have HO1270 := n0_
    have HO1278 := n1_
    have HO1282 := n2_
    have HO1286 := n3_
    have HO1292 := n4_
    have HO1295 := n5_
    have BK1264 := n6_
    have HI1267 := n7_
    have BK1289 := n8_
    have HB := n9_
    clear n0_ n1_ n2_ n3_ n4_ n5_ n6_ n7_ n8_ n9_
    (try clear hb)
    (try clear hb2)
    (try clear hk)
    (try clear hi)
    (try clear ho0)
    refine hK.out _ _ ⟨(blk_cell BK1289.out 0).trans rfl, (blk_cell BK1289.out 1).trans rfl, (blk_cell BK1289.out 2).trans rfl, (blk_cell BK1289.out 3).trans rfl, (blk_cell BK1289.out 4).trans rfl, (blk_cell BK1289.out 5).trans rfl⟩ (fun hHeld => ?_)
    clear hK K
    refine norm_ (a' := ?_) ?_ ?_
    rotate_left
    · show Act.put _ (some 29) _ = _
      simp only [Act.put, List.setIfInBounds_toArray, List.set_cons_zero, List.set_cons_succ, i64_w, i32_w]
      rfl
    refine one_ (i := 5) (N := none) #[true, true, true, true, true, true, false, false] rfl rfl (one_of HT_.out (by kernel_rfl)) (by decide) (fun K hK => ?_)
    have hs29 : w28.cell? ⟨gb1264, 0, none⟩ = some (.slice none 0 0) := (blk_cell BK1264.out 0).trans rfl
    have hfs29 := blk_frozen BK1264.out 0
    have hns29_1 := NB1289_1264.out
    have hms29_1 := NB1264_1289.out
    have hs30 : w28.cell? ⟨gb1264, 1, none⟩ = some (.int .i64 0) := (blk_cell BK1264.out 1).trans rfl
    have hfs30 := blk_frozen BK1264.out 1
    have hns30_1 := NB1289_1264.out
    have hms30_1 := NB1264_1289.out
    have hs31 : w28.cell? ⟨gb1264, 2, none⟩ = some (.slice none 0 0) := (blk_cell BK1264.out 2).trans rfl
    have hfs31 := blk_frozen BK1264.out 2
    have hns31_1 := NB1289_1264.out
    have hms31_1 := NB1264_1289.out
    have hs32 : w28.cell? ⟨gb1264, 3, none⟩ = some (.int .i64 0) := (blk_cell BK1264.out 3).trans rfl
    have hfs32 := blk_frozen BK1264.out 3
    have hns32_1 := NB1289_1264.out
    have hms32_1 := NB1264_1289.out
    have hs33 : w28.cell? ⟨gb1264, 4, none⟩ = some (.slice none 0 0) := (blk_cell BK1264.out 4).trans rfl
    have hfs33 := blk_frozen BK1264.out 4
    have hns33_1 := NB1289_1264.out
    have hms33_1 := NB1264_1289.out
    have hs34 : w28.cell? ⟨gb1264, 5, none⟩ = some (.int .i64 0) := (blk_cell BK1264.out 5).trans rfl
    have hfs34 := blk_frozen BK1264.out 5
    have hns34_1 := NB1289_1264.out
    have hms34_1 := NB1264_1289.out
    refine skip_ (w1 := ?_) (by rfl) rfl ?_ ?_
    rotate_left
    · go_simp
      rfl
    refine hK.out _ _ ⟨((cell_far (p := ⟨gb1264, _, none⟩) NB1289_1264.out _).trans (((cell_far (p := ⟨gb1264, _, none⟩) NB1289_1264.out _).trans (((cell_far (p := ⟨gb1264, _, none⟩) NB1289_1264.out _).trans (((cell_far (p := ⟨gb1264, _, none⟩) NB1289_1264.out _).trans (((cell_far (p := ⟨gb1264, _, none⟩) NB1289_1264.out _).trans (((cell_far (p := ⟨gb1264, _, none⟩) NB1289_1264.out _).trans (hHeld.1)))))))))))), ((cell_far (p := ⟨gb1264, _, none⟩) NB1289_1264.out _).trans (((cell_far (p := ⟨gb1264, _, none⟩) NB1289_1264.out _).trans (((cell_far (p := ⟨gb1264, _, none⟩) NB1289_1264.out _).trans (((cell_far (p := ⟨gb1264, _, none⟩) NB1289_1264.out _).trans (((cell_far (p := ⟨gb1264, _, none⟩) NB1289_1264.out _).trans (((cell_far (p := ⟨gb1264, _, none⟩) NB1289_1264.out _).trans (hHeld.2.1)))))))))))), ((cell_far (p := ⟨gb1264, _, none⟩) NB1289_1264.out _).trans (((cell_far (p := ⟨gb1264, _, none⟩) NB1289_1264.out _).trans (((cell_far (p := ⟨gb1264, _, none⟩) NB1289_1264.out _).trans (((cell_far (p := ⟨gb1264, _, none⟩) NB1289_1264.out _).trans (((cell_far (p := ⟨gb1264, _, none⟩) NB1289_1264.out _).trans (((cell_far (p := ⟨gb1264, _, none⟩) NB1289_1264.out _).trans (hHeld.2.2.1)))))))))))), ((cell_far (p := ⟨gb1264, _, none⟩) NB1289_1264.out _).trans (((cell_far (p := ⟨gb1264, _, none⟩) NB1289_1264.out _).trans (((cell_far (p := ⟨gb1264, _, none⟩) NB1289_1264.out _).trans (((cell_far (p := ⟨gb1264, _, none⟩) NB1289_1264.out _).trans (((cell_far (p := ⟨gb1264, _, none⟩) NB1289_1264.out _).trans (((cell_far (p := ⟨gb1264, _, none⟩) NB1289_1264.out _).trans (hHeld.2.2.2.1)))))))))))), ((cell_far (p := ⟨gb1264, _, none⟩) NB1289_1264.out _).trans (((cell_far (p := ⟨gb1264, _, none⟩) NB1289_1264.out _).trans (((cell_far (p := ⟨gb1264, _, none⟩) NB1289_1264.out _).trans (((cell_far (p := ⟨gb1264, _, none⟩) NB1289_1264.out _).trans (((cell_far (p := ⟨gb1264, _, none⟩) NB1289_1264.out _).trans (((cell_far (p := ⟨gb1264, _, none⟩) NB1289_1264.out _).trans (hHeld.2.2.2.2.1)))))))))))), ((cell_far (p := ⟨gb1264, _, none⟩) NB1289_1264.out _).trans (((cell_far (p := ⟨gb1264, _, none⟩) NB1289_1264.out _).trans (((cell_far (p := ⟨gb1264, _, none⟩) NB1289_1264.out _).trans (((cell_far (p := ⟨gb1264, _, none⟩) NB1289_1264.out _).trans (((cell_far (p := ⟨gb1264, _, none⟩) NB1289_1264.out _).trans (((cell_far (p := ⟨gb1264, _, none⟩) NB1289_1264.out _).trans (hHeld.2.2.2.2.2))))))))))))⟩ (fun hHeld => ?_)
    clear hK K
    refine pure_ (i := 6) (N := some 3) (v := ?_) (a' := ?_) #[true, true, true, true, true, true, true, false] rfl rfl (any_of HT_.out (by kernel_rfl)) (fun _ _ _ h => h) (Or.inl ⟨by rfl, ?_⟩) ?_ ?_
    rotate_left
    · intro w'
      go_simp
      with_reducible rfl
    rotate_left
    · simp only [Act.put, List.setIfInBounds_toArray, List.set_cons_zero, List.set_cons_succ, i64_w, i32_w]
      rfl
    refine pure_ (i := 7) (N := some 4) (v := ?_) (a' := ?_) #[true, true, true, true, true, true, true, true] rfl rfl (any_of HT_.out (by kernel_rfl)) (fun _ _ _ h => h) (Or.inl ⟨by rfl, ?_⟩) ?_ ?_
    rotate_left
    · intro w'
      go_simp
      with_reducible rfl
    rotate_left
    · simp only [Act.put, List.setIfInBounds_toArray, List.set_cons_zero, List.set_cons_succ, i64_w, i32_w]
      rfl
    refine done_ (done_of HT_.out (by kernel_rfl)) ?_
    try go_wp2
    refine bodyPost_ret (results_ctt rfl _ _ gb1264 31 #[.slice Ao17 t1276.length co17, .int .i64 t1279, .slice Ao21 t1280.length co21, .int .i64 t1283, .slice Ao24 t1290.length co24, .int .i64 0] (0, 0) _ rfl (by (with_reducible repeat (first | refine blk_drewN ?_ _ | refine blk_drew ?_ | refine blk_alloc ?_ _)); refine blk_put (cs := #[.slice Ao17 t1276.length co17, .int .i64 t1279, .slice Ao21 t1280.length co21, .int .i64 t1283, .slice Ao24 t1290.length co24, .int .i64 0]) ?_ 5 _ rfl; (with_reducible repeat (first | refine blk_drewN ?_ _ | refine blk_drew ?_ | refine blk_alloc ?_ _)); refine blk_put (cs := #[.slice Ao17 t1276.length co17, .int .i64 t1279, .slice Ao21 t1280.length co21, .int .i64 t1283, .slice none 0 0, .int .i64 0]) ?_ 4 _ rfl; (with_reducible repeat (first | refine blk_drewN ?_ _ | refine blk_drew ?_ | refine blk_alloc ?_ _)); refine blk_put (cs := #[.slice Ao17 t1276.length co17, .int .i64 t1279, .slice Ao21 t1280.length co21, .int .i64 0, .slice none 0 0, .int .i64 0]) ?_ 3 _ rfl; (with_reducible repeat (first | refine blk_drewN ?_ _ | refine blk_drew ?_ | refine blk_alloc ?_ _)); refine blk_put (cs := #[.slice Ao17 t1276.length co17, .int .i64 t1279, .slice none 0 0, .int .i64 0, .slice none 0 0, .int .i64 0]) ?_ 2 _ rfl; (with_reducible repeat (first | refine blk_drewN ?_ _ | refine blk_drew ?_ | refine blk_alloc ?_ _)); refine blk_put (cs := #[.slice Ao17 t1276.length co17, .int .i64 0, .slice none 0 0, .int .i64 0, .slice none 0 0, .int .i64 0]) ?_ 1 _ rfl; (with_reducible repeat (first | refine blk_drewN ?_ _ | refine blk_drew ?_ | refine blk_alloc ?_ _)); refine blk_put (cs := #[.slice none 0 0, .int .i64 0, .slice none 0 0, .int .i64 0, .slice none 0 0, .int .i64 0]) ?_ 0 _ rfl; (with_reducible repeat (first | refine blk_drewN ?_ _ | refine blk_drew ?_ | refine blk_alloc ?_ _)); exact BK1264.out) Try.underlying31 rfl (by kernel_rfl)) rfl ?_
    exact ⟨_, _, _, _, by first | rfl | (simp [errW_none, errW_some] <;> rfl) | (simp [*, errW_none, errW_some] <;> rfl), by (with_reducible repeat (first | apply Kd.R_alloc | apply Kd.R_drewN | apply Kd.R_drew)); exact Kd.R_mono (Kd.R_far (p := ⟨gb1264, 5, none⟩) (Kd.R_far (p := ⟨gb1264, 4, none⟩) (Kd.R_far (p := ⟨gb1264, 3, none⟩) (Kd.R_far (p := ⟨gb1264, 2, none⟩) (Kd.R_far (p := ⟨gb1264, 1, none⟩) (Kd.R_far (p := ⟨gb1264, 0, none⟩) (Kd.R_types HO1278.out BK1264.out (by decide)) (fun _ hk => hk.2) (.slice Ao17 t1276.length co17)) (fun _ hk => hk.2) (.int .i64 t1279)) (fun _ hk => hk.2) (.slice Ao21 t1280.length co21)) (fun _ hk => hk.2) (.int .i64 t1283)) (fun _ hk => hk.2) (.slice Ao24 t1290.length co24)) (fun _ hk => hk.2) (.int .i64 0)) (fun _ hk => ⟨hk.1.1.2.1, ⟨hk.1.1.2.2.2, hk.1.2⟩⟩), by (with_reducible repeat (first | apply Kd.R_alloc | apply Kd.R_drewN | apply Kd.R_drew)); exact Kd.R_mono (Kd.R_far (p := ⟨gb1264, 5, none⟩) (Kd.R_far (p := ⟨gb1264, 4, none⟩) (Kd.R_far (p := ⟨gb1264, 3, none⟩) (Kd.R_far (p := ⟨gb1264, 2, none⟩) (Kd.R_far (p := ⟨gb1264, 1, none⟩) (Kd.R_far (p := ⟨gb1264, 0, none⟩) (Kd.R_types HO1282.out BK1264.out (by decide)) (fun _ hk => hk.2) (.slice Ao17 t1276.length co17)) (fun _ hk => hk.2) (.int .i64 t1279)) (fun _ hk => hk.2) (.slice Ao21 t1280.length co21)) (fun _ hk => hk.2) (.int .i64 t1283)) (fun _ hk => hk.2) (.slice Ao24 t1290.length co24)) (fun _ hk => hk.2) (.int .i64 0)) (fun _ hk => ⟨hk.1.1.2.1, ⟨hk.1.1.2.2.2, hk.1.2⟩⟩), by (with_reducible repeat (first | apply Kd.R_alloc | apply Kd.R_drewN | apply Kd.R_drew)); exact Kd.R_mono (Kd.R_far (p := ⟨gb1264, 5, none⟩) (Kd.R_far (p := ⟨gb1264, 4, none⟩) (Kd.R_far (p := ⟨gb1264, 3, none⟩) (Kd.R_far (p := ⟨gb1264, 2, none⟩) (Kd.R_far (p := ⟨gb1264, 1, none⟩) (Kd.R_far (p := ⟨gb1264, 0, none⟩) (Kd.R_types HO1292.out BK1264.out (by decide)) (fun _ hk => hk.2) (.slice Ao17 t1276.length co17)) (fun _ hk => hk.2) (.int .i64 t1279)) (fun _ hk => hk.2) (.slice Ao21 t1280.length co21)) (fun _ hk => hk.2) (.int .i64 t1283)) (fun _ hk => hk.2) (.slice Ao24 t1290.length co24)) (fun _ hk => hk.2) (.int .i64 0)) (fun _ hk => ⟨hk.1.1.2.1, ⟨hk.1.1.2.2.1, hk.1.2⟩⟩), by (with_reducible repeat (first | apply Kd.R_alloc | apply Kd.R_drewN | apply Kd.R_drew)); exact Kd.R_mono (Kd.R_far (p := ⟨gb1264, 5, none⟩) (Kd.R_far (p := ⟨gb1264, 4, none⟩) (Kd.R_far (p := ⟨gb1264, 3, none⟩) (Kd.R_far (p := ⟨gb1264, 2, none⟩) (Kd.R_far (p := ⟨gb1264, 1, none⟩) (Kd.R_far (p := ⟨gb1264, 0, none⟩) (Kd.R_types HO1295.out BK1264.out (by decide)) (fun _ hk => hk.2) (.slice Ao17 t1276.length co17)) (fun _ hk => hk.2) (.int .i64 t1279)) (fun _ hk => hk.2) (.slice Ao21 t1280.length co21)) (fun _ hk => hk.2) (.int .i64 t1283)) (fun _ hk => hk.2) (.slice Ao24 t1290.length co24)) (fun _ hk => hk.2) (.int .i64 0)) (fun _ hk => ⟨hk.1.1.1.1.2, ⟨hk.1.1.1.2, hk.1.2⟩⟩), by repeat (first | (with_reducible first | exact HB.out | apply below_alloc | apply pw_below_drewN | apply below_drew1 | refine below_set ?_ (IsS112.ge HI1267.out) | refine below_set ?_ GE1264.out | refine below_set ?_ GE1289.out) | exact HB.out)⟩
  · rw [if_neg c7] at H
    have c7b0 : (t1272 == 0) = false := beq_eq_false_iff_ne.mpr c7
    have c7b1 : (t1272 != 0) = true := bne_iff_ne.mpr c7
    simp only [Option.some.injEq, Prod.mk.injEq] at H
    obtain ⟨rfl, rfl, rfl, rfl, rfl, rfl, rfl, rfl⟩ := H
    go_enter Try.func51, Try.ntmps51
    go_wp2_with (first | ((with_reducible refine gate_dst (N := 2) rfl ?_); refine box_event ?hg (N := 2) ?hd (cs := #[.slice none 0 0, .int .i64 0, .slice none 0 0, .int .i64 0, .slice none 0 0, .int .i64 0]) (t := 31) ?hr ?_; (case hd => rfl); (case hg => rfl); (case hr => first | (go_simp; done) | (go_simp; rfl)); intro gb1264 hg w35 hbox hb; have n0_ := Aside0.mk (below_step (by repeat (first | (with_reducible first | exact HB.out | apply below_alloc | apply pw_below_drewN | apply below_drew1) | exact HB.out)) hb); have n1_ := Aside0.mk (hbox); have n2_ := Aside0.mk ((by rw [hg]; exact (below_size (by repeat (first | (with_reducible first | exact HB.out | apply below_alloc | apply pw_below_drewN | apply below_drew1) | exact HB.out))) : w.heap.size ≤ gb1264)); have n3_ := Aside0.mk ((by rw [hg]; exact (below_size (by repeat (first | (with_reducible first | exact HB.out | apply below_alloc | apply pw_below_drewN | apply below_drew1) | exact HB.out))) : w.heap.size ≤ gb1264)); clear HB; have HB := n0_; have BK1264 := n1_; have GW1264 := n2_; have GE1264 := n3_; clear n0_ n1_ n2_ n3_; clear hb hbox hg) | ((with_reducible refine gate_callee (f := 92) rfl ?_); refine goesL_ (some 11) rfl rfl Try.func92 (by kernel_rfl) rfl #[.slice A0 l0.length c0] rfl (by (try simp only [List.map_toArray, List.map_cons, List.map_nil]); first | done | rfl | (simp only [List.length_drop, List.length_take]; rfl)) ?_; (with_reducible refine (spec_l1open.calls _ _ l0 t1265 t1266 w _ ?side1 ?side2 ?side3 A2.out).mono ?_); (case side1 => repeat (first | (with_reducible first | exact HB.out | apply below_alloc | apply pw_below_drewN | apply below_drew1 | refine below_set ?_ GE1264.out) | exact HB.out)); (case side2 => exact HR0.out); (case side3 => exact HC0.out); rintro e w36 ⟨g1267, rfl, hi, hb, hb2⟩; refine ⟨_, rfl, ?_⟩; have n0_ := Aside0.mk (blk_below (g := gb1264) (o := .cells #[.slice none 0 0, .int .i64 0, .slice none 0 0, .int .i64 0, .slice none 0 0, .int .i64 0] 31 (0, 0)) (by (with_reducible repeat (first | refine blk_drewN ?_ _ | refine blk_drew ?_ | refine blk_alloc ?_ _)); exact BK1264.out) hb2); have n1_ := Aside0.mk (hb); have n2_ := Aside0.mk (hi); have n3_ := Aside0.mk (IsS112.ne_blk hi (blk_below (g := gb1264) (o := .cells #[.slice none 0 0, .int .i64 0, .slice none 0 0, .int .i64 0, .slice none 0 0, .int .i64 0] 31 (0, 0)) (by (with_reducible repeat (first | refine blk_drewN ?_ _ | refine blk_drew ?_ | refine blk_alloc ?_ _)); exact BK1264.out) hb2) (by decide)); have n4_ := Aside0.mk (Ne.symm (IsS112.ne_blk hi (blk_below (g := gb1264) (o := .cells #[.slice none 0 0, .int .i64 0, .slice none 0 0, .int .i64 0, .slice none 0 0, .int .i64 0] 31 (0, 0)) (by (with_reducible repeat (first | refine blk_drewN ?_ _ | refine blk_drew ?_ | refine blk_alloc ?_ _)); exact BK1264.out) hb2) (by decide))); clear BK1264; clear HB; have BK1264 := n0_; have HB := n1_; have HI1267 := n2_; have NB1267_1264 := n3_; have NB1264_1267 := n4_; clear n0_ n1_ n2_ n3_ n4_; (try clear hb); (try clear hb2); (try clear hk); (try clear hi)) | ((with_reducible refine gate_callee (f := 93) rfl ?_); refine goesL_ (some 13) rfl rfl Try.func93 (by kernel_rfl) rfl #[.pointer (some ⟨g1267, 0, none⟩)] rfl (by (try simp only [List.map_toArray, List.map_cons, List.map_nil]); first | done | rfl | (simp only [List.length_drop, List.length_take]; rfl)) ?_; (with_reducible refine (spec_l1drawBytes.calls k g1267 t1265 t1266 t1268 t1271 w _ ?side1 ?side2 A3.out).mono ?_); (case side1 => repeat (first | (with_reducible first | exact HI1267.out | apply IsS112.alloc | apply IsS112.drewN | apply IsS112.drew | apply IsS112.set_1 | refine IsS112.far ?_ NB1267_1264.out _) | exact HI1267.out)); (case side2 => repeat (first | (with_reducible first | exact HB.out | apply below_alloc | apply pw_below_drewN | apply below_drew1 | refine below_set ?_ (IsS112.ge HI1267.out) | refine below_set ?_ GE1264.out) | exact HB.out)); rintro e w37 ⟨v1269, rfl, ho0, hi, hb, hk⟩; refine ⟨_, rfl, ?_⟩; have n0_ := Aside0.mk (KeepBut.blk hk (g' := gb1264) (o := .cells #[.slice none 0 0, .int .i64 0, .slice none 0 0, .int .i64 0, .slice none 0 0, .int .i64 0] 31 (0, 0)) (by (with_reducible repeat (first | refine blk_drewN ?_ _ | refine blk_drew ?_ | refine blk_alloc ?_ _)); exact BK1264.out) NB1264_1267.out (by simp)); have n1_ := Aside0.mk (Kd.R_lower ho0 (below_size (by repeat (first | (with_reducible first | exact HB.out | apply below_alloc | apply pw_below_drewN | apply below_drew1 | refine below_set ?_ (IsS112.ge HI1267.out) | refine below_set ?_ GE1264.out) | exact HB.out)))); have n2_ := Aside0.mk (hb); have n3_ := Aside0.mk (hi); clear BK1264; clear HB; clear HI1267; have BK1264 := n0_; have HO1270 := n1_; have HB := n2_; have HI1267 := n3_; clear n0_ n1_ n2_ n3_; (try clear hb); (try clear hb2); (try clear hk); (try clear hi); (try clear ho0)) | ((with_reducible refine gate_callee (f := 94) rfl ?_); refine goesL_ (some 15) rfl rfl Try.func94 (by kernel_rfl) rfl #[.pointer (some ⟨g1267, 0, none⟩)] rfl (by (try simp only [List.map_toArray, List.map_cons, List.map_nil]); first | done | rfl | (simp only [List.length_drop, List.length_take]; rfl)) ?_; (with_reducible refine (spec_l1rd_next.calls g1267 t1265 t1271 t1272 t1273 w _ ?side1 ?side2 A4.out).mono ?_); (case side1 => repeat (first | (with_reducible first | exact HI1267.out | apply IsS112.alloc | apply IsS112.drewN | apply IsS112.drew | apply IsS112.set_1 | refine IsS112.far ?_ NB1267_1264.out _) | exact HI1267.out)); (case side2 => repeat (first | (with_reducible first | exact HB.out | apply below_alloc | apply pw_below_drewN | apply below_drew1 | refine below_set ?_ (IsS112.ge HI1267.out) | refine below_set ?_ GE1264.out) | exact HB.out)); rintro e w38 ⟨rfl, hi, hb, hk⟩; refine ⟨_, rfl, ?_⟩; have n0_ := Aside0.mk (KeepBut.blk hk (g' := gb1264) (o := .cells #[.slice none 0 0, .int .i64 0, .slice none 0 0, .int .i64 0, .slice none 0 0, .int .i64 0] 31 (0, 0)) (by (with_reducible repeat (first | refine blk_drewN ?_ _ | refine blk_drew ?_ | refine blk_alloc ?_ _)); exact BK1264.out) NB1264_1267.out (by simp)); have n1_ := Aside0.mk (Kd.R_mono (Kd.R_keep (IsS112.apart (show IsS112 w _ g1267 t1265 t1271 from by repeat (first | (with_reducible first | exact HI1267.out | apply IsS112.alloc | apply IsS112.drewN | apply IsS112.drew | apply IsS112.set_1 | refine IsS112.far ?_ NB1267_1264.out _) | exact HI1267.out)) (by (with_reducible repeat (first | apply Kd.R_alloc | apply Kd.R_drewN | apply Kd.R_drew)); exact HO1270.out) (by decide)) hk (fun _ h => h.2)) (fun _ h => h.1)); have n2_ := Aside0.mk (hb); have n3_ := Aside0.mk (hi); clear BK1264; clear HO1270; clear HB; clear HI1267; have BK1264 := n0_; have HO1270 := n1_; have HB := n2_; have HI1267 := n3_; clear n0_ n1_ n2_ n3_; (try clear hb); (try clear hb2); (try clear hk); (try clear hi)) | ((with_reducible refine gate_callee (f := 95) rfl ?_); refine goesL_ (some 17) rfl rfl Try.func95 (by kernel_rfl) rfl #[.pointer (some ⟨g1267, 0, none⟩)] rfl (by (try simp only [List.map_toArray, List.map_cons, List.map_nil]); first | done | rfl | (simp only [List.length_drop, List.length_take]; rfl)) ?_; (with_reducible refine (spec_l1drawFileNo.calls g1267 t1265 t1273 t1274 t1275 w _ ?side1 ?side2 A5.out).mono ?_); (case side1 => repeat (first | (with_reducible first | exact HI1267.out | apply IsS112.alloc | apply IsS112.drewN | apply IsS112.drew | apply IsS112.set_1 | refine IsS112.far ?_ NB1267_1264.out _) | exact HI1267.out)); (case side2 => repeat (first | (with_reducible first | exact HB.out | apply below_alloc | apply pw_below_drewN | apply below_drew1 | refine below_set ?_ (IsS112.ge HI1267.out) | refine below_set ?_ GE1264.out) | exact HB.out)); rintro e w39 ⟨rfl, hi, hb, hk⟩; refine ⟨_, rfl, ?_⟩; have n0_ := Aside0.mk (KeepBut.blk hk (g' := gb1264) (o := .cells #[.slice none 0 0, .int .i64 0, .slice none 0 0, .int .i64 0, .slice none 0 0, .int .i64 0] 31 (0, 0)) (by (with_reducible repeat (first | refine blk_drewN ?_ _ | refine blk_drew ?_ | refine blk_alloc ?_ _)); exact BK1264.out) NB1264_1267.out (by simp)); have n1_ := Aside0.mk (Kd.R_mono (Kd.R_keep (IsS112.apart (show IsS112 w _ g1267 t1265 t1273 from by repeat (first | (with_reducible first | exact HI1267.out | apply IsS112.alloc | apply IsS112.drewN | apply IsS112.drew | apply IsS112.set_1 | refine IsS112.far ?_ NB1267_1264.out _) | exact HI1267.out)) (by (with_reducible repeat (first | apply Kd.R_alloc | apply Kd.R_drewN | apply Kd.R_drew)); exact HO1270.out) (by decide)) hk (fun _ h => h.2)) (fun _ h => h.1)); have n2_ := Aside0.mk (hb); have n3_ := Aside0.mk (hi); clear BK1264; clear HO1270; clear HB; clear HI1267; have BK1264 := n0_; have HO1270 := n1_; have HB := n2_; have HI1267 := n3_; clear n0_ n1_ n2_ n3_; (try clear hb); (try clear hb2); (try clear hk); (try clear hi)) | ((with_reducible refine gate_callee (f := 96) rfl ?_); refine goesL_ (some 19) rfl rfl Try.func96 (by kernel_rfl) rfl #[.pointer (some ⟨g1267, 0, none⟩)] rfl (by (try simp only [List.map_toArray, List.map_cons, List.map_nil]); first | done | rfl | (simp only [List.length_drop, List.length_take]; rfl)) ?_; (with_reducible refine (spec_l1drawDisk.calls k g1267 t1265 t1275 t1276 t1279 t1280 t1283 t1284 t1287 t1288 w _ ?side1 ?side2 A6.out).mono ?_); (case side1 => repeat (first | (with_reducible first | exact HI1267.out | apply IsS112.alloc | apply IsS112.drewN | apply IsS112.drew | apply IsS112.set_1 | refine IsS112.far ?_ NB1267_1264.out _) | exact HI1267.out)); (case side2 => repeat (first | (with_reducible first | exact HB.out | apply below_alloc | apply pw_below_drewN | apply below_drew1 | refine below_set ?_ (IsS112.ge HI1267.out) | refine below_set ?_ GE1264.out) | exact HB.out)); rintro e w40 ⟨v1277, v1281, v1285, rfl, ho0, ho1, ho2, hi, hb, hk⟩; refine ⟨_, rfl, ?_⟩; have n0_ := Aside0.mk (KeepBut.blk hk (g' := gb1264) (o := .cells #[.slice none 0 0, .int .i64 0, .slice none 0 0, .int .i64 0, .slice none 0 0, .int .i64 0] 31 (0, 0)) (by (with_reducible repeat (first | refine blk_drewN ?_ _ | refine blk_drew ?_ | refine blk_alloc ?_ _)); exact BK1264.out) NB1264_1267.out (by simp)); have n1_ := Aside0.mk (Kd.R_mono (Kd.R_told (Kd.R_told (Kd.R_told (Kd.R_oldK (IsS112.apart (show IsS112 w _ g1267 t1265 t1275 from by repeat (first | (with_reducible first | exact HI1267.out | apply IsS112.alloc | apply IsS112.drewN | apply IsS112.drew | apply IsS112.set_1 | refine IsS112.far ?_ NB1267_1264.out _) | exact HI1267.out)) (by (with_reducible repeat (first | apply Kd.R_alloc | apply Kd.R_drewN | apply Kd.R_drew)); exact HO1270.out) (by decide)) hk) (Kd.R_base ho0)) (Kd.R_base ho1)) (Kd.R_base ho2)) (fun _ h_ => h_.1)); have n2_ := Aside0.mk (Kd.R_lower (Kd.R_new' ho0 (Kd.R_lt (by (with_reducible repeat (first | apply Kd.R_alloc | apply Kd.R_drewN | apply Kd.R_drew)); exact HO1270.out))) (below_size (by repeat (first | (with_reducible first | exact HB.out | apply below_alloc | apply pw_below_drewN | apply below_drew1 | refine below_set ?_ (IsS112.ge HI1267.out) | refine below_set ?_ GE1264.out) | exact HB.out)))); have n3_ := Aside0.mk (Kd.R_lower (Kd.R_new' ho1 (Kd.R_lt (by (with_reducible repeat (first | apply Kd.R_alloc | apply Kd.R_drewN | apply Kd.R_drew)); exact HO1270.out))) (below_size (by repeat (first | (with_reducible first | exact HB.out | apply below_alloc | apply pw_below_drewN | apply below_drew1 | refine below_set ?_ (IsS112.ge HI1267.out) | refine below_set ?_ GE1264.out) | exact HB.out)))); have n4_ := Aside0.mk (Kd.R_lower (Kd.R_new' ho2 (Kd.R_lt (by (with_reducible repeat (first | apply Kd.R_alloc | apply Kd.R_drewN | apply Kd.R_drew)); exact HO1270.out))) (below_size (by repeat (first | (with_reducible first | exact HB.out | apply below_alloc | apply pw_below_drewN | apply below_drew1 | refine below_set ?_ (IsS112.ge HI1267.out) | refine below_set ?_ GE1264.out) | exact HB.out)))); have n5_ := Aside0.mk (hb); have n6_ := Aside0.mk (hi); clear BK1264; clear HO1270; clear HB; clear HI1267; have BK1264 := n0_; have HO1270 := n1_; have HO1278 := n2_; have HO1282 := n3_; have HO1286 := n4_; have HB := n5_; have HI1267 := n6_; clear n0_ n1_ n2_ n3_ n4_ n5_ n6_; (try clear hb); (try clear hb2); (try clear hk); (try clear hi); (try clear ho0); (try clear ho1); (try clear ho2)) | ((with_reducible refine gate_dst (N := 9) rfl ?_); refine box_event ?hg (N := 9) ?hd (cs := #[.slice none 0 0, .int .i64 0, .slice none 0 0, .int .i64 0, .slice none 0 0, .int .i64 0]) (t := 31) ?hr ?_; (case hd => rfl); (case hg => rfl); (case hr => first | (go_simp; done) | (go_simp; rfl)); intro gb1289 hg w41 hbox hb; have n0_ := Aside0.mk (Kd.R_below (by (with_reducible repeat (first | apply Kd.R_alloc | apply Kd.R_drewN | apply Kd.R_drew)); exact HO1270.out) hb); have n1_ := Aside0.mk (Kd.R_below (by (with_reducible repeat (first | apply Kd.R_alloc | apply Kd.R_drewN | apply Kd.R_drew)); exact HO1278.out) hb); have n2_ := Aside0.mk (Kd.R_below (by (with_reducible repeat (first | apply Kd.R_alloc | apply Kd.R_drewN | apply Kd.R_drew)); exact HO1282.out) hb); have n3_ := Aside0.mk (Kd.R_below (by (with_reducible repeat (first | apply Kd.R_alloc | apply Kd.R_drewN | apply Kd.R_drew)); exact HO1286.out) hb); have n4_ := Aside0.mk (blk_below (g := gb1264) (o := .cells #[.slice none 0 0, .int .i64 0, .slice none 0 0, .int .i64 0, .slice none 0 0, .int .i64 0] 31 (0, 0)) (by (with_reducible repeat (first | refine blk_drewN ?_ _ | refine blk_drew ?_ | refine blk_alloc ?_ _)); exact BK1264.out) hb); have n5_ := Aside0.mk (IsS112.below (by repeat (first | (with_reducible first | exact HI1267.out | apply IsS112.alloc | apply IsS112.drewN | apply IsS112.drew | apply IsS112.set_1 | refine IsS112.far ?_ NB1267_1264.out _) | exact HI1267.out)) hb); have n6_ := Aside0.mk (below_step (by repeat (first | (with_reducible first | exact HB.out | apply below_alloc | apply pw_below_drewN | apply below_drew1 | refine below_set ?_ (IsS112.ge HI1267.out) | refine below_set ?_ GE1264.out) | exact HB.out)) hb); have n7_ := Aside0.mk (hbox); have n8_ := Aside0.mk ((by rw [hg]; exact (below_size (by repeat (first | (with_reducible first | exact HB.out | apply below_alloc | apply pw_below_drewN | apply below_drew1 | refine below_set ?_ (IsS112.ge HI1267.out) | refine below_set ?_ GE1264.out) | exact HB.out))) : w.heap.size ≤ gb1289)); have n9_ := Aside0.mk ((by rw [hg]; exact (below_size (by repeat (first | (with_reducible first | exact HB.out | apply below_alloc | apply pw_below_drewN | apply below_drew1 | refine below_set ?_ (IsS112.ge HI1267.out) | refine below_set ?_ GE1264.out) | exact HB.out))) : w.heap.size ≤ gb1289)); have n10_ := Aside0.mk ((by rw [hg]; exact Nat.ne_of_lt (blk_lt (g := gb1264) (o := .cells #[.slice none 0 0, .int .i64 0, .slice none 0 0, .int .i64 0, .slice none 0 0, .int .i64 0] 31 (0, 0)) (by (with_reducible repeat (first | refine blk_drewN ?_ _ | refine blk_drew ?_ | refine blk_alloc ?_ _)); exact BK1264.out)) : gb1264 ≠ gb1289)); have n11_ := Aside0.mk ((by rw [hg]; exact Nat.ne_of_gt (blk_lt (g := gb1264) (o := .cells #[.slice none 0 0, .int .i64 0, .slice none 0 0, .int .i64 0, .slice none 0 0, .int .i64 0] 31 (0, 0)) (by (with_reducible repeat (first | refine blk_drewN ?_ _ | refine blk_drew ?_ | refine blk_alloc ?_ _)); exact BK1264.out)) : gb1289 ≠ gb1264)); have n12_ := Aside0.mk ((by rw [hg]; exact Nat.ne_of_lt (IsS112.lt (show IsS112 w _ g1267 t1265 t1288 from by repeat (first | (with_reducible first | exact HI1267.out | apply IsS112.alloc | apply IsS112.drewN | apply IsS112.drew | apply IsS112.set_1 | refine IsS112.far ?_ NB1267_1264.out _) | exact HI1267.out))) : g1267 ≠ gb1289)); have n13_ := Aside0.mk ((by rw [hg]; exact Nat.ne_of_gt (IsS112.lt (show IsS112 w _ g1267 t1265 t1288 from by repeat (first | (with_reducible first | exact HI1267.out | apply IsS112.alloc | apply IsS112.drewN | apply IsS112.drew | apply IsS112.set_1 | refine IsS112.far ?_ NB1267_1264.out _) | exact HI1267.out))) : gb1289 ≠ g1267)); clear HO1270; clear HO1278; clear HO1282; clear HO1286; clear BK1264; clear HI1267; clear HB; have HO1270 := n0_; have HO1278 := n1_; have HO1282 := n2_; have HO1286 := n3_; have BK1264 := n4_; have HI1267 := n5_; have HB := n6_; have BK1289 := n7_; have GW1289 := n8_; have GE1289 := n9_; have NB1264_1289 := n10_; have NB1289_1264 := n11_; have NB1267_1289 := n12_; have NB1289_1267 := n13_; clear n0_ n1_ n2_ n3_ n4_ n5_ n6_ n7_ n8_ n9_ n10_ n11_ n12_ n13_; clear hb hbox hg; obtain ⟨Ao42, co42, eo42⟩ := Kd.R_slice HO1278.out; subst eo42; have hnb43 := NB1289_1264.out; have hnc43 := NB1264_1289.out; have hnb44 := NB1289_1267.out; have hnc44 := NB1267_1289.out; have hcz45_0 : w41.cell? ⟨gb1289, 0, none⟩ = some (.slice none 0 0) := (blk_cell BK1289.out 0).trans rfl; have hcz45_1 : w41.cell? ⟨gb1289, 1, none⟩ = some (.int .i64 0) := (blk_cell BK1289.out 1).trans rfl; have hcz45_2 : w41.cell? ⟨gb1289, 2, none⟩ = some (.slice none 0 0) := (blk_cell BK1289.out 2).trans rfl; have hcz45_3 : w41.cell? ⟨gb1289, 3, none⟩ = some (.int .i64 0) := (blk_cell BK1289.out 3).trans rfl; have hcz45_4 : w41.cell? ⟨gb1289, 4, none⟩ = some (.slice none 0 0) := (blk_cell BK1289.out 4).trans rfl; have hcz45_5 : w41.cell? ⟨gb1289, 5, none⟩ = some (.int .i64 0) := (blk_cell BK1289.out 5).trans rfl; have hfz45_0 := blk_frozen BK1289.out 0; have hfz45_1 := blk_frozen BK1289.out 1; have hfz45_2 := blk_frozen BK1289.out 2; have hfz45_3 := blk_frozen BK1289.out 3; have hfz45_4 := blk_frozen BK1289.out 4; have hfz45_5 := blk_frozen BK1289.out 5; obtain ⟨Ao46, co46, eo46⟩ := Kd.R_slice HO1282.out; subst eo46; obtain ⟨Ao47, co47, eo47⟩ := Kd.R_slice HO1286.out; subst eo47; have hnb48 := NB1264_1267.out; have hnc48 := NB1267_1264.out; have hcz49_0 : w41.cell? ⟨gb1264, 0, none⟩ = some (.slice none 0 0) := (blk_cell BK1264.out 0).trans rfl; have hcz49_1 : w41.cell? ⟨gb1264, 1, none⟩ = some (.int .i64 0) := (blk_cell BK1264.out 1).trans rfl; have hcz49_2 : w41.cell? ⟨gb1264, 2, none⟩ = some (.slice none 0 0) := (blk_cell BK1264.out 2).trans rfl; have hcz49_3 : w41.cell? ⟨gb1264, 3, none⟩ = some (.int .i64 0) := (blk_cell BK1264.out 3).trans rfl; have hcz49_4 : w41.cell? ⟨gb1264, 4, none⟩ = some (.slice none 0 0) := (blk_cell BK1264.out 4).trans rfl; have hcz49_5 : w41.cell? ⟨gb1264, 5, none⟩ = some (.int .i64 0) := (blk_cell BK1264.out 5).trans rfl; have hfz49_0 := blk_frozen BK1264.out 0; have hfz49_1 := blk_frozen BK1264.out 1; have hfz49_2 := blk_frozen BK1264.out 2; have hfz49_3 := blk_frozen BK1264.out 3; have hfz49_4 := blk_frozen BK1264.out 4; have hfz49_5 := blk_frozen BK1264.out 5))
    refine bodyPost_ret (results_ctt rfl _ _ gb1264 31 #[.slice Ao42 t1276.length co42, .int .i64 t1279, .slice Ao46 t1280.length co46, .int .i64 t1283, .slice Ao47 t1284.length co47, .int .i64 t1287] (0, 0) _ rfl (by (with_reducible repeat (first | refine blk_drewN ?_ _ | refine blk_drew ?_ | refine blk_alloc ?_ _)); refine blk_put (cs := #[.slice Ao42 t1276.length co42, .int .i64 t1279, .slice Ao46 t1280.length co46, .int .i64 t1283, .slice Ao47 t1284.length co47, .int .i64 0]) ?_ 5 _ rfl; (with_reducible repeat (first | refine blk_drewN ?_ _ | refine blk_drew ?_ | refine blk_alloc ?_ _)); refine blk_put (cs := #[.slice Ao42 t1276.length co42, .int .i64 t1279, .slice Ao46 t1280.length co46, .int .i64 t1283, .slice none 0 0, .int .i64 0]) ?_ 4 _ rfl; (with_reducible repeat (first | refine blk_drewN ?_ _ | refine blk_drew ?_ | refine blk_alloc ?_ _)); refine blk_put (cs := #[.slice Ao42 t1276.length co42, .int .i64 t1279, .slice Ao46 t1280.length co46, .int .i64 0, .slice none 0 0, .int .i64 0]) ?_ 3 _ rfl; (with_reducible repeat (first | refine blk_drewN ?_ _ | refine blk_drew ?_ | refine blk_alloc ?_ _)); refine blk_put (cs := #[.slice Ao42 t1276.length co42, .int .i64 t1279, .slice none 0 0, .int .i64 0, .slice none 0 0, .int .i64 0]) ?_ 2 _ rfl; (with_reducible repeat (first | refine blk_drewN ?_ _ | refine blk_drew ?_ | refine blk_alloc ?_ _)); refine blk_put (cs := #[.slice Ao42 t1276.length co42, .int .i64 0, .slice none 0 0, .int .i64 0, .slice none 0 0, .int .i64 0]) ?_ 1 _ rfl; (with_reducible repeat (first | refine blk_drewN ?_ _ | refine blk_drew ?_ | refine blk_alloc ?_ _)); refine blk_put (cs := #[.slice none 0 0, .int .i64 0, .slice none 0 0, .int .i64 0, .slice none 0 0, .int .i64 0]) ?_ 0 _ rfl; (with_reducible repeat (first | refine blk_drewN ?_ _ | refine blk_drew ?_ | refine blk_alloc ?_ _)); refine blk_far ?_ NB1264_1289.out _; (with_reducible repeat (first | refine blk_drewN ?_ _ | refine blk_drew ?_ | refine blk_alloc ?_ _)); refine blk_far ?_ NB1264_1289.out _; (with_reducible repeat (first | refine blk_drewN ?_ _ | refine blk_drew ?_ | refine blk_alloc ?_ _)); refine blk_far ?_ NB1264_1289.out _; (with_reducible repeat (first | refine blk_drewN ?_ _ | refine blk_drew ?_ | refine blk_alloc ?_ _)); refine blk_far ?_ NB1264_1289.out _; (with_reducible repeat (first | refine blk_drewN ?_ _ | refine blk_drew ?_ | refine blk_alloc ?_ _)); refine blk_far ?_ NB1264_1289.out _; (with_reducible repeat (first | refine blk_drewN ?_ _ | refine blk_drew ?_ | refine blk_alloc ?_ _)); refine blk_far ?_ NB1264_1289.out _; (with_reducible repeat (first | refine blk_drewN ?_ _ | refine blk_drew ?_ | refine blk_alloc ?_ _)); exact BK1264.out) Try.underlying31 rfl (by kernel_rfl)) rfl ?_
    exact ⟨_, _, _, _, by first | rfl | (simp [errW_none, errW_some] <;> rfl) | (simp [*, errW_none, errW_some] <;> rfl), by (with_reducible repeat (first | apply Kd.R_alloc | apply Kd.R_drewN | apply Kd.R_drew)); exact Kd.R_mono (Kd.R_far (p := ⟨gb1264, 5, none⟩) (Kd.R_far (p := ⟨gb1264, 4, none⟩) (Kd.R_far (p := ⟨gb1264, 3, none⟩) (Kd.R_far (p := ⟨gb1264, 2, none⟩) (Kd.R_far (p := ⟨gb1264, 1, none⟩) (Kd.R_far (p := ⟨gb1264, 0, none⟩) (Kd.R_far (p := ⟨gb1289, 5, none⟩) (Kd.R_far (p := ⟨gb1289, 4, none⟩) (Kd.R_far (p := ⟨gb1289, 3, none⟩) (Kd.R_far (p := ⟨gb1289, 2, none⟩) (Kd.R_far (p := ⟨gb1289, 1, none⟩) (Kd.R_far (p := ⟨gb1289, 0, none⟩) (Kd.R_types (Kd.R_types HO1278.out BK1289.out (by decide)) BK1264.out (by decide)) (fun _ hk => hk.1.2) (.slice Ao42 t1276.length co42)) (fun _ hk => hk.1.2) (.int .i64 t1279)) (fun _ hk => hk.1.2) (.slice Ao46 t1280.length co46)) (fun _ hk => hk.1.2) (.int .i64 t1283)) (fun _ hk => hk.1.2) (.slice Ao47 t1284.length co47)) (fun _ hk => hk.1.2) (.int .i64 t1287)) (fun _ hk => hk.2) (.slice Ao42 t1276.length co42)) (fun _ hk => hk.2) (.int .i64 t1279)) (fun _ hk => hk.2) (.slice Ao46 t1280.length co46)) (fun _ hk => hk.2) (.int .i64 t1283)) (fun _ hk => hk.2) (.slice Ao47 t1284.length co47)) (fun _ hk => hk.2) (.int .i64 t1287)) (fun _ hk => ⟨hk.1.1.1.1, ⟨hk.1.1.1.2, hk.1.1.2⟩⟩), by (with_reducible repeat (first | apply Kd.R_alloc | apply Kd.R_drewN | apply Kd.R_drew)); exact Kd.R_mono (Kd.R_far (p := ⟨gb1264, 5, none⟩) (Kd.R_far (p := ⟨gb1264, 4, none⟩) (Kd.R_far (p := ⟨gb1264, 3, none⟩) (Kd.R_far (p := ⟨gb1264, 2, none⟩) (Kd.R_far (p := ⟨gb1264, 1, none⟩) (Kd.R_far (p := ⟨gb1264, 0, none⟩) (Kd.R_far (p := ⟨gb1289, 5, none⟩) (Kd.R_far (p := ⟨gb1289, 4, none⟩) (Kd.R_far (p := ⟨gb1289, 3, none⟩) (Kd.R_far (p := ⟨gb1289, 2, none⟩) (Kd.R_far (p := ⟨gb1289, 1, none⟩) (Kd.R_far (p := ⟨gb1289, 0, none⟩) (Kd.R_types (Kd.R_types HO1282.out BK1289.out (by decide)) BK1264.out (by decide)) (fun _ hk => hk.1.2) (.slice Ao42 t1276.length co42)) (fun _ hk => hk.1.2) (.int .i64 t1279)) (fun _ hk => hk.1.2) (.slice Ao46 t1280.length co46)) (fun _ hk => hk.1.2) (.int .i64 t1283)) (fun _ hk => hk.1.2) (.slice Ao47 t1284.length co47)) (fun _ hk => hk.1.2) (.int .i64 t1287)) (fun _ hk => hk.2) (.slice Ao42 t1276.length co42)) (fun _ hk => hk.2) (.int .i64 t1279)) (fun _ hk => hk.2) (.slice Ao46 t1280.length co46)) (fun _ hk => hk.2) (.int .i64 t1283)) (fun _ hk => hk.2) (.slice Ao47 t1284.length co47)) (fun _ hk => hk.2) (.int .i64 t1287)) (fun _ hk => ⟨hk.1.1.1.1, ⟨hk.1.1.1.2, hk.1.1.2⟩⟩), by (with_reducible repeat (first | apply Kd.R_alloc | apply Kd.R_drewN | apply Kd.R_drew)); exact Kd.R_mono (Kd.R_far (p := ⟨gb1264, 5, none⟩) (Kd.R_far (p := ⟨gb1264, 4, none⟩) (Kd.R_far (p := ⟨gb1264, 3, none⟩) (Kd.R_far (p := ⟨gb1264, 2, none⟩) (Kd.R_far (p := ⟨gb1264, 1, none⟩) (Kd.R_far (p := ⟨gb1264, 0, none⟩) (Kd.R_far (p := ⟨gb1289, 5, none⟩) (Kd.R_far (p := ⟨gb1289, 4, none⟩) (Kd.R_far (p := ⟨gb1289, 3, none⟩) (Kd.R_far (p := ⟨gb1289, 2, none⟩) (Kd.R_far (p := ⟨gb1289, 1, none⟩) (Kd.R_far (p := ⟨gb1289, 0, none⟩) (Kd.R_types (Kd.R_types HO1286.out BK1289.out (by decide)) BK1264.out (by decide)) (fun _ hk => hk.1.2) (.slice Ao42 t1276.length co42)) (fun _ hk => hk.1.2) (.int .i64 t1279)) (fun _ hk => hk.1.2) (.slice Ao46 t1280.length co46)) (fun _ hk => hk.1.2) (.int .i64 t1283)) (fun _ hk => hk.1.2) (.slice Ao47 t1284.length co47)) (fun _ hk => hk.1.2) (.int .i64 t1287)) (fun _ hk => hk.2) (.slice Ao42 t1276.length co42)) (fun _ hk => hk.2) (.int .i64 t1279)) (fun _ hk => hk.2) (.slice Ao46 t1280.length co46)) (fun _ hk => hk.2) (.int .i64 t1283)) (fun _ hk => hk.2) (.slice Ao47 t1284.length co47)) (fun _ hk => hk.2) (.int .i64 t1287)) (fun _ hk => ⟨hk.1.1.1.1, ⟨hk.1.1.1.2, hk.1.1.2⟩⟩), by (with_reducible repeat (first | apply Kd.R_alloc | apply Kd.R_drewN | apply Kd.R_drew)); exact Kd.R_mono (Kd.R_far (p := ⟨gb1264, 5, none⟩) (Kd.R_far (p := ⟨gb1264, 4, none⟩) (Kd.R_far (p := ⟨gb1264, 3, none⟩) (Kd.R_far (p := ⟨gb1264, 2, none⟩) (Kd.R_far (p := ⟨gb1264, 1, none⟩) (Kd.R_far (p := ⟨gb1264, 0, none⟩) (Kd.R_far (p := ⟨gb1289, 5, none⟩) (Kd.R_far (p := ⟨gb1289, 4, none⟩) (Kd.R_far (p := ⟨gb1289, 3, none⟩) (Kd.R_far (p := ⟨gb1289, 2, none⟩) (Kd.R_far (p := ⟨gb1289, 1, none⟩) (Kd.R_far (p := ⟨gb1289, 0, none⟩) (Kd.R_types (Kd.R_types HO1270.out BK1289.out (by decide)) BK1264.out (by decide)) (fun _ hk => hk.1.2) (.slice Ao42 t1276.length co42)) (fun _ hk => hk.1.2) (.int .i64 t1279)) (fun _ hk => hk.1.2) (.slice Ao46 t1280.length co46)) (fun _ hk => hk.1.2) (.int .i64 t1283)) (fun _ hk => hk.1.2) (.slice Ao47 t1284.length co47)) (fun _ hk => hk.1.2) (.int .i64 t1287)) (fun _ hk => hk.2) (.slice Ao42 t1276.length co42)) (fun _ hk => hk.2) (.int .i64 t1279)) (fun _ hk => hk.2) (.slice Ao46 t1280.length co46)) (fun _ hk => hk.2) (.int .i64 t1283)) (fun _ hk => hk.2) (.slice Ao47 t1284.length co47)) (fun _ hk => hk.2) (.int .i64 t1287)) (fun _ hk => ⟨hk.1.1.1.1.2, ⟨hk.1.1.1.2, hk.1.1.2⟩⟩), by repeat (first | (with_reducible first | exact HB.out | apply below_alloc | apply pw_below_drewN | apply below_drew1 | refine below_set ?_ (IsS112.ge HI1267.out) | refine below_set ?_ GE1264.out | refine below_set ?_ GE1289.out) | exact HB.out)⟩

end Go.Proofs.Ytbapokpkgonjkaa.Print

/- What is drawn for FnDisk: bytes, files, a disk, each within its bounds. -/
namespace Go.Proofs.Ytbapokpkgonjkaa.Print
open Go.RowKit Go.Proofs.YtbapokpkgonjkaaW.PrintWords Go.Proofs.YtbapokpkgonjkaaW.PrintLast Go.Proofs.YtbapokpkgonjkaaW.PrintMore
set_option linter.unusedVariables false
set_option linter.unusedSimpArgs false
def Bytes (l : List Int) : Prop := ∀ x ∈ l, 0 ≤ x ∧ x < 256
theorem rd_range {s : List Int} (hs : Bytes s) (i : Int) (h0 : 0 ≤ i) (h1 : i < (s.length : Int)) : 0 ≤ rd s i ∧ rd s i < 256 := by
  have hlt : i.toNat < s.length := by omega
  have e : rd s i = s[i.toNat] := by
    unfold rd
    rw [List.getD_eq_getElem?_getD, List.getElem?_eq_getElem hlt]
    rfl
  rw [e]
  exact hs _ (List.getElem_mem hlt)
theorem next_ok (s : List Int) (p : Int) (hs : Bytes s) (hl : s.length ≤ 500) (h0 : 0 ≤ p) (h1 : p ≤ 500) : ∃ t q, spec_l1rd_next.f s p = some (t, q) ∧ 0 ≤ t ∧ t < 256 ∧ 0 ≤ q ∧ q ≤ 500 := by
  unfold spec_l1rd_next.f
  by_cases c : p ≥ (s.length : Int)
  · rw [if_pos c]
    exact ⟨0, p, rfl, by omega, by omega, h0, h1⟩
  · rw [if_neg c, if_pos h0, if_pos (by omega)]
    have r := rd_range hs p h0 (by omega)
    have e1 : wrap64 (rd s p) = rd s p := by unfold wrap64; omega
    have e2 : wrap64 (p + 1) = p + 1 := by unfold wrap64; omega
    rw [e1, e2]
    exact ⟨_, _, rfl, r.1, r.2, by omega, by omega⟩
theorem drawBytes_l0_ok (s : List Int) (hs : Bytes s) (hl : s.length ≤ 500) : ∀ (d k : Nat) (n i p : Int) (x : List Int), n ≤ 13 → 0 ≤ i → i ≤ 13 → (x.length : Int) ≤ i → n - i ≤ (d : Int) → d < k → 0 ≤ p → p ≤ 500 → Bytes x → ∃ l q, spec_l1drawBytes.l0 k n x i s p = some (l, q) ∧ l.length ≤ 13 ∧ Bytes l ∧ 0 ≤ q ∧ q ≤ 500 := by
  intro d
  induction d with
  | zero =>
    intro k n i p x hn hi hi' hx hd hk h0 h1 hb
    obtain ⟨k, rfl⟩ : ∃ m, k = m + 1 := ⟨k - 1, by omega⟩
    simp only [spec_l1drawBytes.l0]
    rw [if_neg (by omega)]
    exact ⟨x, p, rfl, by omega, hb, h0, h1⟩
  | succ d ih =>
    intro k n i p x hn hi hi' hx hd hk h0 h1 hb
    obtain ⟨k, rfl⟩ : ∃ m, k = m + 1 := ⟨k - 1, by omega⟩
    simp only [spec_l1drawBytes.l0]
    by_cases c : i < n
    · rw [if_pos c]
      obtain ⟨t, q, hq, t0, t1, q0, q1⟩ := next_ok s p hs hl h0 h1
      rw [hq, Option.bind_some]
      simp only
      rw [if_pos (by omega)]
      have e : wrap64 (i + 1) = i + 1 := by unfold wrap64; omega
      rw [e]
      refine ih k n (i + 1) q _ hn (by omega) (by omega) (by simp only [List.length_append, List.length_singleton]; omega) (by omega) (by omega) q0 q1 ?_
      intro y hy
      rcases List.mem_append.1 hy with hy | hy
      · exact hb y hy
      · rw [List.mem_singleton.1 hy]
        omega
    · rw [if_neg c]
      exact ⟨x, p, rfl, by omega, hb, h0, h1⟩
theorem drawBytes_ok (s : List Int) (p : Int) (hs : Bytes s) (hl : s.length ≤ 500) (h0 : 0 ≤ p) (h1 : p ≤ 500) (k : Nat) (hk : 13 < k) : ∃ l q, spec_l1drawBytes.f k s p = some (l, q) ∧ l.length ≤ 13 ∧ Bytes l ∧ 0 ≤ q ∧ q ≤ 500 := by
  unfold spec_l1drawBytes.f
  obtain ⟨t, q, hq, t0, t1, q0, q1⟩ := next_ok s p hs hl h0 h1
  rw [hq, Option.bind_some]
  simp only
  have e : Int.tmod t 14 = t % 14 := Int.tmod_eq_emod_of_nonneg t0
  rw [e]
  exact drawBytes_l0_ok s hs hl 13 k (t % 14) 0 q [] (by omega) (by omega) (by omega) (by simp) (by omega) hk q0 q1 (by intro x hx; cases hx)
theorem drawFile_ok (s : List Int) (p : Int) (hs : Bytes s) (hl : s.length ≤ 500) (h0 : 0 ≤ p) (h1 : p ≤ 500) (k : Nat) (hk : 13 < k) : ∃ l a q, spec_l1drawFile.f k s p = some (l, a, q) ∧ l.length ≤ 13 ∧ Bytes l ∧ 0 ≤ q ∧ q ≤ 500 := by
  unfold spec_l1drawFile.f
  obtain ⟨l, q, hq, hl', hb, q0, q1⟩ := drawBytes_ok s p hs hl h0 h1 k hk
  rw [hq, Option.bind_some]
  simp only
  obtain ⟨t, q', hq', t0, t1, q0', q1'⟩ := next_ok s q hs hl q0 q1
  rw [hq', Option.bind_some]
  exact ⟨_, _, _, rfl, hl', hb, q0', q1'⟩
theorem fill_l0 (c : Int) (n : Int) (hn : n ≤ 300000) : ∀ (d k : Nat) (i : Int) (x : List Int), 0 ≤ i → (x.length : Int) = i → i + (d : Int) = n → d < k → spec_l1fill.l0 k c n x i = some (x ++ List.replicate d c) := by
  intro d
  induction d with
  | zero =>
    intro k i x hi hx hd hk
    obtain ⟨k, rfl⟩ : ∃ m, k = m + 1 := ⟨k - 1, by omega⟩
    simp only [spec_l1fill.l0]
    rw [if_neg (by omega)]
    simp
  | succ d ih =>
    intro k i x hi hx hd hk
    obtain ⟨k, rfl⟩ : ∃ m, k = m + 1 := ⟨k - 1, by omega⟩
    simp only [spec_l1fill.l0]
    rw [if_pos (by omega), if_pos (by omega)]
    have e : wrap64 (i + 1) = i + 1 := by unfold wrap64; omega
    rw [e, ih k (i + 1) _ (by omega) (by simp only [List.length_append, List.length_singleton]; omega) (by omega) (by omega), List.append_assoc]
    rfl
theorem fill_ok (c n : Int) (h0 : 0 ≤ n) (hn : n ≤ 300000) (k : Nat) (hk : 300000 < k) : spec_l1fill.f k c n = some (List.replicate n.toNat c) := by
  unfold spec_l1fill.f
  rw [fill_l0 c n hn n.toNat k 0 [] (by omega) (by simp) (by omega) (by omega)]
  rfl
theorem bytes_replicate (n : Nat) (c : Int) (h : 0 ≤ c ∧ c < 256) : Bytes (List.replicate n c) := fun x hx => by rw [List.eq_of_mem_replicate hx]; exact h
theorem drawDisk_ok (s : List Int) (p : Int) (hs : Bytes s) (hl : s.length ≤ 500) (h0 : 0 ≤ p) (h1 : p ≤ 500) (k : Nat) (hk : 300000 < k) : ∃ r1 r2 r3 r4 r5 r6 q, spec_l1drawDisk.f k s p = some (r1, r2, r3, r4, r5, r6, q) ∧ (r1.length ≤ 300000 ∧ Bytes r1) ∧ (r3.length ≤ 300000 ∧ Bytes r3) ∧ (r5.length ≤ 300000 ∧ Bytes r5) := by
  unfold spec_l1drawDisk.f
  obtain ⟨l1, a1, q1, e1, x1, b1, u1, v1⟩ := drawFile_ok s p hs hl h0 h1 k (by omega)
  rw [e1, Option.bind_some]
  simp only
  obtain ⟨l2, a2, q2, e2, x2, b2, u2, v2⟩ := drawFile_ok s q1 hs hl u1 v1 k (by omega)
  rw [e2, Option.bind_some]
  simp only
  obtain ⟨l3, a3, q3, e3, x3, b3, u3, v3⟩ := drawFile_ok s q2 hs hl u2 v2 k (by omega)
  rw [e3, Option.bind_some]
  simp only
  obtain ⟨t, q4, e4, t0, t1, u4, v4⟩ := next_ok s q3 hs hl u3 v3
  rw [e4, Option.bind_some]
  simp only
  by_cases c : t > 252
  · rw [if_pos c]
    have e : wrap64 (199746 + t) = 199746 + t := by unfold wrap64; omega
    rw [e, fill_ok 3 (199746 + t) (by omega) (by omega) k hk, Option.bind_some]
    exact ⟨_, _, _, _, _, _, _, rfl, ⟨by omega, b1⟩, ⟨by omega, b2⟩, ⟨by simp only [List.length_replicate]; omega, bytes_replicate _ _ (by decide)⟩⟩
  · rw [if_neg c]
    exact ⟨_, _, _, _, _, _, _, rfl, ⟨by omega, b1⟩, ⟨by omega, b2⟩, ⟨by omega, b3⟩⟩
theorem drawFileNo_ok (s : List Int) (p : Int) (hs : Bytes s) (hl : s.length ≤ 500) (h0 : 0 ≤ p) (h1 : p ≤ 500) : ∃ t q, spec_l1drawFileNo.f s p = some (t, q) ∧ -1 ≤ t ∧ t ≤ 3 ∧ 0 ≤ q ∧ q ≤ 500 := by
  unfold spec_l1drawFileNo.f
  obtain ⟨t, q, e, t0, t1, u, v⟩ := next_ok s p hs hl h0 h1
  rw [e, Option.bind_some]
  simp only
  split
  · exact ⟨_, _, rfl, by omega, by omega, u, v⟩
  · split
    · exact ⟨_, _, rfl, by omega, by omega, u, v⟩
    · have e3 : Int.tmod t 3 = t % 3 := Int.tmod_eq_emod_of_nonneg t0
      rw [e3]
      exact ⟨_, _, rfl, by omega, by omega, u, v⟩
theorem open_ok (l : List Int) (hb : Bytes l) : ∃ s, spec_l1open.f l = some (s, 0) ∧ s.length ≤ 500 ∧ Bytes s := by
  unfold spec_l1open.f
  by_cases c : (l.length : Int) > 500
  · rw [if_pos c, if_pos (by omega)]
    exact ⟨_, rfl, by simp only [List.length_take]; omega, fun x hx => hb x (List.mem_of_mem_take hx)⟩
  · rw [if_neg c, if_pos (by omega), if_pos (by omega)]
    exact ⟨_, rfl, by simp only [List.length_take]; omega, fun x hx => hb x (List.mem_of_mem_take hx)⟩
/-- The drawn disk, the file's number, the bytes. -/
theorem DrawDiskAppend_ok (l : List Int) (hb : Bytes l) (k : Nat) (hk : 300000 < k) : ∃ r1 r2 r3 r4 r5 r6 r7 r8, spec_DrawDiskAppend.f k l = some (r1, r2, r3, r4, r5, r6, r7, r8) ∧ r1.length ≤ 300000 ∧ r3.length ≤ 300000 ∧ r5.length ≤ 300000 ∧ r8.length ≤ 20 ∧ Bytes r8 ∧ -1 ≤ r7 ∧ r7 ≤ 3 := by
  unfold spec_DrawDiskAppend.f
  obtain ⟨s, e0, hl, hs⟩ := open_ok l hb
  rw [e0, Option.bind_some]
  simp only
  obtain ⟨b, q1, e1, x1, b1, u1, v1⟩ := drawBytes_ok s 0 hs hl (by omega) (by omega) k (by omega)
  rw [e1, Option.bind_some]
  simp only
  obtain ⟨t, q2, e2, t0, t1, u2, v2⟩ := next_ok s q1 hs hl u1 v1
  rw [e2, Option.bind_some]
  simp only
  obtain ⟨f, q3, e3, f0, f1, u3, v3⟩ := drawFileNo_ok s q2 hs hl u2 v2
  rw [e3, Option.bind_some]
  simp only
  obtain ⟨r1, r2, r3, r4, r5, r6, q4, e4, ⟨y1, _⟩, ⟨y3, _⟩, ⟨y5, _⟩⟩ := drawDisk_ok s q3 hs hl u3 v3 k hk
  rw [e4, Option.bind_some]
  simp only
  by_cases c : t = 0
  · rw [if_pos c, fill_ok 3 199998 (by omega) (by omega) k hk, Option.bind_some]
    have hm : -1 ≤ Int.tmod f 3 ∧ Int.tmod f 3 ≤ 2 := by
      have : f = -1 ∨ f = 0 ∨ f = 1 ∨ f = 2 ∨ f = 3 := by omega
      rcases this with rfl | rfl | rfl | rfl | rfl <;> decide
    have e : wrap64 (1 + Int.tmod f 3) = 1 + Int.tmod f 3 := by unfold wrap64; omega
    rw [e, fill_ok 4 (1 + Int.tmod f 3) (by omega) (by omega) k hk, Option.bind_some]
    exact ⟨_, _, _, _, _, _, _, _, rfl, y1, y3, by simp only [List.length_replicate]; omega, by simp only [List.length_replicate]; omega, bytes_replicate _ _ (by decide), by omega, by omega⟩
  · rw [if_neg c]
    exact ⟨_, _, _, _, _, _, _, _, rfl, y1, y3, y5, by omega, b1, f0, f1⟩
end Go.Proofs.Ytbapokpkgonjkaa.Print

/- The disk's files at work: (*file).ok, ValidDisk. -/
namespace Go.Proofs.Ytbapokpkgonjkaa.Print
open Go.RowKit Go.Proofs.YtbapokpkgonjkaaW.PrintWords Go.Proofs.YtbapokpkgonjkaaW.PrintLast Go.Proofs.YtbapokpkgonjkaaW.PrintMore
set_option linter.unusedVariables false
set_option linter.unusedSimpArgs false

def okFile (n : Nat) (s : Int) : Bool := decide ((n : Int) ≤ 200000) && (decide (0 ≤ s) && decide (s ≤ (n : Int)))

set_option maxHeartbeats 400000 in
set_option maxRecDepth 100000 in
theorem file_ok (g o n c : Nat) (A : Option Addr) (s : Int) (w : World) (h0 : w.cell? ⟨g, o, none⟩ = some (.slice A n c)) (h1 : w.cell? ⟨g, o + 1, none⟩ = some (.int .i64 s)) :
    Calls Try.prog 60 #[.pointer (some ⟨g, o, none⟩)] w fun e w' => e = .returned (.bool (okFile n s)) ∧ Drawn0 w w' := by
  by_cases c1 : (n : Int) ≤ 200000
  · by_cases c2 : 0 ≤ s
    · have k1 : decide ((n : Int) ≤ 200000) = true := decide_eq_true c1
      have k2 : decide (0 ≤ s) = true := decide_eq_true c2
      have HF : Aside0 (okFile n s = decide (s ≤ (n : Int))) := ⟨by unfold okFile; rw [k1, k2]; rfl⟩
      go_enter Try.func60, Try.ntmps60
      go_wp2_with fail
      go_quiet (fail)
      go_wp2_with fail
      go_ret
      exact ⟨by rw [HF.out]; rfl, by repeat (first | exact Drawn0.refl _ | apply Drawn0.step)⟩
    · have k1 : decide ((n : Int) ≤ 200000) = true := decide_eq_true c1
      have k2 : decide (0 ≤ s) = false := decide_eq_false c2
      have HF : Aside0 (okFile n s = false) := ⟨by unfold okFile; rw [k1, k2]; rfl⟩
      go_enter Try.func60, Try.ntmps60
      go_wp2_with fail
      go_quiet (fail)
      go_wp2_with fail
      go_ret
      exact ⟨by rw [HF.out]; rfl, by repeat (first | exact Drawn0.refl _ | apply Drawn0.step)⟩
  · have k1 : decide ((n : Int) ≤ 200000) = false := decide_eq_false c1
    have HF : Aside0 (okFile n s = false) := ⟨by unfold okFile; rw [k1]; rfl⟩
    go_enter Try.func60, Try.ntmps60
    go_wp2_with fail
    go_quiet (fail)
    go_wp2_with fail
    go_ret
    exact ⟨by rw [HF.out]; rfl, by repeat (first | exact Drawn0.refl _ | apply Drawn0.step)⟩

def impl_ValidDisk.f (l0_0 : List Int) (a0_1 : Int) (l0_2 : List Int) (a0_3 : Int) (l0_4 : List Int) (a0_5 : Int) : Option Bool := some (okFile l0_0.length a0_1 && (okFile l0_2.length a0_3 && okFile l0_4.length a0_5))

set_option maxHeartbeats 400000 in
set_option maxRecDepth 100000 in
/-- ValidDisk at whatever lengths: it draws and makes memory of its own. -/
theorem validDisk_any (A0_0 : Option Addr) (n0 c0_0 : Nat) (a0_1 : Int) (A0_2 : Option Addr) (n2 c0_2 : Nat) (a0_3 : Int) (A0_4 : Option Addr) (n4 c0_4 : Nat) (a0_5 : Int) (w : World) :
    Calls Try.prog 18 #[.agg #[.slice A0_0 n0 c0_0, .int .i64 a0_1, .slice A0_2 n2 c0_2, .int .i64 a0_3, .slice A0_4 n4 c0_4, .int .i64 a0_5]] w fun e w' => e = .returned (.bool (okFile n0 a0_1 && (okFile n2 a0_3 && okFile n4 a0_5))) ∧ Below w.heap.size w w' := by
  rcases h0 : okFile n0 a0_1 with _ | _
  · go_enter Try.func18, Try.ntmps18
    go_wp2_with fail
    refine (file_ok _ _ n0 c0_0 A0_0 a0_1 _ (by go_simp) (by go_simp)).mono ?_
    rintro e w' ⟨rfl, ⟨q1, rfl⟩⟩
    go_wp2_with fail
    go_ret
    exact ⟨rfl, by repeat (first | exact Below.refl _ _ | apply below_alloc | apply pw_below_drewN | apply below_drew1)⟩
  · rcases h2 : okFile n2 a0_3 with _ | _
    · go_enter Try.func18, Try.ntmps18
      go_wp2_with fail
      refine (file_ok _ _ n0 c0_0 A0_0 a0_1 _ (by go_simp) (by go_simp)).mono ?_
      rintro e w' ⟨rfl, ⟨q1, rfl⟩⟩
      go_wp2_with fail
      refine (file_ok _ _ n2 c0_2 A0_2 a0_3 _ (by go_simp) (by go_simp)).mono ?_
      rintro e w' ⟨rfl, ⟨q2, rfl⟩⟩
      go_wp2_with fail
      go_ret
      exact ⟨rfl, by repeat (first | exact Below.refl _ _ | apply below_alloc | apply pw_below_drewN | apply below_drew1)⟩
    · go_enter Try.func18, Try.ntmps18
      go_wp2_with fail
      refine (file_ok _ _ n0 c0_0 A0_0 a0_1 _ (by go_simp) (by go_simp)).mono ?_
      rintro e w' ⟨rfl, ⟨q1, rfl⟩⟩
      go_wp2_with fail
      refine (file_ok _ _ n2 c0_2 A0_2 a0_3 _ (by go_simp) (by go_simp)).mono ?_
      rintro e w' ⟨rfl, ⟨q2, rfl⟩⟩
      go_wp2_with fail
      refine (file_ok _ _ n4 c0_4 A0_4 a0_5 _ (by go_simp) (by go_simp)).mono ?_
      rintro e w' ⟨rfl, ⟨q3, rfl⟩⟩
      go_wp2_with fail
      go_ret
      exact ⟨rfl, by repeat (first | exact Below.refl _ _ | apply below_alloc | apply pw_below_drewN | apply below_drew1)⟩

theorem impl_ValidDisk.calls (A0_0 : Option Addr) (c0_0 : Nat) (l0_0 : List Int) (a0_1 : Int) (A0_2 : Option Addr) (c0_2 : Nat) (l0_2 : List Int) (a0_3 : Int) (A0_4 : Option Addr) (c0_4 : Nat) (l0_4 : List Int) (a0_5 : Int) (r : Bool) (w : World) (hr0_0 : Kd.C (Kd.int .u8) w A0_0 l0_0.length l0_0) (hc0_0 : l0_0.length ≤ c0_0) (hr0_2 : Kd.C (Kd.int .u8) w A0_2 l0_2.length l0_2) (hc0_2 : l0_2.length ≤ c0_2) (hr0_4 : Kd.C (Kd.int .u8) w A0_4 l0_4.length l0_4) (hc0_4 : l0_4.length ≤ c0_4) (h : impl_ValidDisk.f l0_0 a0_1 l0_2 a0_3 l0_4 a0_5 = some r) :
    Calls Try.prog 18 #[.agg #[.slice A0_0 l0_0.length c0_0, .int .i64 a0_1, .slice A0_2 l0_2.length c0_2, .int .i64 a0_3, .slice A0_4 l0_4.length c0_4, .int .i64 a0_5]] w fun e w' => e = .returned (.bool r) ∧ Below w.heap.size w w' := by
  obtain rfl := Option.some.inj h
  exact validDisk_any _ _ _ _ _ _ _ _ _ _ _ _ _

end Go.Proofs.Ytbapokpkgonjkaa.Print
