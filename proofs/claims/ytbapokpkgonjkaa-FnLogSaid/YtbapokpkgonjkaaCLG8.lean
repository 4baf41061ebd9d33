/- Texts of this session, joined by its own program. -/
import Derived.Test.YtbapokpkgonjkaaCLG0
import Derived.Test.YtbapokpkgonjkaaCLG3
import Derived.Test.YtbapokpkgonjkaaCLG4
import Derived.Test.YtbapokpkgonjkaaCLG7
namespace Go.Proofs.Ytbapokpkgonjkaa.Print
open Go.RowKit Go.Proofs.YtbapokpkgonjkaaW.PrintWords Go.Proofs.YtbapokpkgonjkaaW.PrintLast Go.Proofs.YtbapokpkgonjkaaW.PrintMore
attribute [local go_sem] max2_int min2_int max_two min_two max_three min_three max_four min_four
set_option linter.unusedVariables false
set_option linter.unusedSimpArgs false
mutual
def spec_DrawReadLog.l0 : Nat → Int → Int → List Int → Int → List Int → Int → Option (List Int)
  | 0, _, _, _, _, _, _ => none
  | k + 1, x4, x5, x6, x7, x1459000, x1459001 => if x7 < x4 then ((spec_l1drawBytes.f k x1459000 x1459001).bind fun bt1463 => ((spec_EncodeRecord.f k x5 bt1463.1).bind fun t1467 => (if x6.length + t1467.length < 140737488355328 then ((some (x6 ++ t1467 : List Int)).bind fun y1470 => ((spec_l1rd_next.f x1459000 bt1463.2).bind fun bt1473 => (if bt1473.1 = 7 then (spec_DrawReadLog.j1 k x4 (IntKind.u64.wrap ((IntKind.u64.wrap (x5 + 1)) + 1)) y1470 x7 bt1473.1 x1459000 bt1473.2) else (spec_DrawReadLog.j1 k x4 (IntKind.u64.wrap (x5 + 1)) y1470 x7 bt1473.1 x1459000 bt1473.2)))) else (none)))) else ((spec_l1rd_next.f x1459000 x1459001).bind fun bt1490 => ((spec_l1rd_next.f x1459000 bt1490.2).bind fun bt1492 => ((spec_l1rd_next.f x1459000 bt1492.2).bind fun bt1494 => (if (x6.length : Int) > 0 then (spec_DrawReadLog.j2 k x6 bt1490.1 (wrap64 ((wrap64 ((wrap64 (bt1492.1 * 256)) + 1)) + bt1494.1)) ((Int.tmod bt1490.1 4) == 0)) else (spec_DrawReadLog.j2 k x6 bt1490.1 (wrap64 ((wrap64 ((wrap64 (bt1492.1 * 256)) + 1)) + bt1494.1)) false)))))
def spec_DrawReadLog.j1 : Nat → Int → Int → List Int → Int → Int → List Int → Int → Option (List Int)
  | 0, _, _, _, _, _, _, _ => none
  | k + 1, x4, x5, x6, x7, x9, x1459000, x1459001 => if x9 = 8 then ((spec_l2little.f k 1001 2).bind fun t1475 => ((spec_l1fill.f k 1 1009).bind fun t1478 => (if t1475.length + t1478.length < 140737488355328 then ((spec_l2summed.f k (t1475 ++ t1478)).bind fun t1484 => (if x6.length + t1484.length < 140737488355328 then (spec_DrawReadLog.l0 k x4 x5 (x6 ++ t1484) (wrap64 (x7 + 1)) x1459000 x1459001) else (none))) else (none)))) else (spec_DrawReadLog.l0 k x4 x5 x6 (wrap64 (x7 + 1)) x1459000 x1459001)
def spec_DrawReadLog.j2 : Nat → List Int → Int → Int → Bool → Option (List Int)
  | 0, _, _, _, _ => none
  | k + 1, x6, x10, x11, x65 => if x65 = true then (if (x6.length : Int) = 0 then (none) else (if 0 ≤ (Int.tmod x11 (x6.length : Int)) then (if (Int.tmod x11 (x6.length : Int)) ≤ (x6.length : Int) then (spec_DrawReadLog.j3 k (x6.take ((Int.tmod x11 (x6.length : Int)) : Int).toNat) x10 x11) else (none)) else (none))) else (spec_DrawReadLog.j3 k x6 x10 x11)
def spec_DrawReadLog.j3 : Nat → List Int → Int → Int → Option (List Int)
  | 0, _, _, _ => none
  | k + 1, x6, x10, x11 => if (x6.length : Int) > 0 then (spec_DrawReadLog.j4 k x6 x10 x11 ((Int.tmod x10 4) == 1)) else (spec_DrawReadLog.j4 k x6 x10 x11 false)
def spec_DrawReadLog.j4 : Nat → List Int → Int → Int → Bool → Option (List Int)
  | 0, _, _, _, _ => none
  | k + 1, x6, x10, x11, x79 => if x79 = true then (if (x6.length : Int) = 0 then (none) else (if 0 ≤ (Int.tmod x11 (x6.length : Int)) then (if (Int.tmod x11 (x6.length : Int)) < (x6.length : Int) then (if 0 ≤ (IntKind.u64.wrap (Int.tmod (wrap64 (Int.tdiv x10 4)) 8)) then ((some (x6.set ((Int.tmod x11 (x6.length : Int)) : Int).toNat (Go.bits .xor .u8 (rd x6 (Int.tmod x11 (x6.length : Int))) (shl .u8 1 (IntKind.u64.wrap (Int.tmod (wrap64 (Int.tdiv x10 4)) 8)))) : List Int)).bind fun y1500 => (if (Int.tmod x10 8) = 2 then ((spec_l1fill.f k ((x11) % 256) (wrap64 (Int.tdiv x10 8))).bind fun t1501 => (if y1500.length + t1501.length < 140737488355328 then (some (y1500 ++ t1501)) else (none))) else (some y1500))) else (none)) else (none)) else (none))) else (if (Int.tmod x10 8) = 2 then ((spec_l1fill.f k ((x11) % 256) (wrap64 (Int.tdiv x10 8))).bind fun t1507 => (if x6.length + t1507.length < 140737488355328 then (some (x6 ++ t1507)) else (none))) else (some x6))
end
def spec_DrawReadLog.f (k : Nat) (l0 : List Int) : Option (List Int) := (spec_l1open.f l0).bind fun bt1456 => ((spec_l1rd_next.f bt1456.1 bt1456.2).bind fun bt1459 => ((spec_l2drawSeq.f bt1456.1 bt1459.2).bind fun bt1461 => (spec_DrawReadLog.l0 k (Int.tmod bt1459.1 7) bt1461.1 ([] : List Int) 0 bt1456.1 bt1461.2)))
set_option maxHeartbeats 8000000 in
set_option maxRecDepth 100000 in
theorem spec_DrawReadLog.calls (k : Nat) (A0 : Option Addr) (c0 : Nat) (l0 : List Int) (r : List Int) (w : World) (hr0 : Kd.C (Kd.int .u8) w A0 l0.length l0) (hc0 : l0.length ≤ c0) (h : spec_DrawReadLog.f k l0 = some r) :
    Calls Try.prog 56 #[.slice A0 l0.length c0] w fun e w' => ∃ v0_ : Value, e = .returned (v0_) ∧ Kd.R (Kd.int .u8) 5 w' w.heap.size (fun _ => True) v0_ r ∧ Below w.heap.size w w' := by
  have hu45 := Try.underlying45
  have HR0 := Aside0.mk hr0
  have HC0 := Aside0.mk hc0
  clear hr0 hc0
  have HB := Aside0.mk (Below.refl w.heap.size w)
  have H : ((spec_l1open.f l0).bind fun bt1456 => ((spec_l1rd_next.f bt1456.1 bt1456.2).bind fun bt1459 => ((spec_l2drawSeq.f bt1456.1 bt1459.2).bind fun bt1461 => (spec_DrawReadLog.l0 k (Int.tmod bt1459.1 7) bt1461.1 ([] : List Int) 0 bt1456.1 bt1461.2)))) = some r := h
  clear h
  replace H := Option.bind_eq_some_iff.mp H
  obtain ⟨⟨t1456, t1457⟩, A20, H⟩ := H
  replace H : ((spec_l1rd_next.f t1456 t1457).bind fun bt1459 => ((spec_l2drawSeq.f t1456 bt1459.2).bind fun bt1461 => (spec_DrawReadLog.l0 k (Int.tmod bt1459.1 7) bt1461.1 ([] : List Int) 0 t1456 bt1461.2))) = some r := H
  have A2 := Aside0.mk A20
  clear A20
  replace H := Option.bind_eq_some_iff.mp H
  obtain ⟨⟨t1459, t1460⟩, A30, H⟩ := H
  replace H : ((spec_l2drawSeq.f t1456 t1460).bind fun bt1461 => (spec_DrawReadLog.l0 k (Int.tmod t1459 7) bt1461.1 ([] : List Int) 0 t1456 bt1461.2)) = some r := H
  have A3 := Aside0.mk A30
  clear A30
  replace H := Option.bind_eq_some_iff.mp H
  obtain ⟨⟨t1461, t1462⟩, A40, H⟩ := H
  replace H : (spec_DrawReadLog.l0 k (Int.tmod t1459 7) t1461 ([] : List Int) 0 t1456 t1462) = some r := H
  have A4 := Aside0.mk A40
  clear A40
  have H' := Aside0.mk H
  clear H
  go_enter Try.func56, Try.ntmps56
  go_wp2_with (first | ((with_reducible refine gate_callee (f := 92) rfl ?_); refine goesL_ (some 13) rfl rfl Try.func92 (by kernel_rfl) rfl #[.slice A0 l0.length c0] rfl (by (try simp only [List.map_toArray, List.map_cons, List.map_nil]); first | done | rfl | (simp only [List.length_drop, List.length_take]; rfl)) ?_; (with_reducible refine (spec_l1open.calls _ _ l0 t1456 t1457 w _ ?side1 ?side2 ?side3 A2.out).mono ?_); (case side1 => repeat (first | (with_reducible first | exact HB.out | apply below_alloc | apply pw_below_drewN | apply below_drew1) | exact HB.out)); (case side2 => exact HR0.out); (case side3 => exact HC0.out); rintro e w5 ⟨g1458, rfl, hi, hb, hb2⟩; refine ⟨_, rfl, ?_⟩; have n0_ := Aside0.mk (hb); have n1_ := Aside0.mk (hi); clear HB; have HB := n0_; have HI1458 := n1_; clear n0_ n1_; (try clear hb); (try clear hb2); (try clear hk); (try clear hi)) | ((with_reducible refine gate_callee (f := 94) rfl ?_); refine goesL_ (some 15) rfl rfl Try.func94 (by kernel_rfl) rfl #[.pointer (some ⟨g1458, 0, none⟩)] rfl (by (try simp only [List.map_toArray, List.map_cons, List.map_nil]); first | done | rfl | (simp only [List.length_drop, List.length_take]; rfl)) ?_; (with_reducible refine (spec_l1rd_next.calls g1458 t1456 t1457 t1459 t1460 w _ ?side1 ?side2 A3.out).mono ?_); (case side1 => repeat (first | (with_reducible first | exact HI1458.out | apply IsS112.alloc | apply IsS112.drewN | apply IsS112.drew | apply IsS112.set_1) | exact HI1458.out)); (case side2 => repeat (first | (with_reducible first | exact HB.out | apply below_alloc | apply pw_below_drewN | apply below_drew1 | refine below_set ?_ (IsS112.ge HI1458.out)) | exact HB.out)); rintro e w6 ⟨rfl, hi, hb, hk⟩; refine ⟨_, rfl, ?_⟩; have n0_ := Aside0.mk (hb); have n1_ := Aside0.mk (hi); clear HB; clear HI1458; have HB := n0_; have HI1458 := n1_; clear n0_ n1_; (try clear hb); (try clear hb2); (try clear hk); (try clear hi)) | ((with_reducible refine gate_callee (f := 98) rfl ?_); refine goesL_ (some 18) rfl rfl Try.func98 (by kernel_rfl) rfl #[.pointer (some ⟨g1458, 0, none⟩)] rfl (by (try simp only [List.map_toArray, List.map_cons, List.map_nil]); first | done | rfl | (simp only [List.length_drop, List.length_take]; rfl)) ?_; (with_reducible refine (spec_l2drawSeq.calls g1458 t1456 t1460 t1461 t1462 w _ ?side1 ?side2 A4.out).mono ?_); (case side1 => repeat (first | (with_reducible first | exact HI1458.out | apply IsS112.alloc | apply IsS112.drewN | apply IsS112.drew | apply IsS112.set_1) | exact HI1458.out)); (case side2 => repeat (first | (with_reducible first | exact HB.out | apply below_alloc | apply pw_below_drewN | apply below_drew1 | refine below_set ?_ (IsS112.ge HI1458.out)) | exact HB.out)); rintro e w7 ⟨rfl, hi, hb, hk⟩; refine ⟨_, rfl, ?_⟩; have n0_ := Aside0.mk (hb); have n1_ := Aside0.mk (hi); clear HB; clear HI1458; have HB := n0_; have HI1458 := n1_; clear n0_ n1_; (try clear hb); (try clear hb2); (try clear hk); (try clear hi)))
  go_loopg [5, 6, 7] k (fun kq v5 v6 v7 w' => ∃ (x5_1 : Int) (x6_1 : List Int) (x7_1 : Int) (x1459001_1 : Int), v5 = .int .u64 x5_1 ∧ v7 = .int .i64 x7_1 ∧ Aside0 (spec_DrawReadLog.l0 kq (Int.tmod t1459 7) x5_1 x6_1 x7_1 t1456 x1459001_1 = some r) ∧ Aside0 (kq ≤ k) ∧ Aside0 (Kd.R (Kd.int .u8) 5 w' w.heap.size (fun _ => True) v6 x6_1) ∧ Aside0 (IsS112 w w' g1458 t1456 x1459001_1) ∧ Aside0 (Below w.heap.size w w'))
  case atStart => exact ⟨(t1461), (([] : List Int)), (0), (t1462), (by first | rfl | (simp; done) | (simp [*]; done)), (by first | rfl | (simp; done) | (simp [*]; done)), H', ⟨Nat.le_refl _⟩, ⟨by first | exact Kd.R_nil _ _ _ _ _ | exact Kd.N_nil _ _ _ _ _ | exact Kd.V_nil _ _ _ _ _ | exact Kd.Q_nil _ _ _ _ _ | exact Kd.S_nil _ _ _ _ _⟩, ⟨by repeat (first | (with_reducible first | exact HI1458.out | apply IsS112.alloc | apply IsS112.drewN | apply IsS112.drew | apply IsS112.set_1) | exact HI1458.out)⟩, ⟨by repeat (first | (with_reducible first | exact HB.out | apply below_alloc | apply pw_below_drewN | apply below_drew1 | refine below_set ?_ (IsS112.ge HI1458.out)) | exact HB.out)⟩⟩
  case round =>
    clear H'
    try clear p2
    try clear c5
    obtain ⟨x5_1, x6_1, x7_1, x1459001_1, rfl, rfl, HA, HK1, HO_6, HI1458, HB⟩ := hrel
    cases gk with
    | zero => exact absurd HA.out (by simp [spec_DrawReadLog.l0])
    | succ k1 =>
      have H := HA.out
      clear HA
      simp only [spec_DrawReadLog.l0] at H
      by_cases c8 : x7_1 < (Int.tmod t1459 7)
      · rw [if_pos c8] at H
        have c8b0 : decide (x7_1 < (Int.tmod t1459 7)) = true := decide_eq_true c8
        clear c8
        replace H := Option.bind_eq_some_iff.mp H
        obtain ⟨⟨t1463, t1466⟩, A90, H⟩ := H
        replace H : ((spec_EncodeRecord.f k1 x5_1 t1463).bind fun t1467 => (if x6_1.length + t1467.length < 140737488355328 then ((some (x6_1 ++ t1467 : List Int)).bind fun y1470 => ((spec_l1rd_next.f t1456 t1466).bind fun bt1473 => (if bt1473.1 = 7 then (spec_DrawReadLog.j1 k1 (Int.tmod t1459 7) (IntKind.u64.wrap ((IntKind.u64.wrap (x5_1 + 1)) + 1)) y1470 x7_1 bt1473.1 t1456 bt1473.2) else (spec_DrawReadLog.j1 k1 (Int.tmod t1459 7) (IntKind.u64.wrap (x5_1 + 1)) y1470 x7_1 bt1473.1 t1456 bt1473.2)))) else (none))) = some r := H
        have A9 := Aside0.mk A90
        clear A90
        replace H := Option.bind_eq_some_iff.mp H
        obtain ⟨t1467, A100, H⟩ := H
        replace H : (if x6_1.length + t1467.length < 140737488355328 then ((some (x6_1 ++ t1467 : List Int)).bind fun y1470 => ((spec_l1rd_next.f t1456 t1466).bind fun bt1473 => (if bt1473.1 = 7 then (spec_DrawReadLog.j1 k1 (Int.tmod t1459 7) (IntKind.u64.wrap ((IntKind.u64.wrap (x5_1 + 1)) + 1)) y1470 x7_1 bt1473.1 t1456 bt1473.2) else (spec_DrawReadLog.j1 k1 (Int.tmod t1459 7) (IntKind.u64.wrap (x5_1 + 1)) y1470 x7_1 bt1473.1 t1456 bt1473.2)))) else (none)) = some r := H
        have A10 := Aside0.mk A100
        clear A100
        by_cases c11 : x6_1.length + t1467.length < 140737488355328
        · rw [if_pos c11] at H
          have LMc11 := Aside0.mk c11
          clear c11
          obtain ⟨y1470, hy1470⟩ : ∃ y_ : List Int, y_ = (x6_1 ++ t1467) := ⟨_, rfl⟩
          replace H : ((spec_l1rd_next.f t1456 t1466).bind fun bt1473 => (if bt1473.1 = 7 then (spec_DrawReadLog.j1 k1 (Int.tmod t1459 7) (IntKind.u64.wrap ((IntKind.u64.wrap (x5_1 + 1)) + 1)) y1470 x7_1 bt1473.1 t1456 bt1473.2) else (spec_DrawReadLog.j1 k1 (Int.tmod t1459 7) (IntKind.u64.wrap (x5_1 + 1)) y1470 x7_1 bt1473.1 t1456 bt1473.2))) = some r := by first | (rw [hy1470]; with_reducible exact H) | (have H2_ := (Option.bind_some _ _).symm.trans H; rw [hy1470]; with_reducible exact H2_) | (have H2_ := (Option.bind_some _ _).symm.trans H; with_reducible exact H2_) | with_reducible exact H | (rw [hy1470]; exact H) | exact H
          have Ny1470 := Aside0.mk hy1470
          clear hy1470
          replace H := Option.bind_eq_some_iff.mp H
          obtain ⟨⟨t1473, t1474⟩, A120, H⟩ := H
          replace H : (if t1473 = 7 then (spec_DrawReadLog.j1 k1 (Int.tmod t1459 7) (IntKind.u64.wrap ((IntKind.u64.wrap (x5_1 + 1)) + 1)) y1470 x7_1 t1473 t1456 t1474) else (spec_DrawReadLog.j1 k1 (Int.tmod t1459 7) (IntKind.u64.wrap (x5_1 + 1)) y1470 x7_1 t1473 t1456 t1474)) = some r := H
          have A12 := Aside0.mk A120
          clear A120
          have HC13 := Aside0.mk H
          clear H
          go_upto_if 37 with (first | ((with_reducible refine gate_callee (f := 93) rfl ?_); refine goesL_ (some 25) rfl rfl Try.func93 (by kernel_rfl) rfl #[.pointer (some ⟨g1458, 0, none⟩)] rfl (by (try simp only [List.map_toArray, List.map_cons, List.map_nil]); first | done | rfl | (simp only [List.length_drop, List.length_take]; rfl)) ?_; (with_reducible refine (spec_l1drawBytes.calls k1 g1458 t1456 x1459001_1 t1463 t1466 w _ ?side1 ?side2 A9.out).mono ?_); (case side1 => repeat (first | (with_reducible first | exact HI1458.out | apply IsS112.alloc | apply IsS112.drewN | apply IsS112.drew | apply IsS112.set_1) | exact HI1458.out)); (case side2 => repeat (first | (with_reducible first | exact HB.out | apply below_alloc | apply pw_below_drewN | apply below_drew1 | refine below_set ?_ (IsS112.ge HI1458.out)) | exact HB.out)); rintro e w14 ⟨v1464, rfl, ho0, hi, hb, hk⟩; refine ⟨_, rfl, ?_⟩; have n0_ := Aside0.mk (Kd.R_mono (Kd.R_told (Kd.R_oldK (IsS112.apart (show IsS112 w _ g1458 t1456 x1459001_1 from by repeat (first | (with_reducible first | exact HI1458.out | apply IsS112.alloc | apply IsS112.drewN | apply IsS112.drew | apply IsS112.set_1) | exact HI1458.out)) (by (with_reducible repeat (first | apply Kd.R_alloc | apply Kd.R_drewN | apply Kd.R_drew)); exact HO_6.out) (by decide)) hk) (Kd.R_base ho0)) (fun _ h_ => h_.1)); have n1_ := Aside0.mk (Kd.R_lower (Kd.R_new' ho0 (Kd.R_lt (by (with_reducible repeat (first | apply Kd.R_alloc | apply Kd.R_drewN | apply Kd.R_drew)); exact HO_6.out))) (below_size (by repeat (first | (with_reducible first | exact HB.out | apply below_alloc | apply pw_below_drewN | apply below_drew1 | refine below_set ?_ (IsS112.ge HI1458.out)) | exact HB.out)))); have n2_ := Aside0.mk (hb); have n3_ := Aside0.mk (hi); clear HO_6; clear HB; clear HI1458; have HO_6 := n0_; have HO1465 := n1_; have HB := n2_; have HI1458 := n3_; clear n0_ n1_ n2_ n3_; (try clear hb); (try clear hb2); (try clear hk); (try clear hi); (try clear ho0); obtain ⟨Ao15, co15, eo15⟩ := Kd.R_slice HO1465.out; subst eo15) | ((with_reducible refine gate_callee (f := 27) rfl ?_); refine goesL_ (some 30) rfl rfl Try.func27 (by kernel_rfl) rfl #[.agg #[.int .u64 x5_1, .slice Ao15 t1463.length co15]] rfl (by (try simp only [List.map_toArray, List.map_cons, List.map_nil]); first | done | rfl | (simp only [List.length_drop, List.length_take]; rfl)) ?_; (with_reducible refine (spec_EncodeRecord.calls k1 x5_1 _ _ t1463 t1467 _ ?side1 ?side2 A10.out).mono ?_); (case side1 => repeat (first | exact (Kd.R_reads' HO1465.out).2.2 | (with_reducible refine Kd.C_alloc ?_ _) | (with_reducible refine Kd.C_drewN ?_ _) | (with_reducible refine Kd.C_drew ?_))); (case side2 => exact (Kd.R_reads' HO1465.out).2.1); rintro e w16 ⟨v1468, rfl, ho0, hb⟩; refine ⟨_, rfl, ?_⟩; have n0_ := Aside0.mk (Kd.R_elder' (by (with_reducible repeat (first | apply Kd.R_alloc | apply Kd.R_drewN | apply Kd.R_drew)); exact HO_6.out) (Kd.R_base ho0) hb); have n1_ := Aside0.mk (Kd.R_elder' (by (with_reducible repeat (first | apply Kd.R_alloc | apply Kd.R_drewN | apply Kd.R_drew)); exact HO1465.out) (Kd.R_base ho0) hb); have n2_ := Aside0.mk (Kd.R_lower (Kd.R_new' (Kd.R_new' ho0 (Kd.R_lt (by (with_reducible repeat (first | apply Kd.R_alloc | apply Kd.R_drewN | apply Kd.R_drew)); exact HO_6.out))) (Kd.R_lt (by (with_reducible repeat (first | apply Kd.R_alloc | apply Kd.R_drewN | apply Kd.R_drew)); exact HO1465.out))) (below_size (by repeat (first | (with_reducible first | exact HB.out | apply below_alloc | apply pw_below_drewN | apply below_drew1 | refine below_set ?_ (IsS112.ge HI1458.out)) | exact HB.out)))); have n3_ := Aside0.mk (IsS112.below (by repeat (first | (with_reducible first | exact HI1458.out | apply IsS112.alloc | apply IsS112.drewN | apply IsS112.drew | apply IsS112.set_1) | exact HI1458.out)) hb); have n4_ := Aside0.mk (below_step (by repeat (first | (with_reducible first | exact HB.out | apply below_alloc | apply pw_below_drewN | apply below_drew1 | refine below_set ?_ (IsS112.ge HI1458.out)) | exact HB.out)) hb); clear HO_6; clear HO1465; clear HI1458; clear HB; have HO_6 := n0_; have HO1465 := n1_; have HO1469 := n2_; have HI1458 := n3_; have HB := n4_; clear n0_ n1_ n2_ n3_ n4_; (try clear hb); (try clear hb2); (try clear hk); (try clear hi); (try clear ho0); obtain ⟨Ao18, co18, eo18⟩ := Kd.R_slice HO1469.out; subst eo18) | ((with_reducible refine gate_builtin (b := .append) (xs := #[.tmp 26, .tmp 30]) rfl ?_); at_builtin; refine Kd.R_append_rows (Kd.int .u8) (w0 := w) w.heap.size rfl (.tmp 26) (.tmp 30) 22 5 (.int .u8 0) 1 rfl Try.underlying22 info5 rfl (by decide) (by omega) u6 x6_1 t1467 _ _ _ (fun k_ => some k_ ≠ (.slice Ao15 t1463.length co15 : Value).ownBlock ∧ some k_ ≠ (.slice Ao18 t1467.length co18 : Value).ownBlock) (fun _ => False) rfl rfl ?aO ?aR (fun _ _ h => h) (fun _ h => h.elim) ?aF ?aB ?aS ?aL ?_; (case aR => repeat (first | exact (Kd.R_reads' HO1469.out).2.2 | (with_reducible refine Kd.C_alloc ?_ _) | (with_reducible refine Kd.C_drewN ?_ _) | (with_reducible refine Kd.C_drew ?_))); (case aB => exact (by repeat (first | (with_reducible first | exact HB.out | apply below_alloc | apply pw_below_drewN | apply below_drew1 | refine below_set ?_ (IsS112.ge HI1458.out)) | exact HB.out))); (case aF => exact (fun k_ hk => ⟨Kd.fresh' (Kd.R_lt (by (with_reducible repeat (first | apply Kd.R_alloc | apply Kd.R_drewN | apply Kd.R_drew)); exact HO1465.out)) k_ hk, Kd.fresh' (Kd.R_lt (by (with_reducible repeat (first | apply Kd.R_alloc | apply Kd.R_drewN | apply Kd.R_drew)); exact HO1469.out)) k_ hk⟩)); (case aO => exact (by (with_reducible repeat (first | apply Kd.R_alloc | apply Kd.R_drewN | apply Kd.R_drew)); exact Kd.R_mono HO_6.out (fun _ hk => ⟨hk.1.2, hk.2⟩))); (case aS => exact (below_size (by repeat (first | (with_reducible first | exact HB.out | apply below_alloc | apply pw_below_drewN | apply below_drew1 | refine below_set ?_ (IsS112.ge HI1458.out)) | exact HB.out)))); (case aL => have := LMc11.out; omega); intro v1471 w17 ho hb hg hat; rw [← Ny1470.out] at ho; have n0_ := Aside0.mk (IsS112.grown (by repeat (first | (with_reducible first | exact HI1458.out | apply IsS112.alloc | apply IsS112.drewN | apply IsS112.drew | apply IsS112.set_1) | exact HI1458.out)) hg (IsS112.own_ne HI1458.out HO_6.out (by decide))); have n1_ := Aside0.mk (Kd.R_after (ok := (fun k_ => some k_ ≠ (.slice Ao18 t1467.length co18 : Value).ownBlock)) (by (with_reducible repeat (first | apply Kd.R_alloc | apply Kd.R_drewN | apply Kd.R_drew)); exact Kd.R_mono HO1465.out (fun _ hk => ⟨hk.2, hk.1.2⟩)) hg hat); have n2_ := Aside0.mk (Kd.R_after (ok := (fun k_ => some k_ ≠ (.slice Ao15 t1463.length co15 : Value).ownBlock)) (by (with_reducible repeat (first | apply Kd.R_alloc | apply Kd.R_drewN | apply Kd.R_drew)); exact Kd.R_mono HO1469.out (fun _ hk => ⟨hk.2, hk.1.2⟩)) hg hat); have n3_ := Aside0.mk (hb); have n4_ := Aside0.mk (ho); clear HI1458; clear HO1465; clear HO1469; clear HB; clear HO_6; have HI1458 := n0_; have HO1465 := n1_; have HO1469 := n2_; have HB := n3_; have HO1472 := n4_; clear n0_ n1_ n2_ n3_ n4_; clear ho hb hg hat) | ((with_reducible refine gate_callee (f := 94) rfl ?_); refine goesL_ (some 33) rfl rfl Try.func94 (by kernel_rfl) rfl #[.pointer (some ⟨g1458, 0, none⟩)] rfl (by (try simp only [List.map_toArray, List.map_cons, List.map_nil]); first | done | rfl | (simp only [List.length_drop, List.length_take]; rfl)) ?_; (with_reducible refine (spec_l1rd_next.calls g1458 t1456 t1466 t1473 t1474 w _ ?side1 ?side2 A12.out).mono ?_); (case side1 => repeat (first | (with_reducible first | exact HI1458.out | apply IsS112.alloc | apply IsS112.drewN | apply IsS112.drew | apply IsS112.set_1) | exact HI1458.out)); (case side2 => repeat (first | (with_reducible first | exact HB.out | apply below_alloc | apply pw_below_drewN | apply below_drew1 | refine below_set ?_ (IsS112.ge HI1458.out)) | exact HB.out)); rintro e w19 ⟨rfl, hi, hb, hk⟩; refine ⟨_, rfl, ?_⟩; have n0_ := Aside0.mk (Kd.R_mono (Kd.R_keep (IsS112.apart (show IsS112 w _ g1458 t1456 t1466 from by repeat (first | (with_reducible first | exact HI1458.out | apply IsS112.alloc | apply IsS112.drewN | apply IsS112.drew | apply IsS112.set_1) | exact HI1458.out)) (by (with_reducible repeat (first | apply Kd.R_alloc | apply Kd.R_drewN | apply Kd.R_drew)); exact HO1465.out) (by decide)) hk (fun _ h => h.2)) (fun _ h => h.1)); have n1_ := Aside0.mk (Kd.R_mono (Kd.R_keep (IsS112.apart (show IsS112 w _ g1458 t1456 t1466 from by repeat (first | (with_reducible first | exact HI1458.out | apply IsS112.alloc | apply IsS112.drewN | apply IsS112.drew | apply IsS112.set_1) | exact HI1458.out)) (by (with_reducible repeat (first | apply Kd.R_alloc | apply Kd.R_drewN | apply Kd.R_drew)); exact HO1469.out) (by decide)) hk (fun _ h => h.2)) (fun _ h => h.1)); have n2_ := Aside0.mk (Kd.R_mono (Kd.R_keep (IsS112.apart (show IsS112 w _ g1458 t1456 t1466 from by repeat (first | (with_reducible first | exact HI1458.out | apply IsS112.alloc | apply IsS112.drewN | apply IsS112.drew | apply IsS112.set_1) | exact HI1458.out)) (by (with_reducible repeat (first | apply Kd.R_alloc | apply Kd.R_drewN | apply Kd.R_drew)); exact HO1472.out) (by decide)) hk (fun _ h => h.2)) (fun _ h => h.1)); have n3_ := Aside0.mk (hb); have n4_ := Aside0.mk (hi); clear HO1465; clear HO1469; clear HO1472; clear HB; clear HI1458; have HO1465 := n0_; have HO1469 := n1_; have HO1472 := n2_; have HB := n3_; have HI1458 := n4_; clear n0_ n1_ n2_ n3_ n4_; (try clear hb); (try clear hb2); (try clear hk); (try clear hi)))
          (try simp only [Act.put, List.setIfInBounds_toArray, List.set_cons_zero, List.set_cons_succ])
          go_cut [5] (fun v5 wc => ∃ (kq : Nat) (x5_12 : Int), v5 = .int .u64 x5_12 ∧ Aside0 (spec_DrawReadLog.j1 kq (Int.tmod t1459 7) x5_12 y1470 x7_1 t1473 t1456 t1474 = some r) ∧ Aside0 (kq ≤ k1) ∧ Aside0 (Kd.R (Kd.int .u8) 5 wc w.heap.size (fun _ => True) v1471 y1470) ∧ Aside0 (IsS112 w wc g1458 t1456 t1474) ∧ Aside0 (Below w.heap.size w wc))
          case first =>
            have H := HC13.out
            clear HC13
            by_cases c20 : t1473 = 7
            · rw [if_pos c20] at H
              have c20b0 : (t1473 == 7) = true := beq_iff_eq.mpr c20
              have c20b1 : (t1473 != 7) = false := bne_eq_false_iff_eq.mpr c20
              clear c20
              (first | rw [c20b0] | (simp only [i64_w, i32_w]; rw [c20b0]) | skip)
              have H' := Aside0.mk H
              clear H
              go_wp2
              go_meet
              case rel => exact ⟨_, (IntKind.u64.wrap ((IntKind.u64.wrap (x5_1 + 1)) + 1)), (by first | rfl | (simp; done) | (simp [*]; done)), H', ⟨by have := HK1.out; first | omega | exact Nat.le_refl _⟩, ⟨by (with_reducible repeat (first | apply Kd.R_alloc | apply Kd.R_drewN | apply Kd.R_drew)); exact Kd.R_mono HO1472.out (fun _ hk => trivial)⟩, ⟨by repeat (first | (with_reducible first | exact HI1458.out | apply IsS112.alloc | apply IsS112.drewN | apply IsS112.drew | apply IsS112.set_1) | exact HI1458.out)⟩, ⟨by repeat (first | (with_reducible first | exact HB.out | apply below_alloc | apply pw_below_drewN | apply below_drew1 | refine below_set ?_ (IsS112.ge HI1458.out)) | exact HB.out)⟩⟩
            · rw [if_neg c20] at H
              have c20b0 : (t1473 == 7) = false := beq_eq_false_iff_ne.mpr c20
              have c20b1 : (t1473 != 7) = true := bne_iff_ne.mpr c20
              (first | rw [c20b0] | (simp only [i64_w, i32_w]; rw [c20b0]) | skip)
              have H' := Aside0.mk H
              clear H
              go_wp2
              go_meet
              case rel => exact ⟨_, (IntKind.u64.wrap (x5_1 + 1)), (by first | rfl | (simp; done) | (simp [*]; done)), H', ⟨by have := HK1.out; first | omega | exact Nat.le_refl _⟩, ⟨by (with_reducible repeat (first | apply Kd.R_alloc | apply Kd.R_drewN | apply Kd.R_drew)); exact Kd.R_mono HO1472.out (fun _ hk => trivial)⟩, ⟨by repeat (first | (with_reducible first | exact HI1458.out | apply IsS112.alloc | apply IsS112.drewN | apply IsS112.drew | apply IsS112.set_1) | exact HI1458.out)⟩, ⟨by repeat (first | (with_reducible first | exact HB.out | apply below_alloc | apply pw_below_drewN | apply below_drew1 | refine below_set ?_ (IsS112.ge HI1458.out)) | exact HB.out)⟩⟩
          case rest =>
            clear HC13
            try clear c1
            try clear c2
            try clear p2
            try clear c5
            try clear c8
            try clear c8b0
            try clear c9
            try clear c11
            try clear c20
            try clear c20b0
            try clear c20b1
            try clear p2
            obtain ⟨kq, x5_12, rfl, HA, HJ12, HO_6, HI1458, HB⟩ := hcut
            cases kq with
            | zero => exact absurd HA.out (by simp [spec_DrawReadLog.j1])
            | succ kj12 =>
              have H := HA.out
              clear HA
              simp only [spec_DrawReadLog.j1] at H
              by_cases c21 : t1473 = 8
              · rw [if_pos c21] at H
                have c21b0 : (t1473 == 8) = true := beq_iff_eq.mpr c21
                have c21b1 : (t1473 != 8) = false := bne_eq_false_iff_eq.mpr c21
                clear c21
                replace H := Option.bind_eq_some_iff.mp H
                obtain ⟨t1475, A220, H⟩ := H
                replace H : ((spec_l1fill.f kj12 1 1009).bind fun t1478 => (if t1475.length + t1478.length < 140737488355328 then ((spec_l2summed.f kj12 (t1475 ++ t1478)).bind fun t1484 => (if y1470.length + t1484.length < 140737488355328 then (spec_DrawReadLog.l0 kj12 (Int.tmod t1459 7) x5_12 (y1470 ++ t1484) (wrap64 (x7_1 + 1)) t1456 t1474) else (none))) else (none))) = some r := H
                have A22 := Aside0.mk A220
                clear A220
                replace H := Option.bind_eq_some_iff.mp H
                obtain ⟨t1478, A230, H⟩ := H
                replace H : (if t1475.length + t1478.length < 140737488355328 then ((spec_l2summed.f kj12 (t1475 ++ t1478)).bind fun t1484 => (if y1470.length + t1484.length < 140737488355328 then (spec_DrawReadLog.l0 kj12 (Int.tmod t1459 7) x5_12 (y1470 ++ t1484) (wrap64 (x7_1 + 1)) t1456 t1474) else (none))) else (none)) = some r := H
                have A23 := Aside0.mk A230
                clear A230
                by_cases c24 : t1475.length + t1478.length < 140737488355328
                · rw [if_pos c24] at H
                  have LMc24 := Aside0.mk c24
                  clear c24
                  obtain ⟨y1481, hy1481⟩ : ∃ y_ : List Int, y_ = (t1475 ++ t1478) := ⟨_, rfl⟩
                  replace H : ((spec_l2summed.f kj12 y1481).bind fun t1484 => (if y1470.length + t1484.length < 140737488355328 then (spec_DrawReadLog.l0 kj12 (Int.tmod t1459 7) x5_12 (y1470 ++ t1484) (wrap64 (x7_1 + 1)) t1456 t1474) else (none))) = some r := by first | (rw [hy1481]; with_reducible exact H) | (have H2_ := (Option.bind_some _ _).symm.trans H; rw [hy1481]; with_reducible exact H2_) | (have H2_ := (Option.bind_some _ _).symm.trans H; with_reducible exact H2_) | with_reducible exact H | (rw [hy1481]; exact H) | exact H
                  have Ny1481 := Aside0.mk hy1481
                  clear hy1481
                  replace H := Option.bind_eq_some_iff.mp H
                  obtain ⟨t1484, A250, H⟩ := H
                  replace H : (if y1470.length + t1484.length < 140737488355328 then (spec_DrawReadLog.l0 kj12 (Int.tmod t1459 7) x5_12 (y1470 ++ t1484) (wrap64 (x7_1 + 1)) t1456 t1474) else (none)) = some r := H
                  have A25 := Aside0.mk A250
                  clear A250
                  by_cases c26 : y1470.length + t1484.length < 140737488355328
                  · rw [if_pos c26] at H
                    have LMc26 := Aside0.mk c26
                    clear c26
                    obtain ⟨y1487, hy1487⟩ : ∃ y_ : List Int, y_ = (y1470 ++ t1484) := ⟨_, rfl⟩
                    replace H : (spec_DrawReadLog.l0 kj12 (Int.tmod t1459 7) x5_12 y1487 (wrap64 (x7_1 + 1)) t1456 t1474) = some r := by first | (rw [hy1487]; with_reducible exact H) | (have H2_ := (Option.bind_some _ _).symm.trans H; rw [hy1487]; with_reducible exact H2_) | (have H2_ := (Option.bind_some _ _).symm.trans H; with_reducible exact H2_) | with_reducible exact H | (rw [hy1487]; exact H) | exact H
                    have Ny1487 := Aside0.mk hy1487
                    clear hy1487
                    have H' := Aside0.mk H
                    clear H
                    go_wp2_with (first | ((with_reducible refine gate_callee (f := 62) rfl ?_); refine goesL_ (some 43) rfl rfl Try.func62 (by kernel_rfl) rfl #[.int .u64 1001, .int .i64 2] rfl (by (try simp only [List.map_toArray, List.map_cons, List.map_nil]); first | done | rfl | (simp only [List.length_drop, List.length_take]; rfl)) ?_; (with_reducible refine (spec_l2little.calls kj12 1001 2 t1475 _ A22.out).mono ?_); rintro e w27 ⟨v1476, rfl, ho0, hb⟩; refine ⟨_, rfl, ?_⟩; have n0_ := Aside0.mk (Kd.R_elder' (by (with_reducible repeat (first | apply Kd.R_alloc | apply Kd.R_drewN | apply Kd.R_drew)); exact HO_6.out) (Kd.R_base ho0) hb); have n1_ := Aside0.mk (Kd.R_lower (Kd.R_new' ho0 (Kd.R_lt (by (with_reducible repeat (first | apply Kd.R_alloc | apply Kd.R_drewN | apply Kd.R_drew)); exact HO_6.out))) (below_size (by repeat (first | (with_reducible first | exact HB.out | apply below_alloc | apply pw_below_drewN | apply below_drew1 | refine below_set ?_ (IsS112.ge HI1458.out)) | exact HB.out)))); have n2_ := Aside0.mk (IsS112.below (by repeat (first | (with_reducible first | exact HI1458.out | apply IsS112.alloc | apply IsS112.drewN | apply IsS112.drew | apply IsS112.set_1) | exact HI1458.out)) hb); have n3_ := Aside0.mk (below_step (by repeat (first | (with_reducible first | exact HB.out | apply below_alloc | apply pw_below_drewN | apply below_drew1 | refine below_set ?_ (IsS112.ge HI1458.out)) | exact HB.out)) hb); clear HO_6; clear HI1458; clear HB; have HO_6 := n0_; have HO1477 := n1_; have HI1458 := n2_; have HB := n3_; clear n0_ n1_ n2_ n3_; (try clear hb); (try clear hb2); (try clear hk); (try clear hi); (try clear ho0)) | ((with_reducible refine gate_callee (f := 97) rfl ?_); refine goesL_ (some 44) rfl rfl Try.func97 (by kernel_rfl) rfl #[.int .u8 1, .int .i64 1009] rfl (by (try simp only [List.map_toArray, List.map_cons, List.map_nil]); first | done | rfl | (simp only [List.length_drop, List.length_take]; rfl)) ?_; (with_reducible refine (spec_l1fill.calls kj12 1 1009 t1478 _ A23.out).mono ?_); rintro e w28 ⟨v1479, rfl, ho0, hb⟩; refine ⟨_, rfl, ?_⟩; have n0_ := Aside0.mk (Kd.R_elder' (by (with_reducible repeat (first | apply Kd.R_alloc | apply Kd.R_drewN | apply Kd.R_drew)); exact HO_6.out) (Kd.R_base ho0) hb); have n1_ := Aside0.mk (Kd.R_elder' (by (with_reducible repeat (first | apply Kd.R_alloc | apply Kd.R_drewN | apply Kd.R_drew)); exact HO1477.out) (Kd.R_base ho0) hb); have n2_ := Aside0.mk (Kd.R_lower (Kd.R_new' (Kd.R_new' ho0 (Kd.R_lt (by (with_reducible repeat (first | apply Kd.R_alloc | apply Kd.R_drewN | apply Kd.R_drew)); exact HO_6.out))) (Kd.R_lt (by (with_reducible repeat (first | apply Kd.R_alloc | apply Kd.R_drewN | apply Kd.R_drew)); exact HO1477.out))) (below_size (by repeat (first | (with_reducible first | exact HB.out | apply below_alloc | apply pw_below_drewN | apply below_drew1 | refine below_set ?_ (IsS112.ge HI1458.out)) | exact HB.out)))); have n3_ := Aside0.mk (IsS112.below (by repeat (first | (with_reducible first | exact HI1458.out | apply IsS112.alloc | apply IsS112.drewN | apply IsS112.drew | apply IsS112.set_1) | exact HI1458.out)) hb); have n4_ := Aside0.mk (below_step (by repeat (first | (with_reducible first | exact HB.out | apply below_alloc | apply pw_below_drewN | apply below_drew1 | refine below_set ?_ (IsS112.ge HI1458.out)) | exact HB.out)) hb); clear HO_6; clear HO1477; clear HI1458; clear HB; have HO_6 := n0_; have HO1477 := n1_; have HO1480 := n2_; have HI1458 := n3_; have HB := n4_; clear n0_ n1_ n2_ n3_ n4_; (try clear hb); (try clear hb2); (try clear hk); (try clear hi); (try clear ho0); obtain ⟨Ao30, co30, eo30⟩ := Kd.R_slice HO1480.out; subst eo30) | ((with_reducible refine gate_builtin (b := .append) (xs := #[.tmp 43, .tmp 44]) rfl ?_); at_builtin; refine Kd.R_append_rows (Kd.int .u8) (w0 := w) w.heap.size rfl (.tmp 43) (.tmp 44) 22 5 (.int .u8 0) 1 rfl Try.underlying22 info5 rfl (by decide) (by omega) v1476 t1475 t1478 _ _ _ (fun k_ => some k_ ≠ (v1471 : Value).ownBlock ∧ some k_ ≠ (.slice Ao30 t1478.length co30 : Value).ownBlock) (fun _ => False) rfl rfl ?aO ?aR (fun _ _ h => h) (fun _ h => h.elim) ?aF ?aB ?aS ?aL ?_; (case aR => repeat (first | exact (Kd.R_reads' HO1480.out).2.2 | (with_reducible refine Kd.C_alloc ?_ _) | (with_reducible refine Kd.C_drewN ?_ _) | (with_reducible refine Kd.C_drew ?_))); (case aB => exact (by repeat (first | (with_reducible first | exact HB.out | apply below_alloc | apply pw_below_drewN | apply below_drew1 | refine below_set ?_ (IsS112.ge HI1458.out)) | exact HB.out))); (case aF => exact (fun k_ hk => ⟨Kd.fresh' (Kd.R_lt (by (with_reducible repeat (first | apply Kd.R_alloc | apply Kd.R_drewN | apply Kd.R_drew)); exact HO_6.out)) k_ hk, Kd.fresh' (Kd.R_lt (by (with_reducible repeat (first | apply Kd.R_alloc | apply Kd.R_drewN | apply Kd.R_drew)); exact HO1480.out)) k_ hk⟩)); (case aO => exact (by (with_reducible repeat (first | apply Kd.R_alloc | apply Kd.R_drewN | apply Kd.R_drew)); exact Kd.R_mono HO1477.out (fun _ hk => ⟨hk.1.2, hk.2⟩))); (case aS => exact (below_size (by repeat (first | (with_reducible first | exact HB.out | apply below_alloc | apply pw_below_drewN | apply below_drew1 | refine below_set ?_ (IsS112.ge HI1458.out)) | exact HB.out)))); (case aL => have := LMc24.out; omega); intro v1482 w29 ho hb hg hat; rw [← Ny1481.out] at ho; have n0_ := Aside0.mk (Kd.R_after (ok := (fun k_ => some k_ ≠ (.slice Ao30 t1478.length co30 : Value).ownBlock)) (by (with_reducible repeat (first | apply Kd.R_alloc | apply Kd.R_drewN | apply Kd.R_drew)); exact Kd.R_mono HO_6.out (fun _ hk => ⟨hk.2, hk.1.2⟩)) hg hat); have n1_ := Aside0.mk (IsS112.grown (by repeat (first | (with_reducible first | exact HI1458.out | apply IsS112.alloc | apply IsS112.drewN | apply IsS112.drew | apply IsS112.set_1) | exact HI1458.out)) hg (IsS112.own_ne HI1458.out HO1477.out (by decide))); have n2_ := Aside0.mk (Kd.R_after (ok := (fun k_ => some k_ ≠ (v1471 : Value).ownBlock)) (by (with_reducible repeat (first | apply Kd.R_alloc | apply Kd.R_drewN | apply Kd.R_drew)); exact Kd.R_mono HO1480.out (fun _ hk => ⟨hk.1.2, hk.2⟩)) hg hat); have n3_ := Aside0.mk (hb); have n4_ := Aside0.mk (ho); clear HO_6; clear HI1458; clear HO1480; clear HB; clear HO1477; have HO_6 := n0_; have HI1458 := n1_; have HO1480 := n2_; have HB := n3_; have HO1483 := n4_; clear n0_ n1_ n2_ n3_ n4_; clear ho hb hg hat; obtain ⟨Ao31, co31, eo31⟩ := Kd.R_slice HO1483.out; subst eo31) | ((with_reducible refine gate_callee (f := 63) rfl ?_); refine goesL_ (some 46) rfl rfl Try.func63 (by kernel_rfl) rfl #[.slice Ao31 y1481.length co31] rfl (by (try simp only [List.map_toArray, List.map_cons, List.map_nil]); first | done | rfl | (simp only [List.length_drop, List.length_take]; rfl)) ?_; (with_reducible refine (spec_l2summed.calls kj12 _ _ y1481 t1484 _ ?side1 ?side2 A25.out).mono ?_); (case side1 => repeat (first | exact (Kd.R_reads' HO1483.out).2.2 | (with_reducible refine Kd.C_alloc ?_ _) | (with_reducible refine Kd.C_drewN ?_ _) | (with_reducible refine Kd.C_drew ?_))); (case side2 => exact (Kd.R_reads' HO1483.out).2.1); rintro e w32 ⟨v1485, rfl, ho0, hb⟩; refine ⟨_, rfl, ?_⟩; have n0_ := Aside0.mk (Kd.R_elder' (by (with_reducible repeat (first | apply Kd.R_alloc | apply Kd.R_drewN | apply Kd.R_drew)); exact HO_6.out) (Kd.R_base ho0) hb); have n1_ := Aside0.mk (Kd.R_elder' (by (with_reducible repeat (first | apply Kd.R_alloc | apply Kd.R_drewN | apply Kd.R_drew)); exact HO1480.out) (Kd.R_base ho0) hb); have n2_ := Aside0.mk (Kd.R_elder' (by (with_reducible repeat (first | apply Kd.R_alloc | apply Kd.R_drewN | apply Kd.R_drew)); exact HO1483.out) (Kd.R_base ho0) hb); have n3_ := Aside0.mk (Kd.R_lower (Kd.R_new' (Kd.R_new' (Kd.R_new' ho0 (Kd.R_lt (by (with_reducible repeat (first | apply Kd.R_alloc | apply Kd.R_drewN | apply Kd.R_drew)); exact HO_6.out))) (Kd.R_lt (by (with_reducible repeat (first | apply Kd.R_alloc | apply Kd.R_drewN | apply Kd.R_drew)); exact HO1480.out))) (Kd.R_lt (by (with_reducible repeat (first | apply Kd.R_alloc | apply Kd.R_drewN | apply Kd.R_drew)); exact HO1483.out))) (below_size (by repeat (first | (with_reducible first | exact HB.out | apply below_alloc | apply pw_below_drewN | apply below_drew1 | refine below_set ?_ (IsS112.ge HI1458.out)) | exact HB.out)))); have n4_ := Aside0.mk (IsS112.below (by repeat (first | (with_reducible first | exact HI1458.out | apply IsS112.alloc | apply IsS112.drewN | apply IsS112.drew | apply IsS112.set_1) | exact HI1458.out)) hb); have n5_ := Aside0.mk (below_step (by repeat (first | (with_reducible first | exact HB.out | apply below_alloc | apply pw_below_drewN | apply below_drew1 | refine below_set ?_ (IsS112.ge HI1458.out)) | exact HB.out)) hb); clear HO_6; clear HO1480; clear HO1483; clear HI1458; clear HB; have HO_6 := n0_; have HO1480 := n1_; have HO1483 := n2_; have HO1486 := n3_; have HI1458 := n4_; have HB := n5_; clear n0_ n1_ n2_ n3_ n4_ n5_; (try clear hb); (try clear hb2); (try clear hk); (try clear hi); (try clear ho0); obtain ⟨Ao34, co34, eo34⟩ := Kd.R_slice HO1486.out; subst eo34) | ((with_reducible refine gate_builtin (b := .append) (xs := #[.tmp 42, .tmp 46]) rfl ?_); at_builtin; refine Kd.R_append_rows (Kd.int .u8) (w0 := w) w.heap.size rfl (.tmp 42) (.tmp 46) 22 5 (.int .u8 0) 1 rfl Try.underlying22 info5 rfl (by decide) (by omega) v1471 y1470 t1484 _ _ _ (fun k_ => some k_ ≠ (.slice Ao30 t1478.length co30 : Value).ownBlock ∧ some k_ ≠ (.slice Ao31 y1481.length co31 : Value).ownBlock ∧ some k_ ≠ (.slice Ao34 t1484.length co34 : Value).ownBlock) (fun _ => False) rfl rfl ?aO ?aR (fun _ _ h => h) (fun _ h => h.elim) ?aF ?aB ?aS ?aL ?_; (case aR => repeat (first | exact (Kd.R_reads' HO1486.out).2.2 | (with_reducible refine Kd.C_alloc ?_ _) | (with_reducible refine Kd.C_drewN ?_ _) | (with_reducible refine Kd.C_drew ?_))); (case aB => exact (by repeat (first | (with_reducible first | exact HB.out | apply below_alloc | apply pw_below_drewN | apply below_drew1 | refine below_set ?_ (IsS112.ge HI1458.out)) | exact HB.out))); (case aF => exact (fun k_ hk => ⟨Kd.fresh' (Kd.R_lt (by (with_reducible repeat (first | apply Kd.R_alloc | apply Kd.R_drewN | apply Kd.R_drew)); exact HO1480.out)) k_ hk, Kd.fresh' (Kd.R_lt (by (with_reducible repeat (first | apply Kd.R_alloc | apply Kd.R_drewN | apply Kd.R_drew)); exact HO1483.out)) k_ hk, Kd.fresh' (Kd.R_lt (by (with_reducible repeat (first | apply Kd.R_alloc | apply Kd.R_drewN | apply Kd.R_drew)); exact HO1486.out)) k_ hk⟩)); (case aO => exact (by (with_reducible repeat (first | apply Kd.R_alloc | apply Kd.R_drewN | apply Kd.R_drew)); exact Kd.R_mono HO_6.out (fun _ hk => ⟨hk.1.1, ⟨hk.1.2, hk.2⟩⟩))); (case aS => exact (below_size (by repeat (first | (with_reducible first | exact HB.out | apply below_alloc | apply pw_below_drewN | apply below_drew1 | refine below_set ?_ (IsS112.ge HI1458.out)) | exact HB.out)))); (case aL => have := LMc26.out; omega); intro v1488 w33 ho hb hg hat; rw [← Ny1487.out] at ho; have n0_ := Aside0.mk (IsS112.grown (by repeat (first | (with_reducible first | exact HI1458.out | apply IsS112.alloc | apply IsS112.drewN | apply IsS112.drew | apply IsS112.set_1) | exact HI1458.out)) hg (IsS112.own_ne HI1458.out HO_6.out (by decide))); have n1_ := Aside0.mk (Kd.R_after (ok := (fun k_ => some k_ ≠ (.slice Ao31 y1481.length co31 : Value).ownBlock ∧ some k_ ≠ (.slice Ao34 t1484.length co34 : Value).ownBlock)) (by (with_reducible repeat (first | apply Kd.R_alloc | apply Kd.R_drewN | apply Kd.R_drew)); exact Kd.R_mono HO1480.out (fun _ hk => ⟨⟨hk.1.2, hk.2⟩, hk.1.1⟩)) hg hat); have n2_ := Aside0.mk (Kd.R_after (ok := (fun k_ => some k_ ≠ (.slice Ao30 t1478.length co30 : Value).ownBlock ∧ some k_ ≠ (.slice Ao34 t1484.length co34 : Value).ownBlock)) (by (with_reducible repeat (first | apply Kd.R_alloc | apply Kd.R_drewN | apply Kd.R_drew)); exact Kd.R_mono HO1483.out (fun _ hk => ⟨⟨hk.1.2, hk.2⟩, hk.1.1⟩)) hg hat); have n3_ := Aside0.mk (Kd.R_after (ok := (fun k_ => some k_ ≠ (.slice Ao30 t1478.length co30 : Value).ownBlock ∧ some k_ ≠ (.slice Ao31 y1481.length co31 : Value).ownBlock)) (by (with_reducible repeat (first | apply Kd.R_alloc | apply Kd.R_drewN | apply Kd.R_drew)); exact Kd.R_mono HO1486.out (fun _ hk => ⟨⟨hk.1.2, hk.2⟩, hk.1.1.2⟩)) hg hat); have n4_ := Aside0.mk (hb); have n5_ := Aside0.mk (ho); clear HI1458; clear HO1480; clear HO1483; clear HO1486; clear HB; clear HO_6; have HI1458 := n0_; have HO1480 := n1_; have HO1483 := n2_; have HO1486 := n3_; have HB := n4_; have HO1489 := n5_; clear n0_ n1_ n2_ n3_ n4_ n5_; clear ho hb hg hat))
                    go_roundg kj12
                    case measure => have := HK1.out; have := HJ12.out; omega
                    case rel => exact ⟨(x5_12), (y1487), (wrap64 (x7_1 + 1)), (t1474), (by first | rfl | (simp; done) | (simp [*]; done)), (by first | rfl | (simp; done) | (simp [*]; done)), H', ⟨by have := HK1.out; have := HJ12.out; omega⟩, ⟨by (with_reducible repeat (first | apply Kd.R_alloc | apply Kd.R_drewN | apply Kd.R_drew)); exact Kd.R_mono HO1489.out (fun _ hk => trivial)⟩, ⟨by repeat (first | (with_reducible first | exact HI1458.out | apply IsS112.alloc | apply IsS112.drewN | apply IsS112.drew | apply IsS112.set_1) | exact HI1458.out)⟩, ⟨by repeat (first | (with_reducible first | exact HB.out | apply below_alloc | apply pw_below_drewN | apply below_drew1 | refine below_set ?_ (IsS112.ge HI1458.out)) | exact HB.out)⟩⟩
                  · rw [if_neg c26] at H
                    exact absurd H (by simp)
                · rw [if_neg c24] at H
                  exact absurd H (by simp)
              · rw [if_neg c21] at H
                have c21b0 : (t1473 == 8) = false := beq_eq_false_iff_ne.mpr c21
                have c21b1 : (t1473 != 8) = true := bne_iff_ne.mpr c21
                have H' := Aside0.mk H
                clear H
                go_wp2
                go_roundg kj12
                case measure => have := HK1.out; have := HJ12.out; omega
                case rel => exact ⟨(x5_12), (y1470), (wrap64 (x7_1 + 1)), (t1474), (by first | rfl | (simp; done) | (simp [*]; done)), (by first | rfl | (simp; done) | (simp [*]; done)), H', ⟨by have := HK1.out; have := HJ12.out; omega⟩, ⟨by (with_reducible repeat (first | apply Kd.R_alloc | apply Kd.R_drewN | apply Kd.R_drew)); exact HO_6.out⟩, ⟨by repeat (first | (with_reducible first | exact HI1458.out | apply IsS112.alloc | apply IsS112.drewN | apply IsS112.drew | apply IsS112.set_1) | exact HI1458.out)⟩, ⟨by repeat (first | (with_reducible first | exact HB.out | apply below_alloc | apply pw_below_drewN | apply below_drew1 | refine below_set ?_ (IsS112.ge HI1458.out)) | exact HB.out)⟩⟩
        · rw [if_neg c11] at H
          exact absurd H (by simp)
      · rw [if_neg c8] at H
        have c8b0 : decide (x7_1 < (Int.tmod t1459 7)) = false := decide_eq_false c8
        clear c8
        replace H := Option.bind_eq_some_iff.mp H
        obtain ⟨⟨t1490, t1491⟩, A350, H⟩ := H
        replace H : ((spec_l1rd_next.f t1456 t1491).bind fun bt1492 => ((spec_l1rd_next.f t1456 bt1492.2).bind fun bt1494 => (if (x6_1.length : Int) > 0 then (spec_DrawReadLog.j2 k1 x6_1 t1490 (wrap64 ((wrap64 ((wrap64 (bt1492.1 * 256)) + 1)) + bt1494.1)) ((Int.tmod t1490 4) == 0)) else (spec_DrawReadLog.j2 k1 x6_1 t1490 (wrap64 ((wrap64 ((wrap64 (bt1492.1 * 256)) + 1)) + bt1494.1)) false)))) = some r := H
        have A35 := Aside0.mk A350
        clear A350
        replace H := Option.bind_eq_some_iff.mp H
        obtain ⟨⟨t1492, t1493⟩, A360, H⟩ := H
        replace H : ((spec_l1rd_next.f t1456 t1493).bind fun bt1494 => (if (x6_1.length : Int) > 0 then (spec_DrawReadLog.j2 k1 x6_1 t1490 (wrap64 ((wrap64 ((wrap64 (t1492 * 256)) + 1)) + bt1494.1)) ((Int.tmod t1490 4) == 0)) else (spec_DrawReadLog.j2 k1 x6_1 t1490 (wrap64 ((wrap64 ((wrap64 (t1492 * 256)) + 1)) + bt1494.1)) false))) = some r := H
        have A36 := Aside0.mk A360
        clear A360
        replace H := Option.bind_eq_some_iff.mp H
        obtain ⟨⟨t1494, t1495⟩, A370, H⟩ := H
        replace H : (if (x6_1.length : Int) > 0 then (spec_DrawReadLog.j2 k1 x6_1 t1490 (wrap64 ((wrap64 ((wrap64 (t1492 * 256)) + 1)) + t1494)) ((Int.tmod t1490 4) == 0)) else (spec_DrawReadLog.j2 k1 x6_1 t1490 (wrap64 ((wrap64 ((wrap64 (t1492 * 256)) + 1)) + t1494)) false)) = some r := H
        have A37 := Aside0.mk A370
        clear A370
        have HC38 := Aside0.mk H
        clear H
        go_upto_region 19 with (first | ((with_reducible refine gate_callee (f := 94) rfl ?_); refine goesL_ (some 49) rfl rfl Try.func94 (by kernel_rfl) rfl #[.pointer (some ⟨g1458, 0, none⟩)] rfl (by (try simp only [List.map_toArray, List.map_cons, List.map_nil]); first | done | rfl | (simp only [List.length_drop, List.length_take]; rfl)) ?_; (with_reducible refine (spec_l1rd_next.calls g1458 t1456 x1459001_1 t1490 t1491 w _ ?side1 ?side2 A35.out).mono ?_); (case side1 => repeat (first | (with_reducible first | exact HI1458.out | apply IsS112.alloc | apply IsS112.drewN | apply IsS112.drew | apply IsS112.set_1) | exact HI1458.out)); (case side2 => repeat (first | (with_reducible first | exact HB.out | apply below_alloc | apply pw_below_drewN | apply below_drew1 | refine below_set ?_ (IsS112.ge HI1458.out)) | exact HB.out)); rintro e w39 ⟨rfl, hi, hb, hk⟩; refine ⟨_, rfl, ?_⟩; have n0_ := Aside0.mk (Kd.R_mono (Kd.R_keep (IsS112.apart (show IsS112 w _ g1458 t1456 x1459001_1 from by repeat (first | (with_reducible first | exact HI1458.out | apply IsS112.alloc | apply IsS112.drewN | apply IsS112.drew | apply IsS112.set_1) | exact HI1458.out)) (by (with_reducible repeat (first | apply Kd.R_alloc | apply Kd.R_drewN | apply Kd.R_drew)); exact HO_6.out) (by decide)) hk (fun _ h => h.2)) (fun _ h => h.1)); have n1_ := Aside0.mk (hb); have n2_ := Aside0.mk (hi); clear HO_6; clear HB; clear HI1458; have HO_6 := n0_; have HB := n1_; have HI1458 := n2_; clear n0_ n1_ n2_; (try clear hb); (try clear hb2); (try clear hk); (try clear hi)) | ((with_reducible refine gate_callee (f := 94) rfl ?_); refine goesL_ (some 51) rfl rfl Try.func94 (by kernel_rfl) rfl #[.pointer (some ⟨g1458, 0, none⟩)] rfl (by (try simp only [List.map_toArray, List.map_cons, List.map_nil]); first | done | rfl | (simp only [List.length_drop, List.length_take]; rfl)) ?_; (with_reducible refine (spec_l1rd_next.calls g1458 t1456 t1491 t1492 t1493 w _ ?side1 ?side2 A36.out).mono ?_); (case side1 => repeat (first | (with_reducible first | exact HI1458.out | apply IsS112.alloc | apply IsS112.drewN | apply IsS112.drew | apply IsS112.set_1) | exact HI1458.out)); (case side2 => repeat (first | (with_reducible first | exact HB.out | apply below_alloc | apply pw_below_drewN | apply below_drew1 | refine below_set ?_ (IsS112.ge HI1458.out)) | exact HB.out)); rintro e w40 ⟨rfl, hi, hb, hk⟩; refine ⟨_, rfl, ?_⟩; have n0_ := Aside0.mk (Kd.R_mono (Kd.R_keep (IsS112.apart (show IsS112 w _ g1458 t1456 t1491 from by repeat (first | (with_reducible first | exact HI1458.out | apply IsS112.alloc | apply IsS112.drewN | apply IsS112.drew | apply IsS112.set_1) | exact HI1458.out)) (by (with_reducible repeat (first | apply Kd.R_alloc | apply Kd.R_drewN | apply Kd.R_drew)); exact HO_6.out) (by decide)) hk (fun _ h => h.2)) (fun _ h => h.1)); have n1_ := Aside0.mk (hb); have n2_ := Aside0.mk (hi); clear HO_6; clear HB; clear HI1458; have HO_6 := n0_; have HB := n1_; have HI1458 := n2_; clear n0_ n1_ n2_; (try clear hb); (try clear hb2); (try clear hk); (try clear hi)) | ((with_reducible refine gate_callee (f := 94) rfl ?_); refine goesL_ (some 56) rfl rfl Try.func94 (by kernel_rfl) rfl #[.pointer (some ⟨g1458, 0, none⟩)] rfl (by (try simp only [List.map_toArray, List.map_cons, List.map_nil]); first | done | rfl | (simp only [List.length_drop, List.length_take]; rfl)) ?_; (with_reducible refine (spec_l1rd_next.calls g1458 t1456 t1493 t1494 t1495 w _ ?side1 ?side2 A37.out).mono ?_); (case side1 => repeat (first | (with_reducible first | exact HI1458.out | apply IsS112.alloc | apply IsS112.drewN | apply IsS112.drew | apply IsS112.set_1) | exact HI1458.out)); (case side2 => repeat (first | (with_reducible first | exact HB.out | apply below_alloc | apply pw_below_drewN | apply below_drew1 | refine below_set ?_ (IsS112.ge HI1458.out)) | exact HB.out)); rintro e w41 ⟨rfl, hi, hb, hk⟩; refine ⟨_, rfl, ?_⟩; have n0_ := Aside0.mk (Kd.R_mono (Kd.R_keep (IsS112.apart (show IsS112 w _ g1458 t1456 t1493 from by repeat (first | (with_reducible first | exact HI1458.out | apply IsS112.alloc | apply IsS112.drewN | apply IsS112.drew | apply IsS112.set_1) | exact HI1458.out)) (by (with_reducible repeat (first | apply Kd.R_alloc | apply Kd.R_drewN | apply Kd.R_drew)); exact HO_6.out) (by decide)) hk (fun _ h => h.2)) (fun _ h => h.1)); have n1_ := Aside0.mk (hb); have n2_ := Aside0.mk (hi); clear HO_6; clear HB; clear HI1458; have HO_6 := n0_; have HB := n1_; have HI1458 := n2_; clear n0_ n1_ n2_; (try clear hb); (try clear hb2); (try clear hk); (try clear hi)))
        (try simp only [Act.put, List.setIfInBounds_toArray, List.set_cons_zero, List.set_cons_succ])
        go_cut [65] (fun v65 wc => ∃ (kq : Nat) (x65_37 : Bool), v65 = .bool x65_37 ∧ Aside0 (spec_DrawReadLog.j2 kq x6_1 t1490 (wrap64 ((wrap64 ((wrap64 (t1492 * 256)) + 1)) + t1494)) x65_37 = some r) ∧ Aside0 (kq ≤ k1) ∧ Aside0 (Kd.R (Kd.int .u8) 5 wc w.heap.size (fun _ => True) u6 x6_1) ∧ Aside0 (Below w.heap.size w wc))
        case first =>
          have H := HC38.out
          clear HC38
          by_cases c42 : (x6_1.length : Int) > 0
          · rw [if_pos c42] at H
            have c42b0 : decide (0 < (x6_1.length : Int)) = true := decide_eq_true c42
            have c42b1 : decide (0 < x6_1.length) = true := decide_eq_true (by omega)
            clear c42
            (first | rw [c42b0] | (simp only [i64_w, i32_w]; rw [c42b0]) | skip)
            have H' := Aside0.mk H
            clear H
            obtain ⟨Ao43, co43, eo43⟩ := Kd.R_slice HO_6.out
            subst eo43
            go_wp2
            go_meet
            case rel => exact ⟨_, (((Int.tmod t1490 4) == 0)), (by first | rfl | (simp; done) | (simp [*]; done)), H', ⟨by have := HK1.out; first | omega | exact Nat.le_refl _⟩, ⟨by (with_reducible repeat (first | apply Kd.R_alloc | apply Kd.R_drewN | apply Kd.R_drew)); exact HO_6.out⟩, ⟨by repeat (first | (with_reducible first | exact HB.out | apply below_alloc | apply pw_below_drewN | apply below_drew1 | refine below_set ?_ (IsS112.ge HI1458.out)) | exact HB.out)⟩⟩
          · rw [if_neg c42] at H
            have c42b0 : decide (0 < (x6_1.length : Int)) = false := decide_eq_false c42
            have c42b1 : decide (0 < x6_1.length) = false := decide_eq_false (by omega)
            clear c42
            (first | rw [c42b0] | (simp only [i64_w, i32_w]; rw [c42b0]) | skip)
            have H' := Aside0.mk H
            clear H
            obtain ⟨Ao44, co44, eo44⟩ := Kd.R_slice HO_6.out
            subst eo44
            go_wp2
            go_meet
            case rel => exact ⟨_, (false), (by first | rfl | (simp; done) | (simp [*]; done)), H', ⟨by have := HK1.out; first | omega | exact Nat.le_refl _⟩, ⟨by (with_reducible repeat (first | apply Kd.R_alloc | apply Kd.R_drewN | apply Kd.R_drew)); exact HO_6.out⟩, ⟨by repeat (first | (with_reducible first | exact HB.out | apply below_alloc | apply pw_below_drewN | apply below_drew1 | refine below_set ?_ (IsS112.ge HI1458.out)) | exact HB.out)⟩⟩
        case rest =>
          clear HC38
          try clear c1
          try clear c2
          try clear p2
          try clear c4
          try clear c5
          try clear c6
          try clear p6
          try clear c8
          try clear c8b0
          try clear c9
          try clear c11
          try clear c20
          try clear c20b0
          try clear c20b1
          try clear c21
          try clear c21b0
          try clear c21b1
          try clear c24
          try clear c26
          try clear c27
          try clear c42
          try clear c42b0
          try clear c42b1
          try clear p2
          obtain ⟨kq, x65_37, rfl, HA, HJ37, HO_6, HB⟩ := hcut
          cases kq with
          | zero => exact absurd HA.out (by simp [spec_DrawReadLog.j2])
          | succ kj37 =>
            have H := HA.out
            clear HA
            simp only [spec_DrawReadLog.j2] at H
            have HC45 := Aside0.mk H
            clear H
            go_upto_if 65 with (fail)
            go_cut [6] (fun v6 wc => ∃ (kq : Nat) (x6_44 : List Int), Aside0 (spec_DrawReadLog.j3 kq x6_44 t1490 (wrap64 ((wrap64 ((wrap64 (t1492 * 256)) + 1)) + t1494)) = some r) ∧ Aside0 (kq ≤ kj37) ∧ Aside0 (Kd.R (Kd.int .u8) 5 wc w.heap.size (fun _ => True) v6 x6_44) ∧ Aside0 (Below w.heap.size w wc))
            case first =>
              have H := HC45.out
              clear HC45
              by_cases c46 : x65_37 = true
              · subst c46
                have H1 : (if (x6_1.length : Int) = 0 then (none) else (if 0 ≤ (Int.tmod (wrap64 ((wrap64 ((wrap64 (t1492 * 256)) + 1)) + t1494)) (x6_1.length : Int)) then (if (Int.tmod (wrap64 ((wrap64 ((wrap64 (t1492 * 256)) + 1)) + t1494)) (x6_1.length : Int)) ≤ (x6_1.length : Int) then (spec_DrawReadLog.j3 kj37 (x6_1.take ((Int.tmod (wrap64 ((wrap64 ((wrap64 (t1492 * 256)) + 1)) + t1494)) (x6_1.length : Int)) : Int).toNat) t1490 (wrap64 ((wrap64 ((wrap64 (t1492 * 256)) + 1)) + t1494))) else (none)) else (none))) = some r := by first | rfl | (rw [if_pos rfl] at H; exact H)
                clear H
                have H := H1
                clear H1
                by_cases c47 : (x6_1.length : Int) = 0
                · rw [if_pos c47] at H
                  exact absurd H (by simp)
                · rw [if_neg c47] at H
                  have c47b0 : ((x6_1.length : Int) == 0) = false := beq_eq_false_iff_ne.mpr c47
                  have c47b1 : ((x6_1.length : Int) != 0) = true := bne_iff_ne.mpr c47
                  have c47b2 : ¬ (x6_1 = []) := fun h_ => c47 (by rw [h_]; rfl)
                  (first | rw [c47b0] | (simp only [i64_w, i32_w]; rw [c47b0]) | skip)
                  obtain ⟨ji48, hji48⟩ : ∃ j_ : Int, (Int.tmod (wrap64 ((wrap64 ((wrap64 (t1492 * 256)) + 1)) + t1494)) (x6_1.length : Int)) = j_ := ⟨_, rfl⟩
                  replace H : (if 0 ≤ (ji48) then (if (ji48) ≤ (x6_1.length : Int) then (spec_DrawReadLog.j3 kj37 (x6_1.take ((ji48) : Int).toNat) t1490 (wrap64 ((wrap64 ((wrap64 (t1492 * 256)) + 1)) + t1494))) else (none)) else (none)) = some r := by first | (rw [hji48] at H; exact H) | (simp only [hji48] at H ⊢; exact H)
                  by_cases c49 : 0 ≤ (ji48)
                  · rw [if_pos c49] at H
                    have c49b0 := eq_true c49
                    have c49b1 : decide (0 ≤ (ji48)) = true := decide_eq_true c49
                    clear c49
                    by_cases c50 : (ji48) ≤ (x6_1.length : Int)
                    · rw [if_pos c50] at H
                      have c50b0 := eq_true c50
                      have c50b1 : decide ((ji48) ≤ (x6_1.length : Int)) = true := decide_eq_true c50
                      clear c50
                      obtain ⟨y1496, hy1496⟩ : ∃ y_ : List Int, y_ = (x6_1.take ((ji48) : Int).toNat) := ⟨_, rfl⟩
                      replace H : (spec_DrawReadLog.j3 kj37 y1496 t1490 (wrap64 ((wrap64 ((wrap64 (t1492 * 256)) + 1)) + t1494))) = some r := by first | (rw [hy1496]; with_reducible exact H) | (have H2_ := (Option.bind_some _ _).symm.trans H; rw [hy1496]; with_reducible exact H2_) | (have H2_ := (Option.bind_some _ _).symm.trans H; with_reducible exact H2_) | with_reducible exact H | (rw [hy1496]; exact H) | exact H
                      have Ny1496 := Aside0.mk hy1496
                      clear hy1496
                      have H' := Aside0.mk H
                      clear H
                      obtain ⟨Ao51, co51, eo51⟩ := Kd.R_slice HO_6.out
                      subst eo51
                      have q52 : ((ji48) : Int) ≤ ((x6_1.length : Int) : Int) := of_decide_eq_true (by first | (with_reducible assumption) | assumption)
                      obtain ⟨i052, hi052, _, hsz52, _⟩ := info_parts info5
                      have hcut52 := cut_to (P := Try.prog) 22 5 .i64 Try.underlying22 hi052 Ao51 x6_1.length co51 (ji48) (of_decide_eq_true (by first | (with_reducible assumption) | assumption)) q52 (Kd.R_reads' HO_6.out).2.1
                      have hr52 := Kd.R_take (m := ((ji48) : Int).toNat) HO_6.out (by omega)
                      have hy52 : y1496.length = ((ji48) : Int).toNat := (by rw [Ny1496.out, List.length_take]; omega)
                      rw [← Ny1496.out] at hr52
                      rw [← hy52] at hr52 hcut52
                      clear hy52 hi052 hsz52 HO_6
                      have HO1498 := Aside0.mk hr52
                      clear hr52
                      replace q52 := eq_true q52
                      go_wp2
                      go_meet
                      case rel => exact ⟨_, (y1496), H', ⟨by have := HK1.out; have := HJ37.out; first | omega | exact Nat.le_refl _⟩, ⟨by (with_reducible repeat (first | apply Kd.R_alloc | apply Kd.R_drewN | apply Kd.R_drew)); exact HO1498.out⟩, ⟨by repeat (first | (with_reducible first | exact HB.out | apply below_alloc | apply pw_below_drewN | apply below_drew1) | exact HB.out)⟩⟩
                    · rw [if_neg c50] at H
                      exact absurd H (by simp)
                  · rw [if_neg c49] at H
                    exact absurd H (by simp)
              · replace c46 := Bool.eq_false_iff.mpr c46
                subst c46
                have H1 : (spec_DrawReadLog.j3 kj37 x6_1 t1490 (wrap64 ((wrap64 ((wrap64 (t1492 * 256)) + 1)) + t1494))) = some r := by first | rfl | (rw [if_neg (show ¬ (false = true) by decide)] at H; exact H)
                clear H
                have H := H1
                clear H1
                have H' := Aside0.mk H
                clear H
                go_wp2
                go_meet
                case rel => exact ⟨_, (x6_1), H', ⟨by have := HK1.out; have := HJ37.out; first | omega | exact Nat.le_refl _⟩, ⟨by (with_reducible repeat (first | apply Kd.R_alloc | apply Kd.R_drewN | apply Kd.R_drew)); exact HO_6.out⟩, ⟨by repeat (first | (with_reducible first | exact HB.out | apply below_alloc | apply pw_below_drewN | apply below_drew1) | exact HB.out)⟩⟩
            case rest =>
              clear HC45
              try clear c1
              try clear c2
              try clear p2
              try clear c4
              try clear c5
              try clear q5
              try clear c6
              try clear p6
              try clear c8
              try clear c8b0
              try clear c9
              try clear c11
              try clear c20
              try clear c20b0
              try clear c20b1
              try clear c21
              try clear c21b0
              try clear c21b1
              try clear c24
              try clear c26
              try clear c27
              try clear c42
              try clear c42b0
              try clear c42b1
              try clear c46
              try clear c47
              try clear c47b0
              try clear c47b1
              try clear c47b2
              try clear c49
              try clear c49b0
              try clear c49b1
              try clear c50
              try clear c50b0
              try clear c50b1
              try clear q52
              try clear p2
              try clear p6
              try clear q52
              obtain ⟨kq, x6_44, HA, HJ44, HO_6, HB⟩ := hcut
              cases kq with
              | zero => exact absurd HA.out (by simp [spec_DrawReadLog.j3])
              | succ kj44 =>
                have H := HA.out
                clear HA
                simp only [spec_DrawReadLog.j3] at H
                have HC53 := Aside0.mk H
                clear H
                go_upto_region 21 with (fail)
                go_cut [79] (fun v79 wc => ∃ (kq : Nat) (x79_52 : Bool), v79 = .bool x79_52 ∧ Aside0 (spec_DrawReadLog.j4 kq x6_44 t1490 (wrap64 ((wrap64 ((wrap64 (t1492 * 256)) + 1)) + t1494)) x79_52 = some r) ∧ Aside0 (kq ≤ kj44) ∧ Aside0 (Kd.R (Kd.int .u8) 5 wc w.heap.size (fun _ => True) u6 x6_44) ∧ Aside0 (Below w.heap.size w wc))
                case first =>
                  have H := HC53.out
                  clear HC53
                  by_cases c54 : (x6_44.length : Int) > 0
                  · rw [if_pos c54] at H
                    have c54b0 : decide (0 < (x6_44.length : Int)) = true := decide_eq_true c54
                    have c54b1 : decide (0 < x6_44.length) = true := decide_eq_true (by omega)
                    clear c54
                    (first | rw [c54b0] | (simp only [i64_w, i32_w]; rw [c54b0]) | skip)
                    have H' := Aside0.mk H
                    clear H
                    obtain ⟨Ao55, co55, eo55⟩ := Kd.R_slice HO_6.out
                    subst eo55
                    go_wp2
                    go_meet
                    case rel => exact ⟨_, (((Int.tmod t1490 4) == 1)), (by first | rfl | (simp; done) | (simp [*]; done)), H', ⟨by have := HK1.out; have := HJ37.out; have := HJ44.out; first | omega | exact Nat.le_refl _⟩, ⟨by (with_reducible repeat (first | apply Kd.R_alloc | apply Kd.R_drewN | apply Kd.R_drew)); exact HO_6.out⟩, ⟨by repeat (first | (with_reducible first | exact HB.out | apply below_alloc | apply pw_below_drewN | apply below_drew1) | exact HB.out)⟩⟩
                  · rw [if_neg c54] at H
                    have c54b0 : decide (0 < (x6_44.length : Int)) = false := decide_eq_false c54
                    have c54b1 : decide (0 < x6_44.length) = false := decide_eq_false (by omega)
                    clear c54
                    (first | rw [c54b0] | (simp only [i64_w, i32_w]; rw [c54b0]) | skip)
                    have H' := Aside0.mk H
                    clear H
                    obtain ⟨Ao56, co56, eo56⟩ := Kd.R_slice HO_6.out
                    subst eo56
                    go_wp2
                    go_meet
                    case rel => exact ⟨_, (false), (by first | rfl | (simp; done) | (simp [*]; done)), H', ⟨by have := HK1.out; have := HJ37.out; have := HJ44.out; first | omega | exact Nat.le_refl _⟩, ⟨by (with_reducible repeat (first | apply Kd.R_alloc | apply Kd.R_drewN | apply Kd.R_drew)); exact HO_6.out⟩, ⟨by repeat (first | (with_reducible first | exact HB.out | apply below_alloc | apply pw_below_drewN | apply below_drew1) | exact HB.out)⟩⟩
                case rest =>
                  clear HC53
                  try clear c1
                  try clear c2
                  try clear p2
                  try clear c4
                  try clear c5
                  try clear q5
                  try clear c6
                  try clear p6
                  try clear c8
                  try clear c8b0
                  try clear c9
                  try clear c11
                  try clear c20
                  try clear c20b0
                  try clear c20b1
                  try clear c21
                  try clear c21b0
                  try clear c21b1
                  try clear c24
                  try clear c26
                  try clear c27
                  try clear c42
                  try clear c42b0
                  try clear c42b1
                  try clear c46
                  try clear c47
                  try clear c47b0
                  try clear c47b1
                  try clear c47b2
                  try clear c49
                  try clear c49b0
                  try clear c49b1
                  try clear c50
                  try clear c50b0
                  try clear c50b1
                  try clear q52
                  try clear c54
                  try clear c54b0
                  try clear c54b1
                  try clear c56
                  try clear p2
                  try clear p6
                  try clear q5
                  try clear q52
                  obtain ⟨kq, x79_52, rfl, HA, HJ52, HO_6, HB⟩ := hcut
                  cases kq with
                  | zero => exact absurd HA.out (by simp [spec_DrawReadLog.j4])
                  | succ kj52 =>
                    have H := HA.out
                    clear HA
                    simp only [spec_DrawReadLog.j4] at H
                    by_cases c57 : x79_52 = true
                    · subst c57
                      have H1 : (if (x6_44.length : Int) = 0 then (none) else (if 0 ≤ (Int.tmod (wrap64 ((wrap64 ((wrap64 (t1492 * 256)) + 1)) + t1494)) (x6_44.length : Int)) then (if (Int.tmod (wrap64 ((wrap64 ((wrap64 (t1492 * 256)) + 1)) + t1494)) (x6_44.length : Int)) < (x6_44.length : Int) then (if 0 ≤ (IntKind.u64.wrap (Int.tmod (wrap64 (Int.tdiv t1490 4)) 8)) then ((some (x6_44.set ((Int.tmod (wrap64 ((wrap64 ((wrap64 (t1492 * 256)) + 1)) + t1494)) (x6_44.length : Int)) : Int).toNat (Go.bits .xor .u8 (rd x6_44 (Int.tmod (wrap64 ((wrap64 ((wrap64 (t1492 * 256)) + 1)) + t1494)) (x6_44.length : Int))) (shl .u8 1 (IntKind.u64.wrap (Int.tmod (wrap64 (Int.tdiv t1490 4)) 8)))) : List Int)).bind fun y1500 => (if (Int.tmod t1490 8) = 2 then ((spec_l1fill.f kj52 (((wrap64 ((wrap64 ((wrap64 (t1492 * 256)) + 1)) + t1494))) % 256) (wrap64 (Int.tdiv t1490 8))).bind fun t1501 => (if y1500.length + t1501.length < 140737488355328 then (some (y1500 ++ t1501)) else (none))) else (some y1500))) else (none)) else (none)) else (none))) = some r := by first | rfl | (rw [if_pos rfl] at H; exact H)
                      clear H
                      have H := H1
                      clear H1
                      by_cases c58 : (x6_44.length : Int) = 0
                      · rw [if_pos c58] at H
                        exact absurd H (by simp)
                      · rw [if_neg c58] at H
                        have c58b0 : ((x6_44.length : Int) == 0) = false := beq_eq_false_iff_ne.mpr c58
                        have c58b1 : ((x6_44.length : Int) != 0) = true := bne_iff_ne.mpr c58
                        have c58b2 : ¬ (x6_44 = []) := fun h_ => c58 (by rw [h_]; rfl)
                        obtain ⟨ji59, hji59⟩ : ∃ j_ : Int, (Int.tmod (wrap64 ((wrap64 ((wrap64 (t1492 * 256)) + 1)) + t1494)) (x6_44.length : Int)) = j_ := ⟨_, rfl⟩
                        replace H : (if 0 ≤ (ji59) then (if (ji59) < (x6_44.length : Int) then (if 0 ≤ (IntKind.u64.wrap (Int.tmod (wrap64 (Int.tdiv t1490 4)) 8)) then ((some (x6_44.set ((ji59) : Int).toNat (Go.bits .xor .u8 (rd x6_44 (ji59)) (shl .u8 1 (IntKind.u64.wrap (Int.tmod (wrap64 (Int.tdiv t1490 4)) 8)))) : List Int)).bind fun y1500 => (if (Int.tmod t1490 8) = 2 then ((spec_l1fill.f kj52 (((wrap64 ((wrap64 ((wrap64 (t1492 * 256)) + 1)) + t1494))) % 256) (wrap64 (Int.tdiv t1490 8))).bind fun t1501 => (if y1500.length + t1501.length < 140737488355328 then (some (y1500 ++ t1501)) else (none))) else (some y1500))) else (none)) else (none)) else (none)) = some r := by first | (rw [hji59] at H; exact H) | (simp only [hji59] at H ⊢; exact H)
                        by_cases c60 : 0 ≤ (ji59)
                        · rw [if_pos c60] at H
                          have c60b0 : decide (0 ≤ (ji59)) = true := decide_eq_true c60
                          clear c60
                          by_cases c61 : (ji59) < (x6_44.length : Int)
                          · rw [if_pos c61] at H
                            have c61b0 : decide ((ji59) < (x6_44.length : Int)) = true := decide_eq_true c61
                            clear c61
                            obtain ⟨ji62, hji62⟩ : ∃ j_ : Int, (IntKind.u64.wrap (Int.tmod (wrap64 (Int.tdiv t1490 4)) 8)) = j_ := ⟨_, rfl⟩
                            replace H : (if 0 ≤ (ji62) then ((some (x6_44.set ((ji59) : Int).toNat (Go.bits .xor .u8 (rd x6_44 (ji59)) (shl .u8 1 (ji62))) : List Int)).bind fun y1500 => (if (Int.tmod t1490 8) = 2 then ((spec_l1fill.f kj52 (((wrap64 ((wrap64 ((wrap64 (t1492 * 256)) + 1)) + t1494))) % 256) (wrap64 (Int.tdiv t1490 8))).bind fun t1501 => (if y1500.length + t1501.length < 140737488355328 then (some (y1500 ++ t1501)) else (none))) else (some y1500))) else (none)) = some r := by first | (rw [hji62] at H; exact H) | (simp only [hji62] at H ⊢; exact H)
                            by_cases c63 : 0 ≤ (ji62)
                            · rw [if_pos c63] at H
                              have c63b0 := eq_true c63
                              have c63b1 : decide (0 ≤ (ji62)) = true := decide_eq_true c63
                              clear c63
                              obtain ⟨ji64, hji64⟩ : ∃ j_ : Int, (shl .u8 1 (ji62)) = j_ := ⟨_, rfl⟩
                              replace H : ((some (x6_44.set ((ji59) : Int).toNat (Go.bits .xor .u8 (rd x6_44 (ji59)) (ji64)) : List Int)).bind fun y1500 => (if (Int.tmod t1490 8) = 2 then ((spec_l1fill.f kj52 (((wrap64 ((wrap64 ((wrap64 (t1492 * 256)) + 1)) + t1494))) % 256) (wrap64 (Int.tdiv t1490 8))).bind fun t1501 => (if y1500.length + t1501.length < 140737488355328 then (some (y1500 ++ t1501)) else (none))) else (some y1500))) = some r := by first | (rw [hji64] at H; exact H) | (simp only [hji64] at H ⊢; exact H)
                              have hji64_ : (IntKind.u8.wrap (1 * 2 ^ min (ji62).toNat 8)) = ji64 := hji64
                              have hji64z : (ji62) ≤ 8 → (IntKind.u8.wrap (1 * 2 ^ (ji62).toNat)) = ji64 := shl_small hji64
                              have hji64u : (IntKind.u8.wrap (2 ^ min (ji62).toNat 8)) = ji64 := by have h_ := hji64_; rw [Int.one_mul] at h_; exact h_
                              have hji64v : (ji62) ≤ 8 → (IntKind.u8.wrap (2 ^ (ji62).toNat)) = ji64 := fun hle_ => by have h_ := hji64z hle_; rw [Int.one_mul] at h_; exact h_
                              obtain ⟨y1500, hy1500⟩ : ∃ y_ : List Int, y_ = (x6_44.set ((ji59) : Int).toNat (Go.bits .xor .u8 (rd x6_44 (ji59)) (ji64))) := ⟨_, rfl⟩
                              replace H : (if (Int.tmod t1490 8) = 2 then ((spec_l1fill.f kj52 (((wrap64 ((wrap64 ((wrap64 (t1492 * 256)) + 1)) + t1494))) % 256) (wrap64 (Int.tdiv t1490 8))).bind fun t1501 => (if y1500.length + t1501.length < 140737488355328 then (some (y1500 ++ t1501)) else (none))) else (some y1500)) = some r := by first | (rw [hy1500]; with_reducible exact H) | (have H2_ := (Option.bind_some _ _).symm.trans H; rw [hy1500]; with_reducible exact H2_) | (have H2_ := (Option.bind_some _ _).symm.trans H; with_reducible exact H2_) | with_reducible exact H | (rw [hy1500]; exact H) | exact H
                              have Ny1500 := Aside0.mk hy1500
                              clear hy1500
                              by_cases c66 : (Int.tmod t1490 8) = 2
                              · rw [if_pos c66] at H
                                have c66b0 : ((Int.tmod t1490 8) == 2) = true := beq_iff_eq.mpr c66
                                have c66b1 : ((Int.tmod t1490 8) != 2) = false := bne_eq_false_iff_eq.mpr c66
                                clear c66
                                replace H := Option.bind_eq_some_iff.mp H
                                obtain ⟨t1501, A670, H⟩ := H
                                replace H : (if y1500.length + t1501.length < 140737488355328 then (some (y1500 ++ t1501)) else (none)) = some r := H
                                have A67 := Aside0.mk A670
                                clear A670
                                by_cases c68 : y1500.length + t1501.length < 140737488355328
                                · rw [if_pos c68] at H
                                  have LMc68 := Aside0.mk c68
                                  clear c68
                                  obtain ⟨y1504, hy1504⟩ : ∃ y_ : List Int, y_ = (y1500 ++ t1501) := ⟨_, rfl⟩
                                  replace H : (some y1504) = some r := by first | (rw [hy1504]; with_reducible exact H) | (have H2_ := (Option.bind_some _ _).symm.trans H; rw [hy1504]; with_reducible exact H2_) | (have H2_ := (Option.bind_some _ _).symm.trans H; with_reducible exact H2_) | with_reducible exact H | (rw [hy1504]; exact H) | exact H
                                  have Ny1504 := Aside0.mk hy1504
                                  clear hy1504
                                  obtain rfl := Option.some.inj H
                                  obtain ⟨Ao69, co69, eo69⟩ := Kd.R_slice HO_6.out
                                  subst eo69
                                  have p1499 : 0 ≤ ((ji59) : Int) := of_decide_eq_true (by first | (with_reducible assumption) | assumption)
                                  have q1499 : (ji59) < (x6_44.length : Int) := of_decide_eq_true (by first | (with_reducible assumption) | assumption)
                                  obtain ⟨ad1499, e1499, hx1499_0⟩ := Kd.at_int (Kd.R_reads' HO_6.out).2.2 (ji59) p1499 q1499
                                  cases e1499
                                  replace p1499 := eq_true p1499
                                  replace q1499 := eq_true q1499
                                  have p65 : 0 ≤ ((ji59) : Int) := of_decide_eq_true (by first | (with_reducible assumption) | assumption)
                                  have q65 : ((ji59) : Int) < ((x6_44.length : Int) : Int) := of_decide_eq_true (by first | (with_reducible assumption) | assumption)
                                  obtain ⟨go65, co65, eo65, gb65, gl65, cl65, HG65⟩ := Kd.R_form HO_6.out (by omega)
                                  (first | cases eo65 | (injection eo65 with ea_ en_ ec_; (first | subst ea_ | (injection ea_ with ea_; subst ea_)); subst ec_; clear en_))
                                  have GB65 := Aside0.mk gb65
                                  have GG65 := Aside0.mk HG65
                                  clear gb65 gl65 HG65
                                  (first | simp only [add_plain] at hx1499_0 | skip)
                                  obtain ⟨hx65_0, hf65_0⟩ := Kd.R_celln 0 HO_6.out ((ji59) : Int) p65 q65
                                  replace p65 := eq_true p65
                                  replace q65 := eq_true q65
                                  have HP70 := Kd.R_putg HO_6.out ((ji59) : Int) (Go.bits .xor .u8 (rd x6_44 (ji59)) (ji64))
                                  go_wp2_with (first | ((with_reducible refine gate_store (t := 5) (p := 93) rfl ?_); refine store_event (t := 5) (p := 93) (v := ?vo_w71) (w1 := (wc.setCell ⟨go65, ((ji59) : Int).toNat, none⟩ (.int .u8 (Go.bits .xor .u8 (rd x6_44 (ji59)) (ji64))))) ?hg ?ho ?hn ?hr ?_; (case ho => rfl); (case hg => rfl); (case hn => rfl); (case hr => first | (go_simp; done) | (go_simp; rfl)); intro w71 hw; have hg : wc.grownBy w71 (some go65) := (by rw [hw]; exact HP70.2); have hp_ : Kd.R (Kd.int .u8) 5 w71 w.heap.size (fun _ => True) (.slice (some ⟨go65, 0, none⟩) x6_44.length co69) y1500 := (by rw [hw, Ny1500.out]; exact HP70.1); clear HP70; have n0_ := Aside0.mk (hp_); have n1_ := Aside0.mk ((by rw [hw]; exact below_set (HB.out) GB65.out : Below w.heap.size w w71)); clear HO_6; clear HB; have HO_6 := n0_; have HB := n1_; clear n0_ n1_; clear hg hw hp_) | ((with_reducible refine gate_callee (f := 97) rfl ?_); refine goesL_ (some 102) rfl rfl Try.func97 (by kernel_rfl) rfl #[.int .u8 (((wrap64 ((wrap64 ((wrap64 (t1492 * 256)) + 1)) + t1494))) % 256), .int .i64 (wrap64 (Int.tdiv t1490 8))] rfl (by (try simp only [List.map_toArray, List.map_cons, List.map_nil]); first | done | rfl | (simp only [List.length_drop, List.length_take]; rfl)) ?_; (with_reducible refine (spec_l1fill.calls kj52 (((wrap64 ((wrap64 ((wrap64 (t1492 * 256)) + 1)) + t1494))) % 256) (wrap64 (Int.tdiv t1490 8)) t1501 _ A67.out).mono ?_); rintro e w72 ⟨v1502, rfl, ho0, hb⟩; refine ⟨_, rfl, ?_⟩; have n0_ := Aside0.mk (Kd.R_elder' (by (with_reducible repeat (first | apply Kd.R_alloc | apply Kd.R_drewN | apply Kd.R_drew)); exact HO_6.out) (Kd.R_base ho0) hb); have n1_ := Aside0.mk (Kd.R_lower (Kd.R_new' ho0 (Kd.R_lt (by (with_reducible repeat (first | apply Kd.R_alloc | apply Kd.R_drewN | apply Kd.R_drew)); exact HO_6.out))) (below_size (by repeat (first | (with_reducible first | exact HB.out | apply below_alloc | apply pw_below_drewN | apply below_drew1) | exact HB.out)))); have n2_ := Aside0.mk (below_step (by repeat (first | (with_reducible first | exact HB.out | apply below_alloc | apply pw_below_drewN | apply below_drew1) | exact HB.out)) hb); clear HO_6; clear HB; have HO_6 := n0_; have HO1503 := n1_; have HB := n2_; clear n0_ n1_ n2_; (try clear hb); (try clear hb2); (try clear hk); (try clear hi); (try clear ho0); obtain ⟨Ao74, co74, eo74⟩ := Kd.R_slice HO1503.out; subst eo74) | ((with_reducible refine gate_builtin (b := .append) (xs := #[.tmp 97, .tmp 102]) rfl ?_); at_builtin; refine Kd.R_append_rows (Kd.int .u8) (w0 := w) w.heap.size rfl (.tmp 97) (.tmp 102) 22 5 (.int .u8 0) 1 rfl Try.underlying22 info5 rfl (by decide) (by omega) (.slice (some ⟨go65, 0, none⟩) x6_44.length co69) y1500 t1501 _ _ _ (fun k_ => some k_ ≠ (.slice Ao74 t1501.length co74 : Value).ownBlock) (fun _ => False) rfl rfl ?aO ?aR (fun _ _ h => h) (fun _ h => h.elim) ?aF ?aB ?aS ?aL ?_; (case aR => repeat (first | exact (Kd.R_reads' HO1503.out).2.2 | (with_reducible refine Kd.C_alloc ?_ _) | (with_reducible refine Kd.C_drewN ?_ _) | (with_reducible refine Kd.C_drew ?_))); (case aB => exact (by repeat (first | (with_reducible first | exact HB.out | apply below_alloc | apply pw_below_drewN | apply below_drew1) | exact HB.out))); (case aF => exact (fun k_ hk => Kd.fresh' (Kd.R_lt (by (with_reducible repeat (first | apply Kd.R_alloc | apply Kd.R_drewN | apply Kd.R_drew)); exact HO1503.out)) k_ hk)); (case aO => exact (by (with_reducible repeat (first | apply Kd.R_alloc | apply Kd.R_drewN | apply Kd.R_drew)); exact Kd.R_mono HO_6.out (fun _ hk => hk.2))); (case aS => exact (below_size (by repeat (first | (with_reducible first | exact HB.out | apply below_alloc | apply pw_below_drewN | apply below_drew1) | exact HB.out)))); (case aL => have := LMc68.out; omega); intro v1505 w73 ho hb hg hat; rw [← Ny1504.out] at ho; have n0_ := Aside0.mk (Kd.R_after (ok := (fun _ => True)) (by (with_reducible repeat (first | apply Kd.R_alloc | apply Kd.R_drewN | apply Kd.R_drew)); exact HO1503.out) hg hat); have n1_ := Aside0.mk (hb); have n2_ := Aside0.mk (ho); clear HO1503; clear HB; clear HO_6; have HO1503 := n0_; have HB := n1_; have HO1506 := n2_; clear n0_ n1_ n2_; clear ho hb hg hat))
                                  go_ret
                                  exact ⟨_, by first | rfl | (simp [errW_none, errW_some] <;> rfl) | (simp only [← hji59, ← hji62, ← hji64]; first | rfl | (simp [errW_none, errW_some] <;> rfl)) | (simp [*, errW_none, errW_some] <;> rfl), by (with_reducible repeat (first | apply Kd.R_alloc | apply Kd.R_drewN | apply Kd.R_drew)); exact Kd.R_mono HO1506.out (fun _ hk => trivial), by repeat (first | (with_reducible first | exact HB.out | apply below_alloc | apply pw_below_drewN | apply below_drew1) | exact HB.out)⟩
                                · rw [if_neg c68] at H
                                  exact absurd H (by simp)
                              · rw [if_neg c66] at H
                                have c66b0 : ((Int.tmod t1490 8) == 2) = false := beq_eq_false_iff_ne.mpr c66
                                have c66b1 : ((Int.tmod t1490 8) != 2) = true := bne_iff_ne.mpr c66
                                obtain rfl := Option.some.inj H
                                obtain ⟨Ao75, co75, eo75⟩ := Kd.R_slice HO_6.out
                                subst eo75
                                have p1499 : 0 ≤ ((ji59) : Int) := of_decide_eq_true (by first | (with_reducible assumption) | assumption)
                                have q1499 : (ji59) < (x6_44.length : Int) := of_decide_eq_true (by first | (with_reducible assumption) | assumption)
                                obtain ⟨ad1499, e1499, hx1499_0⟩ := Kd.at_int (Kd.R_reads' HO_6.out).2.2 (ji59) p1499 q1499
                                cases e1499
                                replace p1499 := eq_true p1499
                                replace q1499 := eq_true q1499
                                have p65 : 0 ≤ ((ji59) : Int) := of_decide_eq_true (by first | (with_reducible assumption) | assumption)
                                have q65 : ((ji59) : Int) < ((x6_44.length : Int) : Int) := of_decide_eq_true (by first | (with_reducible assumption) | assumption)
                                obtain ⟨go65, co65, eo65, gb65, gl65, cl65, HG65⟩ := Kd.R_form HO_6.out (by omega)
                                (first | cases eo65 | (injection eo65 with ea_ en_ ec_; (first | subst ea_ | (injection ea_ with ea_; subst ea_)); subst ec_; clear en_))
                                have GB65 := Aside0.mk gb65
                                have GG65 := Aside0.mk HG65
                                clear gb65 gl65 HG65
                                (first | simp only [add_plain] at hx1499_0 | skip)
                                obtain ⟨hx65_0, hf65_0⟩ := Kd.R_celln 0 HO_6.out ((ji59) : Int) p65 q65
                                replace p65 := eq_true p65
                                replace q65 := eq_true q65
                                have HP76 := Kd.R_putg HO_6.out ((ji59) : Int) (Go.bits .xor .u8 (rd x6_44 (ji59)) (ji64))
                                go_wp2_with (first | ((with_reducible refine gate_store (t := 5) (p := 93) rfl ?_); refine store_event (t := 5) (p := 93) (v := ?vo_w77) (w1 := (wc.setCell ⟨go65, ((ji59) : Int).toNat, none⟩ (.int .u8 (Go.bits .xor .u8 (rd x6_44 (ji59)) (ji64))))) ?hg ?ho ?hn ?hr ?_; (case ho => rfl); (case hg => rfl); (case hn => rfl); (case hr => first | (go_simp; done) | (go_simp; rfl)); intro w77 hw; have hg : wc.grownBy w77 (some go65) := (by rw [hw]; exact HP76.2); have hp_ : Kd.R (Kd.int .u8) 5 w77 w.heap.size (fun _ => True) (.slice (some ⟨go65, 0, none⟩) x6_44.length co75) y1500 := (by rw [hw, Ny1500.out]; exact HP76.1); clear HP76; have n0_ := Aside0.mk (hp_); have n1_ := Aside0.mk ((by rw [hw]; exact below_set (HB.out) GB65.out : Below w.heap.size w w77)); clear HO_6; clear HB; have HO_6 := n0_; have HB := n1_; clear n0_ n1_; clear hg hw hp_))
                                go_ret
                                exact ⟨_, by first | rfl | (simp [errW_none, errW_some] <;> rfl) | (simp only [← hji59, ← hji62, ← hji64]; first | rfl | (simp [errW_none, errW_some] <;> rfl)) | (simp [*, errW_none, errW_some] <;> rfl), by (with_reducible repeat (first | apply Kd.R_alloc | apply Kd.R_drewN | apply Kd.R_drew)); exact HO_6.out, by repeat (first | (with_reducible first | exact HB.out | apply below_alloc | apply pw_below_drewN | apply below_drew1) | exact HB.out)⟩
                            · rw [if_neg c63] at H
                              exact absurd H (by simp)
                          · rw [if_neg c61] at H
                            exact absurd H (by simp)
                        · rw [if_neg c60] at H
                          exact absurd H (by simp)
                    · replace c57 := Bool.eq_false_iff.mpr c57
                      subst c57
                      have H1 : (if (Int.tmod t1490 8) = 2 then ((spec_l1fill.f kj52 (((wrap64 ((wrap64 ((wrap64 (t1492 * 256)) + 1)) + t1494))) % 256) (wrap64 (Int.tdiv t1490 8))).bind fun t1507 => (if x6_44.length + t1507.length < 140737488355328 then (some (x6_44 ++ t1507)) else (none))) else (some x6_44)) = some r := by first | rfl | (rw [if_neg (show ¬ (false = true) by decide)] at H; exact H)
                      clear H
                      have H := H1
                      clear H1
                      by_cases c78 : (Int.tmod t1490 8) = 2
                      · rw [if_pos c78] at H
                        have c78b0 : ((Int.tmod t1490 8) == 2) = true := beq_iff_eq.mpr c78
                        have c78b1 : ((Int.tmod t1490 8) != 2) = false := bne_eq_false_iff_eq.mpr c78
                        clear c78
                        replace H := Option.bind_eq_some_iff.mp H
                        obtain ⟨t1507, A790, H⟩ := H
                        replace H : (if x6_44.length + t1507.length < 140737488355328 then (some (x6_44 ++ t1507)) else (none)) = some r := H
                        have A79 := Aside0.mk A790
                        clear A790
                        by_cases c80 : x6_44.length + t1507.length < 140737488355328
                        · rw [if_pos c80] at H
                          have LMc80 := Aside0.mk c80
                          clear c80
                          obtain ⟨y1510, hy1510⟩ : ∃ y_ : List Int, y_ = (x6_44 ++ t1507) := ⟨_, rfl⟩
                          replace H : (some y1510) = some r := by first | (rw [hy1510]; with_reducible exact H) | (have H2_ := (Option.bind_some _ _).symm.trans H; rw [hy1510]; with_reducible exact H2_) | (have H2_ := (Option.bind_some _ _).symm.trans H; with_reducible exact H2_) | with_reducible exact H | (rw [hy1510]; exact H) | exact H
                          have Ny1510 := Aside0.mk hy1510
                          clear hy1510
                          obtain rfl := Option.some.inj H
                          go_wp2_with (first | ((with_reducible refine gate_callee (f := 97) rfl ?_); refine goesL_ (some 102) rfl rfl Try.func97 (by kernel_rfl) rfl #[.int .u8 (((wrap64 ((wrap64 ((wrap64 (t1492 * 256)) + 1)) + t1494))) % 256), .int .i64 (wrap64 (Int.tdiv t1490 8))] rfl (by (try simp only [List.map_toArray, List.map_cons, List.map_nil]); first | done | rfl | (simp only [List.length_drop, List.length_take]; rfl)) ?_; (with_reducible refine (spec_l1fill.calls kj52 (((wrap64 ((wrap64 ((wrap64 (t1492 * 256)) + 1)) + t1494))) % 256) (wrap64 (Int.tdiv t1490 8)) t1507 _ A79.out).mono ?_); rintro e w81 ⟨v1508, rfl, ho0, hb⟩; refine ⟨_, rfl, ?_⟩; have n0_ := Aside0.mk (Kd.R_elder' (by (with_reducible repeat (first | apply Kd.R_alloc | apply Kd.R_drewN | apply Kd.R_drew)); exact HO_6.out) (Kd.R_base ho0) hb); have n1_ := Aside0.mk (Kd.R_lower (Kd.R_new' ho0 (Kd.R_lt (by (with_reducible repeat (first | apply Kd.R_alloc | apply Kd.R_drewN | apply Kd.R_drew)); exact HO_6.out))) (below_size (by repeat (first | (with_reducible first | exact HB.out | apply below_alloc | apply pw_below_drewN | apply below_drew1) | exact HB.out)))); have n2_ := Aside0.mk (below_step (by repeat (first | (with_reducible first | exact HB.out | apply below_alloc | apply pw_below_drewN | apply below_drew1) | exact HB.out)) hb); clear HO_6; clear HB; have HO_6 := n0_; have HO1509 := n1_; have HB := n2_; clear n0_ n1_ n2_; (try clear hb); (try clear hb2); (try clear hk); (try clear hi); (try clear ho0); obtain ⟨Ao83, co83, eo83⟩ := Kd.R_slice HO1509.out; subst eo83) | ((with_reducible refine gate_builtin (b := .append) (xs := #[.tmp 97, .tmp 102]) rfl ?_); at_builtin; refine Kd.R_append_rows (Kd.int .u8) (w0 := w) w.heap.size rfl (.tmp 97) (.tmp 102) 22 5 (.int .u8 0) 1 rfl Try.underlying22 info5 rfl (by decide) (by omega) u6 x6_44 t1507 _ _ _ (fun k_ => some k_ ≠ (.slice Ao83 t1507.length co83 : Value).ownBlock) (fun _ => False) rfl rfl ?aO ?aR (fun _ _ h => h) (fun _ h => h.elim) ?aF ?aB ?aS ?aL ?_; (case aR => repeat (first | exact (Kd.R_reads' HO1509.out).2.2 | (with_reducible refine Kd.C_alloc ?_ _) | (with_reducible refine Kd.C_drewN ?_ _) | (with_reducible refine Kd.C_drew ?_))); (case aB => exact (by repeat (first | (with_reducible first | exact HB.out | apply below_alloc | apply pw_below_drewN | apply below_drew1) | exact HB.out))); (case aF => exact (fun k_ hk => Kd.fresh' (Kd.R_lt (by (with_reducible repeat (first | apply Kd.R_alloc | apply Kd.R_drewN | apply Kd.R_drew)); exact HO1509.out)) k_ hk)); (case aO => exact (by (with_reducible repeat (first | apply Kd.R_alloc | apply Kd.R_drewN | apply Kd.R_drew)); exact Kd.R_mono HO_6.out (fun _ hk => hk.2))); (case aS => exact (below_size (by repeat (first | (with_reducible first | exact HB.out | apply below_alloc | apply pw_below_drewN | apply below_drew1) | exact HB.out)))); (case aL => have := LMc80.out; omega); intro v1511 w82 ho hb hg hat; rw [← Ny1510.out] at ho; have n0_ := Aside0.mk (Kd.R_after (ok := (fun _ => True)) (by (with_reducible repeat (first | apply Kd.R_alloc | apply Kd.R_drewN | apply Kd.R_drew)); exact HO1509.out) hg hat); have n1_ := Aside0.mk (hb); have n2_ := Aside0.mk (ho); clear HO1509; clear HB; clear HO_6; have HO1509 := n0_; have HB := n1_; have HO1512 := n2_; clear n0_ n1_ n2_; clear ho hb hg hat))
                          go_ret
                          exact ⟨_, by first | rfl | (simp [errW_none, errW_some] <;> rfl) | (simp [*, errW_none, errW_some] <;> rfl), by (with_reducible repeat (first | apply Kd.R_alloc | apply Kd.R_drewN | apply Kd.R_drew)); exact Kd.R_mono HO1512.out (fun _ hk => trivial), by repeat (first | (with_reducible first | exact HB.out | apply below_alloc | apply pw_below_drewN | apply below_drew1) | exact HB.out)⟩
                        · rw [if_neg c80] at H
                          exact absurd H (by simp)
                      · rw [if_neg c78] at H
                        have c78b0 : ((Int.tmod t1490 8) == 2) = false := beq_eq_false_iff_ne.mpr c78
                        have c78b1 : ((Int.tmod t1490 8) != 2) = true := bne_iff_ne.mpr c78
                        obtain rfl := Option.some.inj H
                        go_wp2
                        go_ret
                        exact ⟨_, by first | rfl | (simp [errW_none, errW_some] <;> rfl) | (simp [*, errW_none, errW_some] <;> rfl), by (with_reducible repeat (first | apply Kd.R_alloc | apply Kd.R_drewN | apply Kd.R_drew)); exact HO_6.out, by repeat (first | (with_reducible first | exact HB.out | apply below_alloc | apply pw_below_drewN | apply below_drew1) | exact HB.out)⟩
end Go.Proofs.Ytbapokpkgonjkaa.Print
