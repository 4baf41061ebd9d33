/- Texts of this session, joined by its own program. -/
import Derived.Test.YtbapokpkgonjkaaCDSnap0
import Derived.Test.YtbapokpkgonjkaaCDSnap4
import Derived.Test.YtbapokpkgonjkaaCDSnap3
import Derived.Test.YtbapokpkgonjkaaCDSnap2
import Derived.Lib.Bytes
/- The machine's side of the statements: what a Go function comes to, as a Lean function, and that it does so (written by this session's own program over the kit's printer; Lean checks it). -/
namespace Go.Proofs.Ytbapokpkgonjkaa.Print
open Go.RowKit Go.Proofs.YtbapokpkgonjkaaW.PrintWords Go.Proofs.YtbapokpkgonjkaaW.PrintLast Go.Proofs.YtbapokpkgonjkaaW.PrintMore
attribute [local go_sem] max2_int min2_int max_two min_two max_three min_three max_four min_four   -- for this text's walks alone
set_option linter.unusedVariables false
set_option linter.unusedSimpArgs false

/-! ### laws_heldDisk: function 42 -/
def laws_heldDisk.f (k : Nat) (l0_0 : List Int) (a0_1 : Int) (l0_2 : List Int) (a0_3 : Int) (l0_4 : List Int) (a0_5 : Int) (a1 : Int) : Option (Int) := (laws_heldFile.f k l0_0 a0_1 a1).bind fun t511 => (if t511 < 0 then (some (-1)) else ((laws_heldFile.f k l0_2 a0_3 t511).bind fun t512 => (if t512 < 0 then (some (-1)) else ((laws_heldFile.f k l0_4 a0_5 t512).bind fun t513 => (if t513 < 0 then (some (-1)) else (some t513))))))
theorem laws_heldDisk.mono : ∀ a0 a1 a2 a3 a4 a5 a6 k, LeO (laws_heldDisk.f k a0 a1 a2 a3 a4 a5 a6) (laws_heldDisk.f (k + 1) a0 a1 a2 a3 a4 a5 a6) := by
  intro a0 a1 a2 a3 a4 a5 a6 k
  unfold laws_heldDisk.f
  repeat' first
      | (with_reducible exact laws_heldFile.mono _ _ _ _)
      | (with_reducible exact LeO.refl _)
      | (with_reducible exact LeO.none _)
      | (with_reducible refine LeO.ite ?_ ?_)
      | (with_reducible refine LeO.bind ?_ (fun _ => ?_))
      | exact laws_heldFile.mono _ _ _ _
      | exact LeO.none _
      | refine LeO.ite ?_ ?_
      | refine LeO.bind ?_ (fun _ => ?_)
set_option maxHeartbeats 8000000 in
set_option maxRecDepth 100000 in
theorem laws_heldDisk.calls (k : Nat) (A0_0 : Option Addr) (c0_0 : Nat) (l0_0 : List Int) (a0_1 : Int) (A0_2 : Option Addr) (c0_2 : Nat) (l0_2 : List Int) (a0_3 : Int) (A0_4 : Option Addr) (c0_4 : Nat) (l0_4 : List Int) (a0_5 : Int) (a1 : Int) (r : Int) (w : World) (hr0_0 : Kd.C (Kd.int .u8) w A0_0 l0_0.length l0_0) (hc0_0 : l0_0.length ≤ c0_0) (hr0_2 : Kd.C (Kd.int .u8) w A0_2 l0_2.length l0_2) (hc0_2 : l0_2.length ≤ c0_2) (hr0_4 : Kd.C (Kd.int .u8) w A0_4 l0_4.length l0_4) (hc0_4 : l0_4.length ≤ c0_4) (h : laws_heldDisk.f k l0_0 a0_1 l0_2 a0_3 l0_4 a0_5 a1 = some r) :
    Calls Try.prog 42 #[.agg #[.slice A0_0 l0_0.length c0_0, .int .i64 a0_1, .slice A0_2 l0_2.length c0_2, .int .i64 a0_3, .slice A0_4 l0_4.length c0_4, .int .i64 a0_5], .int .i64 a1] w fun e w' => e = .returned (.int .i64 r) ∧ Below w.heap.size w w' := by
  have hu31 := Try.underlying31
  have hu29 := Try.underlying29
  have HR0_0 := Aside0.mk hr0_0
  have HC0_0 := Aside0.mk hc0_0
  clear hr0_0 hc0_0
  have HR0_2 := Aside0.mk hr0_2
  have HC0_2 := Aside0.mk hc0_2
  clear hr0_2 hc0_2
  have HR0_4 := Aside0.mk hr0_4
  have HC0_4 := Aside0.mk hc0_4
  clear hr0_4 hc0_4
  have HB := Aside0.mk (Below.refl w.heap.size w)
  have H : ((laws_heldFile.f k l0_0 a0_1 a1).bind fun t511 => (if t511 < 0 then (some (-1)) else ((laws_heldFile.f k l0_2 a0_3 t511).bind fun t512 => (if t512 < 0 then (some (-1)) else ((laws_heldFile.f k l0_4 a0_5 t512).bind fun t513 => (if t513 < 0 then (some (-1)) else (some t513))))))) = some r := h
  clear h
  replace H := Option.bind_eq_some_iff.mp H
  obtain ⟨t511, A30, H⟩ := H
  replace H : (if t511 < 0 then (some (-1)) else ((laws_heldFile.f k l0_2 a0_3 t511).bind fun t512 => (if t512 < 0 then (some (-1)) else ((laws_heldFile.f k l0_4 a0_5 t512).bind fun t513 => (if t513 < 0 then (some (-1)) else (some t513)))))) = some r := H
  have A3 := Aside0.mk A30
  clear A30
  by_cases c4 : t511 < 0
  · rw [if_pos c4] at H
    have c4b0 : decide (t511 < 0) = true := decide_eq_true c4
    clear c4
    obtain rfl := Option.some.inj H
    go_enter Try.func42, Try.ntmps42
    go_wp2_with (first | ((with_reducible refine gate_dst (N := 2) rfl ?_); refine box_event ?hg (N := 2) ?hd (cs := #[.slice A0_0 l0_0.length c0_0, .int .i64 a0_1, .slice A0_2 l0_2.length c0_2, .int .i64 a0_3, .slice A0_4 l0_4.length c0_4, .int .i64 a0_5]) (t := 31) ?hr ?_; (case hd => rfl); (case hg => rfl); (case hr => first | (go_simp; done) | (go_simp; rfl)); intro gb510 hg w5 hbox hb; have n0_ := Aside0.mk (below_step (by repeat (first | (with_reducible first | exact HB.out | apply below_alloc | apply pw_below_drewN | apply below_drew1) | exact HB.out)) hb); have n1_ := Aside0.mk (hbox); have n2_ := Aside0.mk ((by rw [hg]; exact (below_size (by repeat (first | (with_reducible first | exact HB.out | apply below_alloc | apply pw_below_drewN | apply below_drew1) | exact HB.out))) : w.heap.size ≤ gb510)); have n3_ := Aside0.mk ((by rw [hg]; exact (below_size (by repeat (first | (with_reducible first | exact HB.out | apply below_alloc | apply pw_below_drewN | apply below_drew1) | exact HB.out))) : w.heap.size ≤ gb510)); clear HB; have HB := n0_; have BK510 := n1_; have GW510 := n2_; have GE510 := n3_; clear n0_ n1_ n2_ n3_; clear hb hbox hg; have hcz6_0 : w5.cell? ⟨gb510, 0, none⟩ = some (.slice A0_0 l0_0.length c0_0) := (blk_cell BK510.out 0).trans rfl; have hcz6_1 : w5.cell? ⟨gb510, 1, none⟩ = some (.int .i64 a0_1) := (blk_cell BK510.out 1).trans rfl; have hcz6_2 : w5.cell? ⟨gb510, 2, none⟩ = some (.slice A0_2 l0_2.length c0_2) := (blk_cell BK510.out 2).trans rfl; have hcz6_3 : w5.cell? ⟨gb510, 3, none⟩ = some (.int .i64 a0_3) := (blk_cell BK510.out 3).trans rfl; have hcz6_4 : w5.cell? ⟨gb510, 4, none⟩ = some (.slice A0_4 l0_4.length c0_4) := (blk_cell BK510.out 4).trans rfl; have hcz6_5 : w5.cell? ⟨gb510, 5, none⟩ = some (.int .i64 a0_5) := (blk_cell BK510.out 5).trans rfl; have hfz6_0 := blk_frozen BK510.out 0; have hfz6_1 := blk_frozen BK510.out 1; have hfz6_2 := blk_frozen BK510.out 2; have hfz6_3 := blk_frozen BK510.out 3; have hfz6_4 := blk_frozen BK510.out 4; have hfz6_5 := blk_frozen BK510.out 5) | ((with_reducible refine gate_callee (f := 78) rfl ?_); refine goesL_ (some 8) rfl rfl Try.func78 (by kernel_rfl) rfl #[.agg #[.slice A0_0 l0_0.length c0_0, .int .i64 a0_1], .int .i64 a1] rfl (by (try simp only [List.map_toArray, List.map_cons, List.map_nil]); first | done | rfl | (simp only [List.length_drop, List.length_take]; rfl)) ?_; (with_reducible refine (laws_heldFile.calls k _ _ l0_0 a0_1 a1 t511 _ ?side1 ?side2 A3.out).mono ?_); (case side1 => repeat (first | exact (Kd.C_below HR0_0.out HB.out) | (with_reducible refine Kd.C_alloc ?_ _) | (with_reducible refine Kd.C_drewN ?_ _) | (with_reducible refine Kd.C_drew ?_))); (case side2 => exact HC0_0.out); rintro e w7 ⟨rfl, hb⟩; refine ⟨_, rfl, ?_⟩; have n0_ := Aside0.mk (blk_below (g := gb510) (o := .cells #[.slice A0_0 l0_0.length c0_0, .int .i64 a0_1, .slice A0_2 l0_2.length c0_2, .int .i64 a0_3, .slice A0_4 l0_4.length c0_4, .int .i64 a0_5] 31 (0, 0)) (by (with_reducible repeat (first | refine blk_drewN ?_ _ | refine blk_drew ?_ | refine blk_alloc ?_ _)); exact BK510.out) hb); have n1_ := Aside0.mk (below_step (by repeat (first | (with_reducible first | exact HB.out | apply below_alloc | apply pw_below_drewN | apply below_drew1 | refine below_set ?_ GE510.out) | exact HB.out)) hb); clear BK510; clear HB; have BK510 := n0_; have HB := n1_; clear n0_ n1_; (try clear hb); (try clear hb2); (try clear hk); (try clear hi)))
    go_ret
    exact ⟨by first | rfl | (simp [errW_none, errW_some] <;> rfl) | (simp [*, errW_none, errW_some] <;> rfl), by repeat (first | (with_reducible first | exact HB.out | apply below_alloc | apply pw_below_drewN | apply below_drew1 | refine below_set ?_ GE510.out) | exact HB.out)⟩
  · rw [if_neg c4] at H
    have c4b0 : decide (t511 < 0) = false := decide_eq_false c4
    clear c4
    replace H := Option.bind_eq_some_iff.mp H
    obtain ⟨t512, A80, H⟩ := H
    replace H : (if t512 < 0 then (some (-1)) else ((laws_heldFile.f k l0_4 a0_5 t512).bind fun t513 => (if t513 < 0 then (some (-1)) else (some t513)))) = some r := H
    have A8 := Aside0.mk A80
    clear A80
    by_cases c9 : t512 < 0
    · rw [if_pos c9] at H
      have c9b0 : decide (t512 < 0) = true := decide_eq_true c9
      clear c9
      obtain rfl := Option.some.inj H
      go_enter Try.func42, Try.ntmps42
      go_wp2_with (first | ((with_reducible refine gate_dst (N := 2) rfl ?_); refine box_event ?hg (N := 2) ?hd (cs := #[.slice A0_0 l0_0.length c0_0, .int .i64 a0_1, .slice A0_2 l0_2.length c0_2, .int .i64 a0_3, .slice A0_4 l0_4.length c0_4, .int .i64 a0_5]) (t := 31) ?hr ?_; (case hd => rfl); (case hg => rfl); (case hr => first | (go_simp; done) | (go_simp; rfl)); intro gb510 hg w10 hbox hb; have n0_ := Aside0.mk (below_step (by repeat (first | (with_reducible first | exact HB.out | apply below_alloc | apply pw_below_drewN | apply below_drew1) | exact HB.out)) hb); have n1_ := Aside0.mk (hbox); have n2_ := Aside0.mk ((by rw [hg]; exact (below_size (by repeat (first | (with_reducible first | exact HB.out | apply below_alloc | apply pw_below_drewN | apply below_drew1) | exact HB.out))) : w.heap.size ≤ gb510)); have n3_ := Aside0.mk ((by rw [hg]; exact (below_size (by repeat (first | (with_reducible first | exact HB.out | apply below_alloc | apply pw_below_drewN | apply below_drew1) | exact HB.out))) : w.heap.size ≤ gb510)); clear HB; have HB := n0_; have BK510 := n1_; have GW510 := n2_; have GE510 := n3_; clear n0_ n1_ n2_ n3_; clear hb hbox hg; have hcz11_0 : w10.cell? ⟨gb510, 0, none⟩ = some (.slice A0_0 l0_0.length c0_0) := (blk_cell BK510.out 0).trans rfl; have hcz11_1 : w10.cell? ⟨gb510, 1, none⟩ = some (.int .i64 a0_1) := (blk_cell BK510.out 1).trans rfl; have hcz11_2 : w10.cell? ⟨gb510, 2, none⟩ = some (.slice A0_2 l0_2.length c0_2) := (blk_cell BK510.out 2).trans rfl; have hcz11_3 : w10.cell? ⟨gb510, 3, none⟩ = some (.int .i64 a0_3) := (blk_cell BK510.out 3).trans rfl; have hcz11_4 : w10.cell? ⟨gb510, 4, none⟩ = some (.slice A0_4 l0_4.length c0_4) := (blk_cell BK510.out 4).trans rfl; have hcz11_5 : w10.cell? ⟨gb510, 5, none⟩ = some (.int .i64 a0_5) := (blk_cell BK510.out 5).trans rfl; have hfz11_0 := blk_frozen BK510.out 0; have hfz11_1 := blk_frozen BK510.out 1; have hfz11_2 := blk_frozen BK510.out 2; have hfz11_3 := blk_frozen BK510.out 3; have hfz11_4 := blk_frozen BK510.out 4; have hfz11_5 := blk_frozen BK510.out 5) | ((with_reducible refine gate_callee (f := 78) rfl ?_); refine goesL_ (some 8) rfl rfl Try.func78 (by kernel_rfl) rfl #[.agg #[.slice A0_0 l0_0.length c0_0, .int .i64 a0_1], .int .i64 a1] rfl (by (try simp only [List.map_toArray, List.map_cons, List.map_nil]); first | done | rfl | (simp only [List.length_drop, List.length_take]; rfl)) ?_; (with_reducible refine (laws_heldFile.calls k _ _ l0_0 a0_1 a1 t511 _ ?side1 ?side2 A3.out).mono ?_); (case side1 => repeat (first | exact (Kd.C_below HR0_0.out HB.out) | (with_reducible refine Kd.C_alloc ?_ _) | (with_reducible refine Kd.C_drewN ?_ _) | (with_reducible refine Kd.C_drew ?_))); (case side2 => exact HC0_0.out); rintro e w12 ⟨rfl, hb⟩; refine ⟨_, rfl, ?_⟩; have n0_ := Aside0.mk (blk_below (g := gb510) (o := .cells #[.slice A0_0 l0_0.length c0_0, .int .i64 a0_1, .slice A0_2 l0_2.length c0_2, .int .i64 a0_3, .slice A0_4 l0_4.length c0_4, .int .i64 a0_5] 31 (0, 0)) (by (with_reducible repeat (first | refine blk_drewN ?_ _ | refine blk_drew ?_ | refine blk_alloc ?_ _)); exact BK510.out) hb); have n1_ := Aside0.mk (below_step (by repeat (first | (with_reducible first | exact HB.out | apply below_alloc | apply pw_below_drewN | apply below_drew1 | refine below_set ?_ GE510.out) | exact HB.out)) hb); clear BK510; clear HB; have BK510 := n0_; have HB := n1_; clear n0_ n1_; (try clear hb); (try clear hb2); (try clear hk); (try clear hi); have hcz13_0 : w12.cell? ⟨gb510, 0, none⟩ = some (.slice A0_0 l0_0.length c0_0) := (blk_cell BK510.out 0).trans rfl; have hcz13_1 : w12.cell? ⟨gb510, 1, none⟩ = some (.int .i64 a0_1) := (blk_cell BK510.out 1).trans rfl; have hcz13_2 : w12.cell? ⟨gb510, 2, none⟩ = some (.slice A0_2 l0_2.length c0_2) := (blk_cell BK510.out 2).trans rfl; have hcz13_3 : w12.cell? ⟨gb510, 3, none⟩ = some (.int .i64 a0_3) := (blk_cell BK510.out 3).trans rfl; have hcz13_4 : w12.cell? ⟨gb510, 4, none⟩ = some (.slice A0_4 l0_4.length c0_4) := (blk_cell BK510.out 4).trans rfl; have hcz13_5 : w12.cell? ⟨gb510, 5, none⟩ = some (.int .i64 a0_5) := (blk_cell BK510.out 5).trans rfl; have hfz13_0 := blk_frozen BK510.out 0; have hfz13_1 := blk_frozen BK510.out 1; have hfz13_2 := blk_frozen BK510.out 2; have hfz13_3 := blk_frozen BK510.out 3; have hfz13_4 := blk_frozen BK510.out 4; have hfz13_5 := blk_frozen BK510.out 5) | ((with_reducible refine gate_callee (f := 78) rfl ?_); refine goesL_ (some 14) rfl rfl Try.func78 (by kernel_rfl) rfl #[.agg #[.slice A0_2 l0_2.length c0_2, .int .i64 a0_3], .int .i64 t511] rfl (by (try simp only [List.map_toArray, List.map_cons, List.map_nil]); first | done | rfl | (simp only [List.length_drop, List.length_take]; rfl)) ?_; (with_reducible refine (laws_heldFile.calls k _ _ l0_2 a0_3 t511 t512 _ ?side1 ?side2 A8.out).mono ?_); (case side1 => repeat (first | exact (Kd.C_below HR0_2.out HB.out) | (with_reducible refine Kd.C_alloc ?_ _) | (with_reducible refine Kd.C_drewN ?_ _) | (with_reducible refine Kd.C_drew ?_))); (case side2 => exact HC0_2.out); rintro e w14 ⟨rfl, hb⟩; refine ⟨_, rfl, ?_⟩; have n0_ := Aside0.mk (blk_below (g := gb510) (o := .cells #[.slice A0_0 l0_0.length c0_0, .int .i64 a0_1, .slice A0_2 l0_2.length c0_2, .int .i64 a0_3, .slice A0_4 l0_4.length c0_4, .int .i64 a0_5] 31 (0, 0)) (by (with_reducible repeat (first | refine blk_drewN ?_ _ | refine blk_drew ?_ | refine blk_alloc ?_ _)); exact BK510.out) hb); have n1_ := Aside0.mk (below_step (by repeat (first | (with_reducible first | exact HB.out | apply below_alloc | apply pw_below_drewN | apply below_drew1 | refine below_set ?_ GE510.out) | exact HB.out)) hb); clear BK510; clear HB; have BK510 := n0_; have HB := n1_; clear n0_ n1_; (try clear hb); (try clear hb2); (try clear hk); (try clear hi)))
      go_ret
      exact ⟨by first | rfl | (simp [errW_none, errW_some] <;> rfl) | (simp [*, errW_none, errW_some] <;> rfl), by repeat (first | (with_reducible first | exact HB.out | apply below_alloc | apply pw_below_drewN | apply below_drew1 | refine below_set ?_ GE510.out) | exact HB.out)⟩
    · rw [if_neg c9] at H
      have c9b0 : decide (t512 < 0) = false := decide_eq_false c9
      clear c9
      replace H := Option.bind_eq_some_iff.mp H
      obtain ⟨t513, A150, H⟩ := H
      replace H : (if t513 < 0 then (some (-1)) else (some t513)) = some r := H
      have A15 := Aside0.mk A150
      clear A150
      by_cases c16 : t513 < 0
      · rw [if_pos c16] at H
        have c16b0 : decide (t513 < 0) = true := decide_eq_true c16
        clear c16
        obtain rfl := Option.some.inj H
        go_enter Try.func42, Try.ntmps42
        go_wp2_with (first | ((with_reducible refine gate_dst (N := 2) rfl ?_); refine box_event ?hg (N := 2) ?hd (cs := #[.slice A0_0 l0_0.length c0_0, .int .i64 a0_1, .slice A0_2 l0_2.length c0_2, .int .i64 a0_3, .slice A0_4 l0_4.length c0_4, .int .i64 a0_5]) (t := 31) ?hr ?_; (case hd => rfl); (case hg => rfl); (case hr => first | (go_simp; done) | (go_simp; rfl)); intro gb510 hg w17 hbox hb; have n0_ := Aside0.mk (below_step (by repeat (first | (with_reducible first | exact HB.out | apply below_alloc | apply pw_below_drewN | apply below_drew1) | exact HB.out)) hb); have n1_ := Aside0.mk (hbox); have n2_ := Aside0.mk ((by rw [hg]; exact (below_size (by repeat (first | (with_reducible first | exact HB.out | apply below_alloc | apply pw_below_drewN | apply below_drew1) | exact HB.out))) : w.heap.size ≤ gb510)); have n3_ := Aside0.mk ((by rw [hg]; exact (below_size (by repeat (first | (with_reducible first | exact HB.out | apply below_alloc | apply pw_below_drewN | apply below_drew1) | exact HB.out))) : w.heap.size ≤ gb510)); clear HB; have HB := n0_; have BK510 := n1_; have GW510 := n2_; have GE510 := n3_; clear n0_ n1_ n2_ n3_; clear hb hbox hg; have hcz18_0 : w17.cell? ⟨gb510, 0, none⟩ = some (.slice A0_0 l0_0.length c0_0) := (blk_cell BK510.out 0).trans rfl; have hcz18_1 : w17.cell? ⟨gb510, 1, none⟩ = some (.int .i64 a0_1) := (blk_cell BK510.out 1).trans rfl; have hcz18_2 : w17.cell? ⟨gb510, 2, none⟩ = some (.slice A0_2 l0_2.length c0_2) := (blk_cell BK510.out 2).trans rfl; have hcz18_3 : w17.cell? ⟨gb510, 3, none⟩ = some (.int .i64 a0_3) := (blk_cell BK510.out 3).trans rfl; have hcz18_4 : w17.cell? ⟨gb510, 4, none⟩ = some (.slice A0_4 l0_4.length c0_4) := (blk_cell BK510.out 4).trans rfl; have hcz18_5 : w17.cell? ⟨gb510, 5, none⟩ = some (.int .i64 a0_5) := (blk_cell BK510.out 5).trans rfl; have hfz18_0 := blk_frozen BK510.out 0; have hfz18_1 := blk_frozen BK510.out 1; have hfz18_2 := blk_frozen BK510.out 2; have hfz18_3 := blk_frozen BK510.out 3; have hfz18_4 := blk_frozen BK510.out 4; have hfz18_5 := blk_frozen BK510.out 5) | ((with_reducible refine gate_callee (f := 78) rfl ?_); refine goesL_ (some 8) rfl rfl Try.func78 (by kernel_rfl) rfl #[.agg #[.slice A0_0 l0_0.length c0_0, .int .i64 a0_1], .int .i64 a1] rfl (by (try simp only [List.map_toArray, List.map_cons, List.map_nil]); first | done | rfl | (simp only [List.length_drop, List.length_take]; rfl)) ?_; (with_reducible refine (laws_heldFile.calls k _ _ l0_0 a0_1 a1 t511 _ ?side1 ?side2 A3.out).mono ?_); (case side1 => repeat (first | exact (Kd.C_below HR0_0.out HB.out) | (with_reducible refine Kd.C_alloc ?_ _) | (with_reducible refine Kd.C_drewN ?_ _) | (with_reducible refine Kd.C_drew ?_))); (case side2 => exact HC0_0.out); rintro e w19 ⟨rfl, hb⟩; refine ⟨_, rfl, ?_⟩; have n0_ := Aside0.mk (blk_below (g := gb510) (o := .cells #[.slice A0_0 l0_0.length c0_0, .int .i64 a0_1, .slice A0_2 l0_2.length c0_2, .int .i64 a0_3, .slice A0_4 l0_4.length c0_4, .int .i64 a0_5] 31 (0, 0)) (by (with_reducible repeat (first | refine blk_drewN ?_ _ | refine blk_drew ?_ | refine blk_alloc ?_ _)); exact BK510.out) hb); have n1_ := Aside0.mk (below_step (by repeat (first | (with_reducible first | exact HB.out | apply below_alloc | apply pw_below_drewN | apply below_drew1 | refine below_set ?_ GE510.out) | exact HB.out)) hb); clear BK510; clear HB; have BK510 := n0_; have HB := n1_; clear n0_ n1_; (try clear hb); (try clear hb2); (try clear hk); (try clear hi); have hcz20_0 : w19.cell? ⟨gb510, 0, none⟩ = some (.slice A0_0 l0_0.length c0_0) := (blk_cell BK510.out 0).trans rfl; have hcz20_1 : w19.cell? ⟨gb510, 1, none⟩ = some (.int .i64 a0_1) := (blk_cell BK510.out 1).trans rfl; have hcz20_2 : w19.cell? ⟨gb510, 2, none⟩ = some (.slice A0_2 l0_2.length c0_2) := (blk_cell BK510.out 2).trans rfl; have hcz20_3 : w19.cell? ⟨gb510, 3, none⟩ = some (.int .i64 a0_3) := (blk_cell BK510.out 3).trans rfl; have hcz20_4 : w19.cell? ⟨gb510, 4, none⟩ = some (.slice A0_4 l0_4.length c0_4) := (blk_cell BK510.out 4).trans rfl; have hcz20_5 : w19.cell? ⟨gb510, 5, none⟩ = some (.int .i64 a0_5) := (blk_cell BK510.out 5).trans rfl; have hfz20_0 := blk_frozen BK510.out 0; have hfz20_1 := blk_frozen BK510.out 1; have hfz20_2 := blk_frozen BK510.out 2; have hfz20_3 := blk_frozen BK510.out 3; have hfz20_4 := blk_frozen BK510.out 4; have hfz20_5 := blk_frozen BK510.out 5) | ((with_reducible refine gate_callee (f := 78) rfl ?_); refine goesL_ (some 14) rfl rfl Try.func78 (by kernel_rfl) rfl #[.agg #[.slice A0_2 l0_2.length c0_2, .int .i64 a0_3], .int .i64 t511] rfl (by (try simp only [List.map_toArray, List.map_cons, List.map_nil]); first | done | rfl | (simp only [List.length_drop, List.length_take]; rfl)) ?_; (with_reducible refine (laws_heldFile.calls k _ _ l0_2 a0_3 t511 t512 _ ?side1 ?side2 A8.out).mono ?_); (case side1 => repeat (first | exact (Kd.C_below HR0_2.out HB.out) | (with_reducible refine Kd.C_alloc ?_ _) | (with_reducible refine Kd.C_drewN ?_ _) | (with_reducible refine Kd.C_drew ?_))); (case side2 => exact HC0_2.out); rintro e w21 ⟨rfl, hb⟩; refine ⟨_, rfl, ?_⟩; have n0_ := Aside0.mk (blk_below (g := gb510) (o := .cells #[.slice A0_0 l0_0.length c0_0, .int .i64 a0_1, .slice A0_2 l0_2.length c0_2, .int .i64 a0_3, .slice A0_4 l0_4.length c0_4, .int .i64 a0_5] 31 (0, 0)) (by (with_reducible repeat (first | refine blk_drewN ?_ _ | refine blk_drew ?_ | refine blk_alloc ?_ _)); exact BK510.out) hb); have n1_ := Aside0.mk (below_step (by repeat (first | (with_reducible first | exact HB.out | apply below_alloc | apply pw_below_drewN | apply below_drew1 | refine below_set ?_ GE510.out) | exact HB.out)) hb); clear BK510; clear HB; have BK510 := n0_; have HB := n1_; clear n0_ n1_; (try clear hb); (try clear hb2); (try clear hk); (try clear hi); have hcz22_0 : w21.cell? ⟨gb510, 0, none⟩ = some (.slice A0_0 l0_0.length c0_0) := (blk_cell BK510.out 0).trans rfl; have hcz22_1 : w21.cell? ⟨gb510, 1, none⟩ = some (.int .i64 a0_1) := (blk_cell BK510.out 1).trans rfl; have hcz22_2 : w21.cell? ⟨gb510, 2, none⟩ = some (.slice A0_2 l0_2.length c0_2) := (blk_cell BK510.out 2).trans rfl; have hcz22_3 : w21.cell? ⟨gb510, 3, none⟩ = some (.int .i64 a0_3) := (blk_cell BK510.out 3).trans rfl; have hcz22_4 : w21.cell? ⟨gb510, 4, none⟩ = some (.slice A0_4 l0_4.length c0_4) := (blk_cell BK510.out 4).trans rfl; have hcz22_5 : w21.cell? ⟨gb510, 5, none⟩ = some (.int .i64 a0_5) := (blk_cell BK510.out 5).trans rfl; have hfz22_0 := blk_frozen BK510.out 0; have hfz22_1 := blk_frozen BK510.out 1; have hfz22_2 := blk_frozen BK510.out 2; have hfz22_3 := blk_frozen BK510.out 3; have hfz22_4 := blk_frozen BK510.out 4; have hfz22_5 := blk_frozen BK510.out 5) | ((with_reducible refine gate_callee (f := 78) rfl ?_); refine goesL_ (some 20) rfl rfl Try.func78 (by kernel_rfl) rfl #[.agg #[.slice A0_4 l0_4.length c0_4, .int .i64 a0_5], .int .i64 t512] rfl (by (try simp only [List.map_toArray, List.map_cons, List.map_nil]); first | done | rfl | (simp only [List.length_drop, List.length_take]; rfl)) ?_; (with_reducible refine (laws_heldFile.calls k _ _ l0_4 a0_5 t512 t513 _ ?side1 ?side2 A15.out).mono ?_); (case side1 => repeat (first | exact (Kd.C_below HR0_4.out HB.out) | (with_reducible refine Kd.C_alloc ?_ _) | (with_reducible refine Kd.C_drewN ?_ _) | (with_reducible refine Kd.C_drew ?_))); (case side2 => exact HC0_4.out); rintro e w23 ⟨rfl, hb⟩; refine ⟨_, rfl, ?_⟩; have n0_ := Aside0.mk (blk_below (g := gb510) (o := .cells #[.slice A0_0 l0_0.length c0_0, .int .i64 a0_1, .slice A0_2 l0_2.length c0_2, .int .i64 a0_3, .slice A0_4 l0_4.length c0_4, .int .i64 a0_5] 31 (0, 0)) (by (with_reducible repeat (first | refine blk_drewN ?_ _ | refine blk_drew ?_ | refine blk_alloc ?_ _)); exact BK510.out) hb); have n1_ := Aside0.mk (below_step (by repeat (first | (with_reducible first | exact HB.out | apply below_alloc | apply pw_below_drewN | apply below_drew1 | refine below_set ?_ GE510.out) | exact HB.out)) hb); clear BK510; clear HB; have BK510 := n0_; have HB := n1_; clear n0_ n1_; (try clear hb); (try clear hb2); (try clear hk); (try clear hi)))
        go_ret
        exact ⟨by first | rfl | (simp [errW_none, errW_some] <;> rfl) | (simp [*, errW_none, errW_some] <;> rfl), by repeat (first | (with_reducible first | exact HB.out | apply below_alloc | apply pw_below_drewN | apply below_drew1 | refine below_set ?_ GE510.out) | exact HB.out)⟩
      · rw [if_neg c16] at H
        have c16b0 : decide (t513 < 0) = false := decide_eq_false c16
        clear c16
        obtain rfl := Option.some.inj H
        go_enter Try.func42, Try.ntmps42
        go_wp2_with (first | ((with_reducible refine gate_dst (N := 2) rfl ?_); refine box_event ?hg (N := 2) ?hd (cs := #[.slice A0_0 l0_0.length c0_0, .int .i64 a0_1, .slice A0_2 l0_2.length c0_2, .int .i64 a0_3, .slice A0_4 l0_4.length c0_4, .int .i64 a0_5]) (t := 31) ?hr ?_; (case hd => rfl); (case hg => rfl); (case hr => first | (go_simp; done) | (go_simp; rfl)); intro gb510 hg w24 hbox hb; have n0_ := Aside0.mk (below_step (by repeat (first | (with_reducible first | exact HB.out | apply below_alloc | apply pw_below_drewN | apply below_drew1) | exact HB.out)) hb); have n1_ := Aside0.mk (hbox); have n2_ := Aside0.mk ((by rw [hg]; exact (below_size (by repeat (first | (with_reducible first | exact HB.out | apply below_alloc | apply pw_below_drewN | apply below_drew1) | exact HB.out))) : w.heap.size ≤ gb510)); have n3_ := Aside0.mk ((by rw [hg]; exact (below_size (by repeat (first | (with_reducible first | exact HB.out | apply below_alloc | apply pw_below_drewN | apply below_drew1) | exact HB.out))) : w.heap.size ≤ gb510)); clear HB; have HB := n0_; have BK510 := n1_; have GW510 := n2_; have GE510 := n3_; clear n0_ n1_ n2_ n3_; clear hb hbox hg; have hcz25_0 : w24.cell? ⟨gb510, 0, none⟩ = some (.slice A0_0 l0_0.length c0_0) := (blk_cell BK510.out 0).trans rfl; have hcz25_1 : w24.cell? ⟨gb510, 1, none⟩ = some (.int .i64 a0_1) := (blk_cell BK510.out 1).trans rfl; have hcz25_2 : w24.cell? ⟨gb510, 2, none⟩ = some (.slice A0_2 l0_2.length c0_2) := (blk_cell BK510.out 2).trans rfl; have hcz25_3 : w24.cell? ⟨gb510, 3, none⟩ = some (.int .i64 a0_3) := (blk_cell BK510.out 3).trans rfl; have hcz25_4 : w24.cell? ⟨gb510, 4, none⟩ = some (.slice A0_4 l0_4.length c0_4) := (blk_cell BK510.out 4).trans rfl; have hcz25_5 : w24.cell? ⟨gb510, 5, none⟩ = some (.int .i64 a0_5) := (blk_cell BK510.out 5).trans rfl; have hfz25_0 := blk_frozen BK510.out 0; have hfz25_1 := blk_frozen BK510.out 1; have hfz25_2 := blk_frozen BK510.out 2; have hfz25_3 := blk_frozen BK510.out 3; have hfz25_4 := blk_frozen BK510.out 4; have hfz25_5 := blk_frozen BK510.out 5) | ((with_reducible refine gate_callee (f := 78) rfl ?_); refine goesL_ (some 8) rfl rfl Try.func78 (by kernel_rfl) rfl #[.agg #[.slice A0_0 l0_0.length c0_0, .int .i64 a0_1], .int .i64 a1] rfl (by (try simp only [List.map_toArray, List.map_cons, List.map_nil]); first | done | rfl | (simp only [List.length_drop, List.length_take]; rfl)) ?_; (with_reducible refine (laws_heldFile.calls k _ _ l0_0 a0_1 a1 t511 _ ?side1 ?side2 A3.out).mono ?_); (case side1 => repeat (first | exact (Kd.C_below HR0_0.out HB.out) | (with_reducible refine Kd.C_alloc ?_ _) | (with_reducible refine Kd.C_drewN ?_ _) | (with_reducible refine Kd.C_drew ?_))); (case side2 => exact HC0_0.out); rintro e w26 ⟨rfl, hb⟩; refine ⟨_, rfl, ?_⟩; have n0_ := Aside0.mk (blk_below (g := gb510) (o := .cells #[.slice A0_0 l0_0.length c0_0, .int .i64 a0_1, .slice A0_2 l0_2.length c0_2, .int .i64 a0_3, .slice A0_4 l0_4.length c0_4, .int .i64 a0_5] 31 (0, 0)) (by (with_reducible repeat (first | refine blk_drewN ?_ _ | refine blk_drew ?_ | refine blk_alloc ?_ _)); exact BK510.out) hb); have n1_ := Aside0.mk (below_step (by repeat (first | (with_reducible first | exact HB.out | apply below_alloc | apply pw_below_drewN | apply below_drew1 | refine below_set ?_ GE510.out) | exact HB.out)) hb); clear BK510; clear HB; have BK510 := n0_; have HB := n1_; clear n0_ n1_; (try clear hb); (try clear hb2); (try clear hk); (try clear hi); have hcz27_0 : w26.cell? ⟨gb510, 0, none⟩ = some (.slice A0_0 l0_0.length c0_0) := (blk_cell BK510.out 0).trans rfl; have hcz27_1 : w26.cell? ⟨gb510, 1, none⟩ = some (.int .i64 a0_1) := (blk_cell BK510.out 1).trans rfl; have hcz27_2 : w26.cell? ⟨gb510, 2, none⟩ = some (.slice A0_2 l0_2.length c0_2) := (blk_cell BK510.out 2).trans rfl; have hcz27_3 : w26.cell? ⟨gb510, 3, none⟩ = some (.int .i64 a0_3) := (blk_cell BK510.out 3).trans rfl; have hcz27_4 : w26.cell? ⟨gb510, 4, none⟩ = some (.slice A0_4 l0_4.length c0_4) := (blk_cell BK510.out 4).trans rfl; have hcz27_5 : w26.cell? ⟨gb510, 5, none⟩ = some (.int .i64 a0_5) := (blk_cell BK510.out 5).trans rfl; have hfz27_0 := blk_frozen BK510.out 0; have hfz27_1 := blk_frozen BK510.out 1; have hfz27_2 := blk_frozen BK510.out 2; have hfz27_3 := blk_frozen BK510.out 3; have hfz27_4 := blk_frozen BK510.out 4; have hfz27_5 := blk_frozen BK510.out 5) | ((with_reducible refine gate_callee (f := 78) rfl ?_); refine goesL_ (some 14) rfl rfl Try.func78 (by kernel_rfl) rfl #[.agg #[.slice A0_2 l0_2.length c0_2, .int .i64 a0_3], .int .i64 t511] rfl (by (try simp only [List.map_toArray, List.map_cons, List.map_nil]); first | done | rfl | (simp only [List.length_drop, List.length_take]; rfl)) ?_; (with_reducible refine (laws_heldFile.calls k _ _ l0_2 a0_3 t511 t512 _ ?side1 ?side2 A8.out).mono ?_); (case side1 => repeat (first | exact (Kd.C_below HR0_2.out HB.out) | (with_reducible refine Kd.C_alloc ?_ _) | (with_reducible refine Kd.C_drewN ?_ _) | (with_reducible refine Kd.C_drew ?_))); (case side2 => exact HC0_2.out); rintro e w28 ⟨rfl, hb⟩; refine ⟨_, rfl, ?_⟩; have n0_ := Aside0.mk (blk_below (g := gb510) (o := .cells #[.slice A0_0 l0_0.length c0_0, .int .i64 a0_1, .slice A0_2 l0_2.length c0_2, .int .i64 a0_3, .slice A0_4 l0_4.length c0_4, .int .i64 a0_5] 31 (0, 0)) (by (with_reducible repeat (first | refine blk_drewN ?_ _ | refine blk_drew ?_ | refine blk_alloc ?_ _)); exact BK510.out) hb); have n1_ := Aside0.mk (below_step (by repeat (first | (with_reducible first | exact HB.out | apply below_alloc | apply pw_below_drewN | apply below_drew1 | refine below_set ?_ GE510.out) | exact HB.out)) hb); clear BK510; clear HB; have BK510 := n0_; have HB := n1_; clear n0_ n1_; (try clear hb); (try clear hb2); (try clear hk); (try clear hi); have hcz29_0 : w28.cell? ⟨gb510, 0, none⟩ = some (.slice A0_0 l0_0.length c0_0) := (blk_cell BK510.out 0).trans rfl; have hcz29_1 : w28.cell? ⟨gb510, 1, none⟩ = some (.int .i64 a0_1) := (blk_cell BK510.out 1).trans rfl; have hcz29_2 : w28.cell? ⟨gb510, 2, none⟩ = some (.slice A0_2 l0_2.length c0_2) := (blk_cell BK510.out 2).trans rfl; have hcz29_3 : w28.cell? ⟨gb510, 3, none⟩ = some (.int .i64 a0_3) := (blk_cell BK510.out 3).trans rfl; have hcz29_4 : w28.cell? ⟨gb510, 4, none⟩ = some (.slice A0_4 l0_4.length c0_4) := (blk_cell BK510.out 4).trans rfl; have hcz29_5 : w28.cell? ⟨gb510, 5, none⟩ = some (.int .i64 a0_5) := (blk_cell BK510.out 5).trans rfl; have hfz29_0 := blk_frozen BK510.out 0; have hfz29_1 := blk_frozen BK510.out 1; have hfz29_2 := blk_frozen BK510.out 2; have hfz29_3 := blk_frozen BK510.out 3; have hfz29_4 := blk_frozen BK510.out 4; have hfz29_5 := blk_frozen BK510.out 5) | ((with_reducible refine gate_callee (f := 78) rfl ?_); refine goesL_ (some 20) rfl rfl Try.func78 (by kernel_rfl) rfl #[.agg #[.slice A0_4 l0_4.length c0_4, .int .i64 a0_5], .int .i64 t512] rfl (by (try simp only [List.map_toArray, List.map_cons, List.map_nil]); first | done | rfl | (simp only [List.length_drop, List.length_take]; rfl)) ?_; (with_reducible refine (laws_heldFile.calls k _ _ l0_4 a0_5 t512 t513 _ ?side1 ?side2 A15.out).mono ?_); (case side1 => repeat (first | exact (Kd.C_below HR0_4.out HB.out) | (with_reducible refine Kd.C_alloc ?_ _) | (with_reducible refine Kd.C_drewN ?_ _) | (with_reducible refine Kd.C_drew ?_))); (case side2 => exact HC0_4.out); rintro e w30 ⟨rfl, hb⟩; refine ⟨_, rfl, ?_⟩; have n0_ := Aside0.mk (blk_below (g := gb510) (o := .cells #[.slice A0_0 l0_0.length c0_0, .int .i64 a0_1, .slice A0_2 l0_2.length c0_2, .int .i64 a0_3, .slice A0_4 l0_4.length c0_4, .int .i64 a0_5] 31 (0, 0)) (by (with_reducible repeat (first | refine blk_drewN ?_ _ | refine blk_drew ?_ | refine blk_alloc ?_ _)); exact BK510.out) hb); have n1_ := Aside0.mk (below_step (by repeat (first | (with_reducible first | exact HB.out | apply below_alloc | apply pw_below_drewN | apply below_drew1 | refine below_set ?_ GE510.out) | exact HB.out)) hb); clear BK510; clear HB; have BK510 := n0_; have HB := n1_; clear n0_ n1_; (try clear hb); (try clear hb2); (try clear hk); (try clear hi)))
        go_ret
        exact ⟨by first | rfl | (simp [errW_none, errW_some] <;> rfl) | (simp [*, errW_none, errW_some] <;> rfl), by repeat (first | (with_reducible first | exact HB.out | apply below_alloc | apply pw_below_drewN | apply below_drew1 | refine below_set ?_ GE510.out) | exact HB.out)⟩

end Go.Proofs.Ytbapokpkgonjkaa.Print

/- The machine's side of the statements: what a Go function comes to, as a Lean function, and that it does so (written by this session's own program over the kit's printer; Lean checks it). -/
namespace Go.Proofs.Ytbapokpkgonjkaa.Print
open Go.RowKit Go.Proofs.YtbapokpkgonjkaaW.PrintWords Go.Proofs.YtbapokpkgonjkaaW.PrintLast Go.Proofs.YtbapokpkgonjkaaW.PrintMore
attribute [local go_sem] max2_int min2_int max_two min_two max_three min_three max_four min_four   -- for this text's walks alone
set_option linter.unusedVariables false
set_option linter.unusedSimpArgs false

/-! ### laws_szFile: function 57 -/
def laws_szFile.f (l0_0 : List Int) (a0_1 : Int) (a1 : Int) : Option (Int) := (laws_szByteS.f l0_0 a1).bind fun t102 => (if t102 < 0 then (some (-1)) else (some t102))
set_option maxHeartbeats 8000000 in
set_option maxRecDepth 100000 in
theorem laws_szFile.calls (A0_0 : Option Addr) (c0_0 : Nat) (l0_0 : List Int) (a0_1 : Int) (a1 : Int) (r : Int) (w : World) (hr0_0 : Kd.C (Kd.int .u8) w A0_0 l0_0.length l0_0) (hc0_0 : l0_0.length ≤ c0_0) (h : laws_szFile.f l0_0 a0_1 a1 = some r) :
    Calls Try.prog 57 #[.agg #[.slice A0_0 l0_0.length c0_0, .int .i64 a0_1], .int .i64 a1] w fun e w' => e = .returned (.int .i64 r) ∧ Below w.heap.size w w' := by
  have hu24 := Try.underlying24
  have HR0_0 := Aside0.mk hr0_0
  have HC0_0 := Aside0.mk hc0_0
  clear hr0_0 hc0_0
  have HB := Aside0.mk (Below.refl w.heap.size w)
  have H : ((laws_szByteS.f l0_0 a1).bind fun t102 => (if t102 < 0 then (some (-1)) else (some t102))) = some r := h
  clear h
  replace H := Option.bind_eq_some_iff.mp H
  obtain ⟨t102, A30, H⟩ := H
  replace H : (if t102 < 0 then (some (-1)) else (some t102)) = some r := H
  have A3 := Aside0.mk A30
  clear A30
  by_cases c4 : t102 < 0
  · rw [if_pos c4] at H
    have c4b0 : decide (t102 < 0) = true := decide_eq_true c4
    clear c4
    obtain rfl := Option.some.inj H
    go_enter Try.func57, Try.ntmps57
    go_wp2_with (first | ((with_reducible refine gate_dst (N := 2) rfl ?_); refine box_event ?hg (N := 2) ?hd (cs := #[.slice A0_0 l0_0.length c0_0, .int .i64 a0_1]) (t := 24) ?hr ?_; (case hd => rfl); (case hg => rfl); (case hr => first | (go_simp; done) | (go_simp; rfl)); intro gb101 hg w5 hbox hb; have n0_ := Aside0.mk (below_step (by repeat (first | (with_reducible first | exact HB.out | apply below_alloc | apply pw_below_drewN | apply below_drew1) | exact HB.out)) hb); have n1_ := Aside0.mk (hbox); have n2_ := Aside0.mk ((by rw [hg]; exact (below_size (by repeat (first | (with_reducible first | exact HB.out | apply below_alloc | apply pw_below_drewN | apply below_drew1) | exact HB.out))) : w.heap.size ≤ gb101)); have n3_ := Aside0.mk ((by rw [hg]; exact (below_size (by repeat (first | (with_reducible first | exact HB.out | apply below_alloc | apply pw_below_drewN | apply below_drew1) | exact HB.out))) : w.heap.size ≤ gb101)); clear HB; have HB := n0_; have BK101 := n1_; have GW101 := n2_; have GE101 := n3_; clear n0_ n1_ n2_ n3_; clear hb hbox hg; have hcz6_0 : w5.cell? ⟨gb101, 0, none⟩ = some (.slice A0_0 l0_0.length c0_0) := (blk_cell BK101.out 0).trans rfl; have hcz6_1 : w5.cell? ⟨gb101, 1, none⟩ = some (.int .i64 a0_1) := (blk_cell BK101.out 1).trans rfl; have hfz6_0 := blk_frozen BK101.out 0; have hfz6_1 := blk_frozen BK101.out 1) | ((with_reducible refine gate_callee (f := 66) rfl ?_); refine goesL_ (some 8) rfl rfl Try.func66 (by kernel_rfl) rfl #[.slice A0_0 l0_0.length c0_0, .int .i64 a1] rfl (by (try simp only [List.map_toArray, List.map_cons, List.map_nil]); first | done | rfl | (simp only [List.length_drop, List.length_take]; rfl)) ?_; (with_reducible refine (laws_szByteS.calls _ _ l0_0 a1 t102 _ ?side1 ?side2 A3.out).mono ?_); (case side1 => repeat (first | exact (Kd.C_below HR0_0.out HB.out) | (with_reducible refine Kd.C_alloc ?_ _) | (with_reducible refine Kd.C_drewN ?_ _) | (with_reducible refine Kd.C_drew ?_))); (case side2 => exact HC0_0.out); rintro e w' ⟨rfl, ⟨nd, rfl⟩⟩; refine ⟨_, rfl, ?_⟩))
    go_ret
    exact ⟨by first | rfl | (simp [errW_none, errW_some] <;> rfl) | (simp [*, errW_none, errW_some] <;> rfl), by repeat (first | (with_reducible first | exact HB.out | apply below_alloc | apply pw_below_drewN | apply below_drew1 | refine below_set ?_ GE101.out) | exact HB.out)⟩
  · rw [if_neg c4] at H
    have c4b0 : decide (t102 < 0) = false := decide_eq_false c4
    clear c4
    obtain rfl := Option.some.inj H
    go_enter Try.func57, Try.ntmps57
    go_wp2_with (first | ((with_reducible refine gate_dst (N := 2) rfl ?_); refine box_event ?hg (N := 2) ?hd (cs := #[.slice A0_0 l0_0.length c0_0, .int .i64 a0_1]) (t := 24) ?hr ?_; (case hd => rfl); (case hg => rfl); (case hr => first | (go_simp; done) | (go_simp; rfl)); intro gb101 hg w7 hbox hb; have n0_ := Aside0.mk (below_step (by repeat (first | (with_reducible first | exact HB.out | apply below_alloc | apply pw_below_drewN | apply below_drew1) | exact HB.out)) hb); have n1_ := Aside0.mk (hbox); have n2_ := Aside0.mk ((by rw [hg]; exact (below_size (by repeat (first | (with_reducible first | exact HB.out | apply below_alloc | apply pw_below_drewN | apply below_drew1) | exact HB.out))) : w.heap.size ≤ gb101)); have n3_ := Aside0.mk ((by rw [hg]; exact (below_size (by repeat (first | (with_reducible first | exact HB.out | apply below_alloc | apply pw_below_drewN | apply below_drew1) | exact HB.out))) : w.heap.size ≤ gb101)); clear HB; have HB := n0_; have BK101 := n1_; have GW101 := n2_; have GE101 := n3_; clear n0_ n1_ n2_ n3_; clear hb hbox hg; have hcz8_0 : w7.cell? ⟨gb101, 0, none⟩ = some (.slice A0_0 l0_0.length c0_0) := (blk_cell BK101.out 0).trans rfl; have hcz8_1 : w7.cell? ⟨gb101, 1, none⟩ = some (.int .i64 a0_1) := (blk_cell BK101.out 1).trans rfl; have hfz8_0 := blk_frozen BK101.out 0; have hfz8_1 := blk_frozen BK101.out 1) | ((with_reducible refine gate_callee (f := 66) rfl ?_); refine goesL_ (some 8) rfl rfl Try.func66 (by kernel_rfl) rfl #[.slice A0_0 l0_0.length c0_0, .int .i64 a1] rfl (by (try simp only [List.map_toArray, List.map_cons, List.map_nil]); first | done | rfl | (simp only [List.length_drop, List.length_take]; rfl)) ?_; (with_reducible refine (laws_szByteS.calls _ _ l0_0 a1 t102 _ ?side1 ?side2 A3.out).mono ?_); (case side1 => repeat (first | exact (Kd.C_below HR0_0.out HB.out) | (with_reducible refine Kd.C_alloc ?_ _) | (with_reducible refine Kd.C_drewN ?_ _) | (with_reducible refine Kd.C_drew ?_))); (case side2 => exact HC0_0.out); rintro e w' ⟨rfl, ⟨nd, rfl⟩⟩; refine ⟨_, rfl, ?_⟩))
    go_ret
    exact ⟨by first | rfl | (simp [errW_none, errW_some] <;> rfl) | (simp [*, errW_none, errW_some] <;> rfl), by repeat (first | (with_reducible first | exact HB.out | apply below_alloc | apply pw_below_drewN | apply below_drew1 | refine below_set ?_ GE101.out) | exact HB.out)⟩

end Go.Proofs.Ytbapokpkgonjkaa.Print

/- The machine's side of the statements: what a Go function comes to, as a Lean function, and that it does so (written by this session's own program over the kit's printer; Lean checks it). -/
namespace Go.Proofs.Ytbapokpkgonjkaa.Print
open Go.RowKit Go.Proofs.YtbapokpkgonjkaaW.PrintWords Go.Proofs.YtbapokpkgonjkaaW.PrintLast Go.Proofs.YtbapokpkgonjkaaW.PrintMore
attribute [local go_sem] max2_int min2_int max_two min_two max_three min_three max_four min_four   -- for this text's walks alone
set_option linter.unusedVariables false
set_option linter.unusedSimpArgs false

/-! ### laws_szDisk: function 15 -/
def laws_szDisk.f (l0_0 : List Int) (a0_1 : Int) (l0_2 : List Int) (a0_3 : Int) (l0_4 : List Int) (a0_5 : Int) (a1 : Int) : Option (Int) := (laws_szFile.f l0_0 a0_1 a1).bind fun t104 => (if t104 < 0 then (some (-1)) else ((laws_szFile.f l0_2 a0_3 t104).bind fun t105 => (if t105 < 0 then (some (-1)) else ((laws_szFile.f l0_4 a0_5 t105).bind fun t106 => (if t106 < 0 then (some (-1)) else (some t106))))))
set_option maxHeartbeats 8000000 in
set_option maxRecDepth 100000 in
theorem laws_szDisk.calls (A0_0 : Option Addr) (c0_0 : Nat) (l0_0 : List Int) (a0_1 : Int) (A0_2 : Option Addr) (c0_2 : Nat) (l0_2 : List Int) (a0_3 : Int) (A0_4 : Option Addr) (c0_4 : Nat) (l0_4 : List Int) (a0_5 : Int) (a1 : Int) (r : Int) (w : World) (hr0_0 : Kd.C (Kd.int .u8) w A0_0 l0_0.length l0_0) (hc0_0 : l0_0.length ≤ c0_0) (hr0_2 : Kd.C (Kd.int .u8) w A0_2 l0_2.length l0_2) (hc0_2 : l0_2.length ≤ c0_2) (hr0_4 : Kd.C (Kd.int .u8) w A0_4 l0_4.length l0_4) (hc0_4 : l0_4.length ≤ c0_4) (h : laws_szDisk.f l0_0 a0_1 l0_2 a0_3 l0_4 a0_5 a1 = some r) :
    Calls Try.prog 15 #[.agg #[.slice A0_0 l0_0.length c0_0, .int .i64 a0_1, .slice A0_2 l0_2.length c0_2, .int .i64 a0_3, .slice A0_4 l0_4.length c0_4, .int .i64 a0_5], .int .i64 a1] w fun e w' => e = .returned (.int .i64 r) ∧ Below w.heap.size w w' := by
  have hu26 := Try.underlying26
  have hu24 := Try.underlying24
  have HR0_0 := Aside0.mk hr0_0
  have HC0_0 := Aside0.mk hc0_0
  clear hr0_0 hc0_0
  have HR0_2 := Aside0.mk hr0_2
  have HC0_2 := Aside0.mk hc0_2
  clear hr0_2 hc0_2
  have HR0_4 := Aside0.mk hr0_4
  have HC0_4 := Aside0.mk hc0_4
  clear hr0_4 hc0_4
  have HB := Aside0.mk (Below.refl w.heap.size w)
  have H : ((laws_szFile.f l0_0 a0_1 a1).bind fun t104 => (if t104 < 0 then (some (-1)) else ((laws_szFile.f l0_2 a0_3 t104).bind fun t105 => (if t105 < 0 then (some (-1)) else ((laws_szFile.f l0_4 a0_5 t105).bind fun t106 => (if t106 < 0 then (some (-1)) else (some t106))))))) = some r := h
  clear h
  replace H := Option.bind_eq_some_iff.mp H
  obtain ⟨t104, A30, H⟩ := H
  replace H : (if t104 < 0 then (some (-1)) else ((laws_szFile.f l0_2 a0_3 t104).bind fun t105 => (if t105 < 0 then (some (-1)) else ((laws_szFile.f l0_4 a0_5 t105).bind fun t106 => (if t106 < 0 then (some (-1)) else (some t106)))))) = some r := H
  have A3 := Aside0.mk A30
  clear A30
  by_cases c4 : t104 < 0
  · rw [if_pos c4] at H
    have c4b0 : decide (t104 < 0) = true := decide_eq_true c4
    clear c4
    obtain rfl := Option.some.inj H
    go_enter Try.func15, Try.ntmps15
    go_wp2_with (first | ((with_reducible refine gate_dst (N := 2) rfl ?_); refine box_event ?hg (N := 2) ?hd (cs := #[.slice A0_0 l0_0.length c0_0, .int .i64 a0_1, .slice A0_2 l0_2.length c0_2, .int .i64 a0_3, .slice A0_4 l0_4.length c0_4, .int .i64 a0_5]) (t := 26) ?hr ?_; (case hd => rfl); (case hg => rfl); (case hr => first | (go_simp; done) | (go_simp; rfl)); intro gb103 hg w5 hbox hb; have n0_ := Aside0.mk (below_step (by repeat (first | (with_reducible first | exact HB.out | apply below_alloc | apply pw_below_drewN | apply below_drew1) | exact HB.out)) hb); have n1_ := Aside0.mk (hbox); have n2_ := Aside0.mk ((by rw [hg]; exact (below_size (by repeat (first | (with_reducible first | exact HB.out | apply below_alloc | apply pw_below_drewN | apply below_drew1) | exact HB.out))) : w.heap.size ≤ gb103)); have n3_ := Aside0.mk ((by rw [hg]; exact (below_size (by repeat (first | (with_reducible first | exact HB.out | apply below_alloc | apply pw_below_drewN | apply below_drew1) | exact HB.out))) : w.heap.size ≤ gb103)); clear HB; have HB := n0_; have BK103 := n1_; have GW103 := n2_; have GE103 := n3_; clear n0_ n1_ n2_ n3_; clear hb hbox hg; have hcz6_0 : w5.cell? ⟨gb103, 0, none⟩ = some (.slice A0_0 l0_0.length c0_0) := (blk_cell BK103.out 0).trans rfl; have hcz6_1 : w5.cell? ⟨gb103, 1, none⟩ = some (.int .i64 a0_1) := (blk_cell BK103.out 1).trans rfl; have hcz6_2 : w5.cell? ⟨gb103, 2, none⟩ = some (.slice A0_2 l0_2.length c0_2) := (blk_cell BK103.out 2).trans rfl; have hcz6_3 : w5.cell? ⟨gb103, 3, none⟩ = some (.int .i64 a0_3) := (blk_cell BK103.out 3).trans rfl; have hcz6_4 : w5.cell? ⟨gb103, 4, none⟩ = some (.slice A0_4 l0_4.length c0_4) := (blk_cell BK103.out 4).trans rfl; have hcz6_5 : w5.cell? ⟨gb103, 5, none⟩ = some (.int .i64 a0_5) := (blk_cell BK103.out 5).trans rfl; have hfz6_0 := blk_frozen BK103.out 0; have hfz6_1 := blk_frozen BK103.out 1; have hfz6_2 := blk_frozen BK103.out 2; have hfz6_3 := blk_frozen BK103.out 3; have hfz6_4 := blk_frozen BK103.out 4; have hfz6_5 := blk_frozen BK103.out 5) | ((with_reducible refine gate_callee (f := 57) rfl ?_); refine goesL_ (some 8) rfl rfl Try.func57 (by kernel_rfl) rfl #[.agg #[.slice A0_0 l0_0.length c0_0, .int .i64 a0_1], .int .i64 a1] rfl (by (try simp only [List.map_toArray, List.map_cons, List.map_nil]); first | done | rfl | (simp only [List.length_drop, List.length_take]; rfl)) ?_; (with_reducible refine (laws_szFile.calls _ _ l0_0 a0_1 a1 t104 _ ?side1 ?side2 A3.out).mono ?_); (case side1 => repeat (first | exact (Kd.C_below HR0_0.out HB.out) | (with_reducible refine Kd.C_alloc ?_ _) | (with_reducible refine Kd.C_drewN ?_ _) | (with_reducible refine Kd.C_drew ?_))); (case side2 => exact HC0_0.out); rintro e w7 ⟨rfl, hb⟩; refine ⟨_, rfl, ?_⟩; have n0_ := Aside0.mk (blk_below (g := gb103) (o := .cells #[.slice A0_0 l0_0.length c0_0, .int .i64 a0_1, .slice A0_2 l0_2.length c0_2, .int .i64 a0_3, .slice A0_4 l0_4.length c0_4, .int .i64 a0_5] 26 (0, 0)) (by (with_reducible repeat (first | refine blk_drewN ?_ _ | refine blk_drew ?_ | refine blk_alloc ?_ _)); exact BK103.out) hb); have n1_ := Aside0.mk (below_step (by repeat (first | (with_reducible first | exact HB.out | apply below_alloc | apply pw_below_drewN | apply below_drew1 | refine below_set ?_ GE103.out) | exact HB.out)) hb); clear BK103; clear HB; have BK103 := n0_; have HB := n1_; clear n0_ n1_; (try clear hb); (try clear hb2); (try clear hk); (try clear hi)))
    go_ret
    exact ⟨by first | rfl | (simp [errW_none, errW_some] <;> rfl) | (simp [*, errW_none, errW_some] <;> rfl), by repeat (first | (with_reducible first | exact HB.out | apply below_alloc | apply pw_below_drewN | apply below_drew1 | refine below_set ?_ GE103.out) | exact HB.out)⟩
  · rw [if_neg c4] at H
    have c4b0 : decide (t104 < 0) = false := decide_eq_false c4
    clear c4
    replace H := Option.bind_eq_some_iff.mp H
    obtain ⟨t105, A80, H⟩ := H
    replace H : (if t105 < 0 then (some (-1)) else ((laws_szFile.f l0_4 a0_5 t105).bind fun t106 => (if t106 < 0 then (some (-1)) else (some t106)))) = some r := H
    have A8 := Aside0.mk A80
    clear A80
    by_cases c9 : t105 < 0
    · rw [if_pos c9] at H
      have c9b0 : decide (t105 < 0) = true := decide_eq_true c9
      clear c9
      obtain rfl := Option.some.inj H
      go_enter Try.func15, Try.ntmps15
      go_wp2_with (first | ((with_reducible refine gate_dst (N := 2) rfl ?_); refine box_event ?hg (N := 2) ?hd (cs := #[.slice A0_0 l0_0.length c0_0, .int .i64 a0_1, .slice A0_2 l0_2.length c0_2, .int .i64 a0_3, .slice A0_4 l0_4.length c0_4, .int .i64 a0_5]) (t := 26) ?hr ?_; (case hd => rfl); (case hg => rfl); (case hr => first | (go_simp; done) | (go_simp; rfl)); intro gb103 hg w10 hbox hb; have n0_ := Aside0.mk (below_step (by repeat (first | (with_reducible first | exact HB.out | apply below_alloc | apply pw_below_drewN | apply below_drew1) | exact HB.out)) hb); have n1_ := Aside0.mk (hbox); have n2_ := Aside0.mk ((by rw [hg]; exact (below_size (by repeat (first | (with_reducible first | exact HB.out | apply below_alloc | apply pw_below_drewN | apply below_drew1) | exact HB.out))) : w.heap.size ≤ gb103)); have n3_ := Aside0.mk ((by rw [hg]; exact (below_size (by repeat (first | (with_reducible first | exact HB.out | apply below_alloc | apply pw_below_drewN | apply below_drew1) | exact HB.out))) : w.heap.size ≤ gb103)); clear HB; have HB := n0_; have BK103 := n1_; have GW103 := n2_; have GE103 := n3_; clear n0_ n1_ n2_ n3_; clear hb hbox hg; have hcz11_0 : w10.cell? ⟨gb103, 0, none⟩ = some (.slice A0_0 l0_0.length c0_0) := (blk_cell BK103.out 0).trans rfl; have hcz11_1 : w10.cell? ⟨gb103, 1, none⟩ = some (.int .i64 a0_1) := (blk_cell BK103.out 1).trans rfl; have hcz11_2 : w10.cell? ⟨gb103, 2, none⟩ = some (.slice A0_2 l0_2.length c0_2) := (blk_cell BK103.out 2).trans rfl; have hcz11_3 : w10.cell? ⟨gb103, 3, none⟩ = some (.int .i64 a0_3) := (blk_cell BK103.out 3).trans rfl; have hcz11_4 : w10.cell? ⟨gb103, 4, none⟩ = some (.slice A0_4 l0_4.length c0_4) := (blk_cell BK103.out 4).trans rfl; have hcz11_5 : w10.cell? ⟨gb103, 5, none⟩ = some (.int .i64 a0_5) := (blk_cell BK103.out 5).trans rfl; have hfz11_0 := blk_frozen BK103.out 0; have hfz11_1 := blk_frozen BK103.out 1; have hfz11_2 := blk_frozen BK103.out 2; have hfz11_3 := blk_frozen BK103.out 3; have hfz11_4 := blk_frozen BK103.out 4; have hfz11_5 := blk_frozen BK103.out 5) | ((with_reducible refine gate_callee (f := 57) rfl ?_); refine goesL_ (some 8) rfl rfl Try.func57 (by kernel_rfl) rfl #[.agg #[.slice A0_0 l0_0.length c0_0, .int .i64 a0_1], .int .i64 a1] rfl (by (try simp only [List.map_toArray, List.map_cons, List.map_nil]); first | done | rfl | (simp only [List.length_drop, List.length_take]; rfl)) ?_; (with_reducible refine (laws_szFile.calls _ _ l0_0 a0_1 a1 t104 _ ?side1 ?side2 A3.out).mono ?_); (case side1 => repeat (first | exact (Kd.C_below HR0_0.out HB.out) | (with_reducible refine Kd.C_alloc ?_ _) | (with_reducible refine Kd.C_drewN ?_ _) | (with_reducible refine Kd.C_drew ?_))); (case side2 => exact HC0_0.out); rintro e w12 ⟨rfl, hb⟩; refine ⟨_, rfl, ?_⟩; have n0_ := Aside0.mk (blk_below (g := gb103) (o := .cells #[.slice A0_0 l0_0.length c0_0, .int .i64 a0_1, .slice A0_2 l0_2.length c0_2, .int .i64 a0_3, .slice A0_4 l0_4.length c0_4, .int .i64 a0_5] 26 (0, 0)) (by (with_reducible repeat (first | refine blk_drewN ?_ _ | refine blk_drew ?_ | refine blk_alloc ?_ _)); exact BK103.out) hb); have n1_ := Aside0.mk (below_step (by repeat (first | (with_reducible first | exact HB.out | apply below_alloc | apply pw_below_drewN | apply below_drew1 | refine below_set ?_ GE103.out) | exact HB.out)) hb); clear BK103; clear HB; have BK103 := n0_; have HB := n1_; clear n0_ n1_; (try clear hb); (try clear hb2); (try clear hk); (try clear hi); have hcz13_0 : w12.cell? ⟨gb103, 0, none⟩ = some (.slice A0_0 l0_0.length c0_0) := (blk_cell BK103.out 0).trans rfl; have hcz13_1 : w12.cell? ⟨gb103, 1, none⟩ = some (.int .i64 a0_1) := (blk_cell BK103.out 1).trans rfl; have hcz13_2 : w12.cell? ⟨gb103, 2, none⟩ = some (.slice A0_2 l0_2.length c0_2) := (blk_cell BK103.out 2).trans rfl; have hcz13_3 : w12.cell? ⟨gb103, 3, none⟩ = some (.int .i64 a0_3) := (blk_cell BK103.out 3).trans rfl; have hcz13_4 : w12.cell? ⟨gb103, 4, none⟩ = some (.slice A0_4 l0_4.length c0_4) := (blk_cell BK103.out 4).trans rfl; have hcz13_5 : w12.cell? ⟨gb103, 5, none⟩ = some (.int .i64 a0_5) := (blk_cell BK103.out 5).trans rfl; have hfz13_0 := blk_frozen BK103.out 0; have hfz13_1 := blk_frozen BK103.out 1; have hfz13_2 := blk_frozen BK103.out 2; have hfz13_3 := blk_frozen BK103.out 3; have hfz13_4 := blk_frozen BK103.out 4; have hfz13_5 := blk_frozen BK103.out 5) | ((with_reducible refine gate_callee (f := 57) rfl ?_); refine goesL_ (some 14) rfl rfl Try.func57 (by kernel_rfl) rfl #[.agg #[.slice A0_2 l0_2.length c0_2, .int .i64 a0_3], .int .i64 t104] rfl (by (try simp only [List.map_toArray, List.map_cons, List.map_nil]); first | done | rfl | (simp only [List.length_drop, List.length_take]; rfl)) ?_; (with_reducible refine (laws_szFile.calls _ _ l0_2 a0_3 t104 t105 _ ?side1 ?side2 A8.out).mono ?_); (case side1 => repeat (first | exact (Kd.C_below HR0_2.out HB.out) | (with_reducible refine Kd.C_alloc ?_ _) | (with_reducible refine Kd.C_drewN ?_ _) | (with_reducible refine Kd.C_drew ?_))); (case side2 => exact HC0_2.out); rintro e w14 ⟨rfl, hb⟩; refine ⟨_, rfl, ?_⟩; have n0_ := Aside0.mk (blk_below (g := gb103) (o := .cells #[.slice A0_0 l0_0.length c0_0, .int .i64 a0_1, .slice A0_2 l0_2.length c0_2, .int .i64 a0_3, .slice A0_4 l0_4.length c0_4, .int .i64 a0_5] 26 (0, 0)) (by (with_reducible repeat (first | refine blk_drewN ?_ _ | refine blk_drew ?_ | refine blk_alloc ?_ _)); exact BK103.out) hb); have n1_ := Aside0.mk (below_step (by repeat (first | (with_reducible first | exact HB.out | apply below_alloc | apply pw_below_drewN | apply below_drew1 | refine below_set ?_ GE103.out) | exact HB.out)) hb); clear BK103; clear HB; have BK103 := n0_; have HB := n1_; clear n0_ n1_; (try clear hb); (try clear hb2); (try clear hk); (try clear hi)))
      go_ret
      exact ⟨by first | rfl | (simp [errW_none, errW_some] <;> rfl) | (simp [*, errW_none, errW_some] <;> rfl), by repeat (first | (with_reducible first | exact HB.out | apply below_alloc | apply pw_below_drewN | apply below_drew1 | refine below_set ?_ GE103.out) | exact HB.out)⟩
    · rw [if_neg c9] at H
      have c9b0 : decide (t105 < 0) = false := decide_eq_false c9
      clear c9
      replace H := Option.bind_eq_some_iff.mp H
      obtain ⟨t106, A150, H⟩ := H
      replace H : (if t106 < 0 then (some (-1)) else (some t106)) = some r := H
      have A15 := Aside0.mk A150
      clear A150
      by_cases c16 : t106 < 0
      · rw [if_pos c16] at H
        have c16b0 : decide (t106 < 0) = true := decide_eq_true c16
        clear c16
        obtain rfl := Option.some.inj H
        go_enter Try.func15, Try.ntmps15
        go_wp2_with (first | ((with_reducible refine gate_dst (N := 2) rfl ?_); refine box_event ?hg (N := 2) ?hd (cs := #[.slice A0_0 l0_0.length c0_0, .int .i64 a0_1, .slice A0_2 l0_2.length c0_2, .int .i64 a0_3, .slice A0_4 l0_4.length c0_4, .int .i64 a0_5]) (t := 26) ?hr ?_; (case hd => rfl); (case hg => rfl); (case hr => first | (go_simp; done) | (go_simp; rfl)); intro gb103 hg w17 hbox hb; have n0_ := Aside0.mk (below_step (by repeat (first | (with_reducible first | exact HB.out | apply below_alloc | apply pw_below_drewN | apply below_drew1) | exact HB.out)) hb); have n1_ := Aside0.mk (hbox); have n2_ := Aside0.mk ((by rw [hg]; exact (below_size (by repeat (first | (with_reducible first | exact HB.out | apply below_alloc | apply pw_below_drewN | apply below_drew1) | exact HB.out))) : w.heap.size ≤ gb103)); have n3_ := Aside0.mk ((by rw [hg]; exact (below_size (by repeat (first | (with_reducible first | exact HB.out | apply below_alloc | apply pw_below_drewN | apply below_drew1) | exact HB.out))) : w.heap.size ≤ gb103)); clear HB; have HB := n0_; have BK103 := n1_; have GW103 := n2_; have GE103 := n3_; clear n0_ n1_ n2_ n3_; clear hb hbox hg; have hcz18_0 : w17.cell? ⟨gb103, 0, none⟩ = some (.slice A0_0 l0_0.length c0_0) := (blk_cell BK103.out 0).trans rfl; have hcz18_1 : w17.cell? ⟨gb103, 1, none⟩ = some (.int .i64 a0_1) := (blk_cell BK103.out 1).trans rfl; have hcz18_2 : w17.cell? ⟨gb103, 2, none⟩ = some (.slice A0_2 l0_2.length c0_2) := (blk_cell BK103.out 2).trans rfl; have hcz18_3 : w17.cell? ⟨gb103, 3, none⟩ = some (.int .i64 a0_3) := (blk_cell BK103.out 3).trans rfl; have hcz18_4 : w17.cell? ⟨gb103, 4, none⟩ = some (.slice A0_4 l0_4.length c0_4) := (blk_cell BK103.out 4).trans rfl; have hcz18_5 : w17.cell? ⟨gb103, 5, none⟩ = some (.int .i64 a0_5) := (blk_cell BK103.out 5).trans rfl; have hfz18_0 := blk_frozen BK103.out 0; have hfz18_1 := blk_frozen BK103.out 1; have hfz18_2 := blk_frozen BK103.out 2; have hfz18_3 := blk_frozen BK103.out 3; have hfz18_4 := blk_frozen BK103.out 4; have hfz18_5 := blk_frozen BK103.out 5) | ((with_reducible refine gate_callee (f := 57) rfl ?_); refine goesL_ (some 8) rfl rfl Try.func57 (by kernel_rfl) rfl #[.agg #[.slice A0_0 l0_0.length c0_0, .int .i64 a0_1], .int .i64 a1] rfl (by (try simp only [List.map_toArray, List.map_cons, List.map_nil]); first | done | rfl | (simp only [List.length_drop, List.length_take]; rfl)) ?_; (with_reducible refine (laws_szFile.calls _ _ l0_0 a0_1 a1 t104 _ ?side1 ?side2 A3.out).mono ?_); (case side1 => repeat (first | exact (Kd.C_below HR0_0.out HB.out) | (with_reducible refine Kd.C_alloc ?_ _) | (with_reducible refine Kd.C_drewN ?_ _) | (with_reducible refine Kd.C_drew ?_))); (case side2 => exact HC0_0.out); rintro e w19 ⟨rfl, hb⟩; refine ⟨_, rfl, ?_⟩; have n0_ := Aside0.mk (blk_below (g := gb103) (o := .cells #[.slice A0_0 l0_0.length c0_0, .int .i64 a0_1, .slice A0_2 l0_2.length c0_2, .int .i64 a0_3, .slice A0_4 l0_4.length c0_4, .int .i64 a0_5] 26 (0, 0)) (by (with_reducible repeat (first | refine blk_drewN ?_ _ | refine blk_drew ?_ | refine blk_alloc ?_ _)); exact BK103.out) hb); have n1_ := Aside0.mk (below_step (by repeat (first | (with_reducible first | exact HB.out | apply below_alloc | apply pw_below_drewN | apply below_drew1 | refine below_set ?_ GE103.out) | exact HB.out)) hb); clear BK103; clear HB; have BK103 := n0_; have HB := n1_; clear n0_ n1_; (try clear hb); (try clear hb2); (try clear hk); (try clear hi); have hcz20_0 : w19.cell? ⟨gb103, 0, none⟩ = some (.slice A0_0 l0_0.length c0_0) := (blk_cell BK103.out 0).trans rfl; have hcz20_1 : w19.cell? ⟨gb103, 1, none⟩ = some (.int .i64 a0_1) := (blk_cell BK103.out 1).trans rfl; have hcz20_2 : w19.cell? ⟨gb103, 2, none⟩ = some (.slice A0_2 l0_2.length c0_2) := (blk_cell BK103.out 2).trans rfl; have hcz20_3 : w19.cell? ⟨gb103, 3, none⟩ = some (.int .i64 a0_3) := (blk_cell BK103.out 3).trans rfl; have hcz20_4 : w19.cell? ⟨gb103, 4, none⟩ = some (.slice A0_4 l0_4.length c0_4) := (blk_cell BK103.out 4).trans rfl; have hcz20_5 : w19.cell? ⟨gb103, 5, none⟩ = some (.int .i64 a0_5) := (blk_cell BK103.out 5).trans rfl; have hfz20_0 := blk_frozen BK103.out 0; have hfz20_1 := blk_frozen BK103.out 1; have hfz20_2 := blk_frozen BK103.out 2; have hfz20_3 := blk_frozen BK103.out 3; have hfz20_4 := blk_frozen BK103.out 4; have hfz20_5 := blk_frozen BK103.out 5) | ((with_reducible refine gate_callee (f := 57) rfl ?_); refine goesL_ (some 14) rfl rfl Try.func57 (by kernel_rfl) rfl #[.agg #[.slice A0_2 l0_2.length c0_2, .int .i64 a0_3], .int .i64 t104] rfl (by (try simp only [List.map_toArray, List.map_cons, List.map_nil]); first | done | rfl | (simp only [List.length_drop, List.length_take]; rfl)) ?_; (with_reducible refine (laws_szFile.calls _ _ l0_2 a0_3 t104 t105 _ ?side1 ?side2 A8.out).mono ?_); (case side1 => repeat (first | exact (Kd.C_below HR0_2.out HB.out) | (with_reducible refine Kd.C_alloc ?_ _) | (with_reducible refine Kd.C_drewN ?_ _) | (with_reducible refine Kd.C_drew ?_))); (case side2 => exact HC0_2.out); rintro e w21 ⟨rfl, hb⟩; refine ⟨_, rfl, ?_⟩; have n0_ := Aside0.mk (blk_below (g := gb103) (o := .cells #[.slice A0_0 l0_0.length c0_0, .int .i64 a0_1, .slice A0_2 l0_2.length c0_2, .int .i64 a0_3, .slice A0_4 l0_4.length c0_4, .int .i64 a0_5] 26 (0, 0)) (by (with_reducible repeat (first | refine blk_drewN ?_ _ | refine blk_drew ?_ | refine blk_alloc ?_ _)); exact BK103.out) hb); have n1_ := Aside0.mk (below_step (by repeat (first | (with_reducible first | exact HB.out | apply below_alloc | apply pw_below_drewN | apply below_drew1 | refine below_set ?_ GE103.out) | exact HB.out)) hb); clear BK103; clear HB; have BK103 := n0_; have HB := n1_; clear n0_ n1_; (try clear hb); (try clear hb2); (try clear hk); (try clear hi); have hcz22_0 : w21.cell? ⟨gb103, 0, none⟩ = some (.slice A0_0 l0_0.length c0_0) := (blk_cell BK103.out 0).trans rfl; have hcz22_1 : w21.cell? ⟨gb103, 1, none⟩ = some (.int .i64 a0_1) := (blk_cell BK103.out 1).trans rfl; have hcz22_2 : w21.cell? ⟨gb103, 2, none⟩ = some (.slice A0_2 l0_2.length c0_2) := (blk_cell BK103.out 2).trans rfl; have hcz22_3 : w21.cell? ⟨gb103, 3, none⟩ = some (.int .i64 a0_3) := (blk_cell BK103.out 3).trans rfl; have hcz22_4 : w21.cell? ⟨gb103, 4, none⟩ = some (.slice A0_4 l0_4.length c0_4) := (blk_cell BK103.out 4).trans rfl; have hcz22_5 : w21.cell? ⟨gb103, 5, none⟩ = some (.int .i64 a0_5) := (blk_cell BK103.out 5).trans rfl; have hfz22_0 := blk_frozen BK103.out 0; have hfz22_1 := blk_frozen BK103.out 1; have hfz22_2 := blk_frozen BK103.out 2; have hfz22_3 := blk_frozen BK103.out 3; have hfz22_4 := blk_frozen BK103.out 4; have hfz22_5 := blk_frozen BK103.out 5) | ((with_reducible refine gate_callee (f := 57) rfl ?_); refine goesL_ (some 20) rfl rfl Try.func57 (by kernel_rfl) rfl #[.agg #[.slice A0_4 l0_4.length c0_4, .int .i64 a0_5], .int .i64 t105] rfl (by (try simp only [List.map_toArray, List.map_cons, List.map_nil]); first | done | rfl | (simp only [List.length_drop, List.length_take]; rfl)) ?_; (with_reducible refine (laws_szFile.calls _ _ l0_4 a0_5 t105 t106 _ ?side1 ?side2 A15.out).mono ?_); (case side1 => repeat (first | exact (Kd.C_below HR0_4.out HB.out) | (with_reducible refine Kd.C_alloc ?_ _) | (with_reducible refine Kd.C_drewN ?_ _) | (with_reducible refine Kd.C_drew ?_))); (case side2 => exact HC0_4.out); rintro e w23 ⟨rfl, hb⟩; refine ⟨_, rfl, ?_⟩; have n0_ := Aside0.mk (blk_below (g := gb103) (o := .cells #[.slice A0_0 l0_0.length c0_0, .int .i64 a0_1, .slice A0_2 l0_2.length c0_2, .int .i64 a0_3, .slice A0_4 l0_4.length c0_4, .int .i64 a0_5] 26 (0, 0)) (by (with_reducible repeat (first | refine blk_drewN ?_ _ | refine blk_drew ?_ | refine blk_alloc ?_ _)); exact BK103.out) hb); have n1_ := Aside0.mk (below_step (by repeat (first | (with_reducible first | exact HB.out | apply below_alloc | apply pw_below_drewN | apply below_drew1 | refine below_set ?_ GE103.out) | exact HB.out)) hb); clear BK103; clear HB; have BK103 := n0_; have HB := n1_; clear n0_ n1_; (try clear hb); (try clear hb2); (try clear hk); (try clear hi)))
        go_ret
        exact ⟨by first | rfl | (simp [errW_none, errW_some] <;> rfl) | (simp [*, errW_none, errW_some] <;> rfl), by repeat (first | (with_reducible first | exact HB.out | apply below_alloc | apply pw_below_drewN | apply below_drew1 | refine below_set ?_ GE103.out) | exact HB.out)⟩
      · rw [if_neg c16] at H
        have c16b0 : decide (t106 < 0) = false := decide_eq_false c16
        clear c16
        obtain rfl := Option.some.inj H
        go_enter Try.func15, Try.ntmps15
        go_wp2_with (first | ((with_reducible refine gate_dst (N := 2) rfl ?_); refine box_event ?hg (N := 2) ?hd (cs := #[.slice A0_0 l0_0.length c0_0, .int .i64 a0_1, .slice A0_2 l0_2.length c0_2, .int .i64 a0_3, .slice A0_4 l0_4.length c0_4, .int .i64 a0_5]) (t := 26) ?hr ?_; (case hd => rfl); (case hg => rfl); (case hr => first | (go_simp; done) | (go_simp; rfl)); intro gb103 hg w24 hbox hb; have n0_ := Aside0.mk (below_step (by repeat (first | (with_reducible first | exact HB.out | apply below_alloc | apply pw_below_drewN | apply below_drew1) | exact HB.out)) hb); have n1_ := Aside0.mk (hbox); have n2_ := Aside0.mk ((by rw [hg]; exact (below_size (by repeat (first | (with_reducible first | exact HB.out | apply below_alloc | apply pw_below_drewN | apply below_drew1) | exact HB.out))) : w.heap.size ≤ gb103)); have n3_ := Aside0.mk ((by rw [hg]; exact (below_size (by repeat (first | (with_reducible first | exact HB.out | apply below_alloc | apply pw_below_drewN | apply below_drew1) | exact HB.out))) : w.heap.size ≤ gb103)); clear HB; have HB := n0_; have BK103 := n1_; have GW103 := n2_; have GE103 := n3_; clear n0_ n1_ n2_ n3_; clear hb hbox hg; have hcz25_0 : w24.cell? ⟨gb103, 0, none⟩ = some (.slice A0_0 l0_0.length c0_0) := (blk_cell BK103.out 0).trans rfl; have hcz25_1 : w24.cell? ⟨gb103, 1, none⟩ = some (.int .i64 a0_1) := (blk_cell BK103.out 1).trans rfl; have hcz25_2 : w24.cell? ⟨gb103, 2, none⟩ = some (.slice A0_2 l0_2.length c0_2) := (blk_cell BK103.out 2).trans rfl; have hcz25_3 : w24.cell? ⟨gb103, 3, none⟩ = some (.int .i64 a0_3) := (blk_cell BK103.out 3).trans rfl; have hcz25_4 : w24.cell? ⟨gb103, 4, none⟩ = some (.slice A0_4 l0_4.length c0_4) := (blk_cell BK103.out 4).trans rfl; have hcz25_5 : w24.cell? ⟨gb103, 5, none⟩ = some (.int .i64 a0_5) := (blk_cell BK103.out 5).trans rfl; have hfz25_0 := blk_frozen BK103.out 0; have hfz25_1 := blk_frozen BK103.out 1; have hfz25_2 := blk_frozen BK103.out 2; have hfz25_3 := blk_frozen BK103.out 3; have hfz25_4 := blk_frozen BK103.out 4; have hfz25_5 := blk_frozen BK103.out 5) | ((with_reducible refine gate_callee (f := 57) rfl ?_); refine goesL_ (some 8) rfl rfl Try.func57 (by kernel_rfl) rfl #[.agg #[.slice A0_0 l0_0.length c0_0, .int .i64 a0_1], .int .i64 a1] rfl (by (try simp only [List.map_toArray, List.map_cons, List.map_nil]); first | done | rfl | (simp only [List.length_drop, List.length_take]; rfl)) ?_; (with_reducible refine (laws_szFile.calls _ _ l0_0 a0_1 a1 t104 _ ?side1 ?side2 A3.out).mono ?_); (case side1 => repeat (first | exact (Kd.C_below HR0_0.out HB.out) | (with_reducible refine Kd.C_alloc ?_ _) | (with_reducible refine Kd.C_drewN ?_ _) | (with_reducible refine Kd.C_drew ?_))); (case side2 => exact HC0_0.out); rintro e w26 ⟨rfl, hb⟩; refine ⟨_, rfl, ?_⟩; have n0_ := Aside0.mk (blk_below (g := gb103) (o := .cells #[.slice A0_0 l0_0.length c0_0, .int .i64 a0_1, .slice A0_2 l0_2.length c0_2, .int .i64 a0_3, .slice A0_4 l0_4.length c0_4, .int .i64 a0_5] 26 (0, 0)) (by (with_reducible repeat (first | refine blk_drewN ?_ _ | refine blk_drew ?_ | refine blk_alloc ?_ _)); exact BK103.out) hb); have n1_ := Aside0.mk (below_step (by repeat (first | (with_reducible first | exact HB.out | apply below_alloc | apply pw_below_drewN | apply below_drew1 | refine below_set ?_ GE103.out) | exact HB.out)) hb); clear BK103; clear HB; have BK103 := n0_; have HB := n1_; clear n0_ n1_; (try clear hb); (try clear hb2); (try clear hk); (try clear hi); have hcz27_0 : w26.cell? ⟨gb103, 0, none⟩ = some (.slice A0_0 l0_0.length c0_0) := (blk_cell BK103.out 0).trans rfl; have hcz27_1 : w26.cell? ⟨gb103, 1, none⟩ = some (.int .i64 a0_1) := (blk_cell BK103.out 1).trans rfl; have hcz27_2 : w26.cell? ⟨gb103, 2, none⟩ = some (.slice A0_2 l0_2.length c0_2) := (blk_cell BK103.out 2).trans rfl; have hcz27_3 : w26.cell? ⟨gb103, 3, none⟩ = some (.int .i64 a0_3) := (blk_cell BK103.out 3).trans rfl; have hcz27_4 : w26.cell? ⟨gb103, 4, none⟩ = some (.slice A0_4 l0_4.length c0_4) := (blk_cell BK103.out 4).trans rfl; have hcz27_5 : w26.cell? ⟨gb103, 5, none⟩ = some (.int .i64 a0_5) := (blk_cell BK103.out 5).trans rfl; have hfz27_0 := blk_frozen BK103.out 0; have hfz27_1 := blk_frozen BK103.out 1; have hfz27_2 := blk_frozen BK103.out 2; have hfz27_3 := blk_frozen BK103.out 3; have hfz27_4 := blk_frozen BK103.out 4; have hfz27_5 := blk_frozen BK103.out 5) | ((with_reducible refine gate_callee (f := 57) rfl ?_); refine goesL_ (some 14) rfl rfl Try.func57 (by kernel_rfl) rfl #[.agg #[.slice A0_2 l0_2.length c0_2, .int .i64 a0_3], .int .i64 t104] rfl (by (try simp only [List.map_toArray, List.map_cons, List.map_nil]); first | done | rfl | (simp only [List.length_drop, List.length_take]; rfl)) ?_; (with_reducible refine (laws_szFile.calls _ _ l0_2 a0_3 t104 t105 _ ?side1 ?side2 A8.out).mono ?_); (case side1 => repeat (first | exact (Kd.C_below HR0_2.out HB.out) | (with_reducible refine Kd.C_alloc ?_ _) | (with_reducible refine Kd.C_drewN ?_ _) | (with_reducible refine Kd.C_drew ?_))); (case side2 => exact HC0_2.out); rintro e w28 ⟨rfl, hb⟩; refine ⟨_, rfl, ?_⟩; have n0_ := Aside0.mk (blk_below (g := gb103) (o := .cells #[.slice A0_0 l0_0.length c0_0, .int .i64 a0_1, .slice A0_2 l0_2.length c0_2, .int .i64 a0_3, .slice A0_4 l0_4.length c0_4, .int .i64 a0_5] 26 (0, 0)) (by (with_reducible repeat (first | refine blk_drewN ?_ _ | refine blk_drew ?_ | refine blk_alloc ?_ _)); exact BK103.out) hb); have n1_ := Aside0.mk (below_step (by repeat (first | (with_reducible first | exact HB.out | apply below_alloc | apply pw_below_drewN | apply below_drew1 | refine below_set ?_ GE103.out) | exact HB.out)) hb); clear BK103; clear HB; have BK103 := n0_; have HB := n1_; clear n0_ n1_; (try clear hb); (try clear hb2); (try clear hk); (try clear hi); have hcz29_0 : w28.cell? ⟨gb103, 0, none⟩ = some (.slice A0_0 l0_0.length c0_0) := (blk_cell BK103.out 0).trans rfl; have hcz29_1 : w28.cell? ⟨gb103, 1, none⟩ = some (.int .i64 a0_1) := (blk_cell BK103.out 1).trans rfl; have hcz29_2 : w28.cell? ⟨gb103, 2, none⟩ = some (.slice A0_2 l0_2.length c0_2) := (blk_cell BK103.out 2).trans rfl; have hcz29_3 : w28.cell? ⟨gb103, 3, none⟩ = some (.int .i64 a0_3) := (blk_cell BK103.out 3).trans rfl; have hcz29_4 : w28.cell? ⟨gb103, 4, none⟩ = some (.slice A0_4 l0_4.length c0_4) := (blk_cell BK103.out 4).trans rfl; have hcz29_5 : w28.cell? ⟨gb103, 5, none⟩ = some (.int .i64 a0_5) := (blk_cell BK103.out 5).trans rfl; have hfz29_0 := blk_frozen BK103.out 0; have hfz29_1 := blk_frozen BK103.out 1; have hfz29_2 := blk_frozen BK103.out 2; have hfz29_3 := blk_frozen BK103.out 3; have hfz29_4 := blk_frozen BK103.out 4; have hfz29_5 := blk_frozen BK103.out 5) | ((with_reducible refine gate_callee (f := 57) rfl ?_); refine goesL_ (some 20) rfl rfl Try.func57 (by kernel_rfl) rfl #[.agg #[.slice A0_4 l0_4.length c0_4, .int .i64 a0_5], .int .i64 t105] rfl (by (try simp only [List.map_toArray, List.map_cons, List.map_nil]); first | done | rfl | (simp only [List.length_drop, List.length_take]; rfl)) ?_; (with_reducible refine (laws_szFile.calls _ _ l0_4 a0_5 t105 t106 _ ?side1 ?side2 A15.out).mono ?_); (case side1 => repeat (first | exact (Kd.C_below HR0_4.out HB.out) | (with_reducible refine Kd.C_alloc ?_ _) | (with_reducible refine Kd.C_drewN ?_ _) | (with_reducible refine Kd.C_drew ?_))); (case side2 => exact HC0_4.out); rintro e w30 ⟨rfl, hb⟩; refine ⟨_, rfl, ?_⟩; have n0_ := Aside0.mk (blk_below (g := gb103) (o := .cells #[.slice A0_0 l0_0.length c0_0, .int .i64 a0_1, .slice A0_2 l0_2.length c0_2, .int .i64 a0_3, .slice A0_4 l0_4.length c0_4, .int .i64 a0_5] 26 (0, 0)) (by (with_reducible repeat (first | refine blk_drewN ?_ _ | refine blk_drew ?_ | refine blk_alloc ?_ _)); exact BK103.out) hb); have n1_ := Aside0.mk (below_step (by repeat (first | (with_reducible first | exact HB.out | apply below_alloc | apply pw_below_drewN | apply below_drew1 | refine below_set ?_ GE103.out) | exact HB.out)) hb); clear BK103; clear HB; have BK103 := n0_; have HB := n1_; clear n0_ n1_; (try clear hb); (try clear hb2); (try clear hk); (try clear hi)))
        go_ret
        exact ⟨by first | rfl | (simp [errW_none, errW_some] <;> rfl) | (simp [*, errW_none, errW_some] <;> rfl), by repeat (first | (with_reducible first | exact HB.out | apply below_alloc | apply pw_below_drewN | apply below_drew1 | refine below_set ?_ GE103.out) | exact HB.out)⟩

end Go.Proofs.Ytbapokpkgonjkaa.Print

/- Plain laws of the statements' own helpers on disks: toX copies, eqX of a thing with itself, heldX behind markX, szX. -/
namespace Go.Proofs.Ytbapokpkgonjkaa.Print
open Go.RowKit Go.Proofs.YtbapokpkgonjkaaW.PrintWords Go.Proofs.YtbapokpkgonjkaaW.PrintLast Go.Proofs.YtbapokpkgonjkaaW.PrintMore

/-- what szDisk leaves -/
def leftB (n : Nat) (left : Int) : Int := if left - n < 0 then -1 else left - n
theorem szFile_f (l : List Int) (a left : Int) (h0 : left ≤ 1048576) (h1 : -1048576 ≤ left) (hl : l.length ≤ 140737488351232) : laws_szFile.f l a left = some (leftB l.length left) := by
  unfold laws_szFile.f
  rw [szByteS_f l left h0 h1 hl]
  simp only [Option.bind_some]
  unfold leftB
  by_cases c : left - (l.length : Int) < 0
  · rw [if_pos c, if_pos (by decide)]
  · rw [if_neg c, if_neg c]
/-- whether a disk is small enough, and what is left -/
def leftD (n0 n2 n4 : Nat) (left : Int) : Int := if leftB n0 left < 0 then -1 else if leftB n2 (leftB n0 left) < 0 then -1 else if leftB n4 (leftB n2 (leftB n0 left)) < 0 then -1 else leftB n4 (leftB n2 (leftB n0 left))
theorem leftB_range (n : Nat) (left : Int) (h0 : left ≤ 1048576) (h1 : 0 ≤ left) : leftB n left ≤ 1048576 ∧ -1 ≤ leftB n left := by unfold leftB; split <;> omega
theorem szDisk_f (l0 l2 l4 : List Int) (a1 a3 a5 : Int) (left : Int) (h0 : left ≤ 1048576) (h1 : 0 ≤ left) (g0 : l0.length ≤ 140737488351232) (g2 : l2.length ≤ 140737488351232) (g4 : l4.length ≤ 140737488351232) : laws_szDisk.f l0 a1 l2 a3 l4 a5 left = some (leftD l0.length l2.length l4.length left) := by
  unfold laws_szDisk.f leftD
  have r0 := leftB_range l0.length left h0 h1
  rw [szFile_f l0 a1 left h0 (by omega) g0]
  simp only [Option.bind_some]
  by_cases c : leftB l0.length left < 0
  · rw [if_pos c, if_pos c]
  · rw [if_neg c, if_neg c, szFile_f l2 a3 _ (by omega) (by omega) g2]
    simp only [Option.bind_some]
    have r2 := leftB_range l2.length _ r0.1 (by omega)
    by_cases c2 : leftB l2.length (leftB l0.length left) < 0
    · rw [if_pos c2, if_pos c2]
    · rw [if_neg c2, if_neg c2, szFile_f l4 a5 _ (by omega) (by omega) g4]
      simp only [Option.bind_some]
      split <;> rfl
theorem leftD_ok {n0 n2 n4 : Nat} (h : ¬ leftD n0 n2 n4 1048576 < 0) : n0 + n2 + n4 ≤ 1048576 := by
  unfold leftD leftB at h
  repeat' split at h
  all_goals omega
theorem toDisk_f (l0 l2 l4 : List Int) (a1 a3 a5 : Int) (k : Nat) (h : l0.length + l2.length + l4.length ≤ 1048576) (hk : 1048576 < k) : laws_toDisk.f k l0 a1 l2 a3 l4 a5 = some (l0, a1, l2, a3, l4, a5) := by
  unfold laws_toDisk.f laws_toFile.f
  rw [toByteS_f l0 (by omega) k (by omega), toByteS_f l2 (by omega) k (by omega), toByteS_f l4 (by omega) k (by omega)]
  rfl
theorem eqDisk_self (l0 l2 l4 : List Int) (a1 a3 a5 : Int) (k : Nat) (h0 : l0.length ≤ 2097152) (h2 : l2.length ≤ 2097152) (h4 : l4.length ≤ 2097152) (hk : 2097152 < k) : laws_eqDisk.f k l0 a1 l2 a3 l4 a5 l0 a1 l2 a3 l4 a5 = some true := by
  unfold laws_eqDisk.f laws_eqFile.f
  rw [eqByteS_self l0 (by omega) k (by omega), eqByteS_self l2 (by omega) k (by omega), eqByteS_self l4 (by omega) k (by omega)]
  simp
theorem markDisk_f (l0 l2 l4 : List Int) (a1 a3 a5 : Int) (m k : Nat) (h0 : l0.length ≤ 2097152) (h2 : l2.length ≤ 2097152) (h4 : l4.length ≤ 2097152) (hm : m ≤ 100000000) (hk : 2097152 < k) :
    laws_markDisk.f k l0 a1 l2 a3 l4 a5 (m : Int) = some (((m + l0.length + l2.length + l4.length : Nat) : Int), marksB l0.length m, marksB l2.length (m + l0.length), marksB l4.length (m + l0.length + l2.length)) := by
  unfold laws_markDisk.f laws_markFile.f
  rw [markByteS_f l0 m (by omega) k (by omega)]
  simp only [Option.bind_some]
  rw [markByteS_f l2 (m + l0.length) (by omega) k (by omega)]
  simp only [Option.bind_some]
  rw [markByteS_f l4 (m + l0.length + l2.length) (by omega) k (by omega)]
  rfl
theorem heldDisk_f (n0 n2 n4 : Nat) (a1 a3 a5 : Int) (m k : Nat) (h0 : n0 ≤ 2097152) (h2 : n2 ≤ 2097152) (h4 : n4 ≤ 2097152) (hm : m ≤ 100000000) (hk : 2097152 < k) :
    laws_heldDisk.f k (marksB n0 m) a1 (marksB n2 (m + n0)) a3 (marksB n4 (m + n0 + n2)) a5 (m : Int) = some (((m + n0 + n2 + n4 : Nat) : Int)) := by
  unfold laws_heldDisk.f laws_heldFile.f
  rw [heldByteS_f n0 m (by omega) k (by omega)]
  simp only [Option.bind_some]
  rw [if_neg (by omega)]
  simp only [Option.bind_some]
  rw [if_neg (by omega), heldByteS_f n2 (m + n0) (by omega) k (by omega)]
  simp only [Option.bind_some]
  rw [if_neg (by omega)]
  simp only [Option.bind_some]
  rw [if_neg (by omega), heldByteS_f n4 (m + n0 + n2) (by omega) k (by omega)]
  simp only [Option.bind_some]
  rw [if_neg (by omega)]
  simp only [Option.bind_some]
  rw [if_neg (by omega)]

end Go.Proofs.Ytbapokpkgonjkaa.Print

/- A disk that a call owns, as one fact; the statements' helpers on disks, told by it. -/
namespace Go.Proofs.Ytbapokpkgonjkaa.Print
open Go.RowKit Go.Proofs.YtbapokpkgonjkaaW.PrintWords Go.Proofs.YtbapokpkgonjkaaW.PrintLast Go.Proofs.YtbapokpkgonjkaaW.PrintMore
set_option linter.unusedVariables false
set_option linter.unusedSimpArgs false

def OB (A : Option Addr) (n c : Nat) (k : Nat) : Prop := some k = (Value.slice A n c).ownBlock
/-- A row of bytes in a block from lo to hi. -/
structure BK (w0 W : World) (lo hi : Nat) (A : Option Addr) (c : Nat) (l : List Int) : Prop where
  r : Kd.R (Kd.int .u8) 5 W w0.heap.size (fun k => OB A l.length c k) (.slice A l.length c) l
  b : ∀ k, OB A l.length c k → lo ≤ k ∧ k < hi
theorem BK.reads {w0 W : World} {lo hi : Nat} {A : Option Addr} {c : Nat} {l : List Int} (h : BK w0 W lo hi A c l) : Kd.C (Kd.int .u8) W A l.length l ∧ l.length ≤ c := ⟨(Kd.R_reads' h.r).2.2, (Kd.R_reads' h.r).2.1⟩
theorem BK.of {w0 w W : World} {ok : Nat → Prop} {A : Option Addr} {c : Nat} {l : List Int} (h : Kd.R (Kd.int .u8) 5 W w.heap.size ok (.slice A l.length c) l) (hB : Below w0.heap.size w0 w) : BK w0 W w.heap.size W.heap.size A c l :=
  ⟨Kd.R_tight rfl (Kd.R_lower h hB.size), fun k hk => ⟨Kd.R_base h k hk.symm, Kd.R_lt h k hk.symm⟩⟩
theorem BK.kept {w0 W W' : World} {lo hi : Nat} {A : Option Addr} {c : Nat} {l : List Int} {S : Nat → Prop} (h : BK w0 W lo hi A c l) (hk : Kept W W' S) (hS : ∀ k, lo ≤ k → k < hi → ¬ S k) : BK w0 W' lo hi A c l :=
  ⟨Kd.R_kept h.r hk (fun k ho => hS k (h.b k ho).1 (h.b k ho).2), h.b⟩
theorem BK.below {w0 W W' : World} {lo hi : Nat} {A : Option Addr} {c : Nat} {l : List Int} (h : BK w0 W lo hi A c l) (hb : Below W.heap.size W W') : BK w0 W' lo hi A c l := ⟨Kd.R_below h.r hb, h.b⟩
theorem kept_below {w W : World} {S : Nat → Prop} (h : Below w.heap.size w W) : Kept w W S := ⟨h.size, fun i hi _ => h.block i hi⟩

structure DK (w0 W : World) (lo hi : Nat) (A0 : Option Addr) (c0 : Nat) (l0 : List Int) (A2 : Option Addr) (c2 : Nat) (l2 : List Int) (A4 : Option Addr) (c4 : Nat) (l4 : List Int) : Prop where
  k0 : BK w0 W lo hi A0 c0 l0
  k2 : BK w0 W lo hi A2 c2 l2
  k4 : BK w0 W lo hi A4 c4 l4
  n02 : ∀ k, OB A0 l0.length c0 k → ¬ OB A2 l2.length c2 k
  n04 : ∀ k, OB A0 l0.length c0 k → ¬ OB A4 l4.length c4 k
  n24 : ∀ k, OB A2 l2.length c2 k → ¬ OB A4 l4.length c4 k
section
variable {w0 w W W' : World} {lo hi : Nat} {A0 A2 A4 : Option Addr} {c0 c2 c4 : Nat} {l0 l2 l4 : List Int}
theorem DK.of {v0 v2 v4 : Value} (h0 : Kd.R (Kd.int .u8) 5 W w.heap.size (fun k_ => some k_ ≠ (v2 : Value).ownBlock ∧ some k_ ≠ (v4 : Value).ownBlock) v0 l0) (h2 : Kd.R (Kd.int .u8) 5 W w.heap.size (fun k_ => some k_ ≠ (v0 : Value).ownBlock ∧ some k_ ≠ (v4 : Value).ownBlock) v2 l2) (h4 : Kd.R (Kd.int .u8) 5 W w.heap.size (fun k_ => some k_ ≠ (v0 : Value).ownBlock ∧ some k_ ≠ (v2 : Value).ownBlock) v4 l4) (hB : Below w0.heap.size w0 w) :
    ∃ A0 c0 A2 c2 A4 c4, v0 = .slice A0 l0.length c0 ∧ v2 = .slice A2 l2.length c2 ∧ v4 = .slice A4 l4.length c4 ∧ DK w0 W w.heap.size W.heap.size A0 c0 l0 A2 c2 l2 A4 c4 l4 := by
  obtain ⟨A0, c0, rfl⟩ := Kd.R_slice h0
  obtain ⟨A2, c2, rfl⟩ := Kd.R_slice h2
  obtain ⟨A4, c4, rfl⟩ := Kd.R_slice h4
  exact ⟨A0, c0, A2, c2, A4, c4, rfl, rfl, rfl, BK.of h0 hB, BK.of h2 hB, BK.of h4 hB, fun k hk => (h0.1 k hk.symm).1, fun k hk => (h0.1 k hk.symm).2, fun k hk => (h2.1 k hk.symm).2⟩
theorem DK.kept {S : Nat → Prop} (h : DK w0 W lo hi A0 c0 l0 A2 c2 l2 A4 c4 l4) (hk : Kept W W' S) (hS : ∀ k, lo ≤ k → k < hi → ¬ S k) : DK w0 W' lo hi A0 c0 l0 A2 c2 l2 A4 c4 l4 :=
  ⟨h.k0.kept hk hS, h.k2.kept hk hS, h.k4.kept hk hS, h.n02, h.n04, h.n24⟩
theorem DK.below (h : DK w0 W lo hi A0 c0 l0 A2 c2 l2 A4 c4 l4) (hb : Below W.heap.size W W') : DK w0 W' lo hi A0 c0 l0 A2 c2 l2 A4 c4 l4 :=
  ⟨h.k0.below hb, h.k2.below hb, h.k4.below hb, h.n02, h.n04, h.n24⟩
end

/-- toDisk, its answer as one fact. -/
theorem toDisk_dk (k : Nat) (w0 : World) (A0 : Option Addr) (c0 : Nat) (l0 : List Int) (a1 : Int) (A2 : Option Addr) (c2 : Nat) (l2 : List Int) (a3 : Int) (A4 : Option Addr) (c4 : Nat) (l4 : List Int) (a5 : Int) (w : World) (hB : Below w0.heap.size w0 w)
    (h0 : Kd.C (Kd.int .u8) w A0 l0.length l0) (hc0 : l0.length ≤ c0) (h2 : Kd.C (Kd.int .u8) w A2 l2.length l2) (hc2 : l2.length ≤ c2) (h4 : Kd.C (Kd.int .u8) w A4 l4.length l4) (hc4 : l4.length ≤ c4) (hl : l0.length + l2.length + l4.length ≤ 1048576) (hk : 1048576 < k) :
    Calls Try.prog 17 #[.agg #[.slice A0 l0.length c0, .int .i64 a1, .slice A2 l2.length c2, .int .i64 a3, .slice A4 l4.length c4, .int .i64 a5]] w fun e w' => ∃ B0 d0 B2 d2 B4 d4, e = .returned (.agg #[.slice B0 l0.length d0, .int .i64 a1, .slice B2 l2.length d2, .int .i64 a3, .slice B4 l4.length d4, .int .i64 a5]) ∧ DK w0 w' w.heap.size w'.heap.size B0 d0 l0 B2 d2 l2 B4 d4 l4 ∧ Below w.heap.size w w' := by
  refine (laws_toDisk.calls k A0 c0 l0 a1 A2 c2 l2 a3 A4 c4 l4 a5 l0 a1 l2 a3 l4 a5 w h0 hc0 h2 hc2 h4 hc4 (toDisk_f l0 l2 l4 a1 a3 a5 k hl hk)).mono ?_
  rintro e w' ⟨v0, v2, v4, rfl, r0, r2, r4, hb⟩
  obtain ⟨B0, d0, B2, d2, B4, d4, rfl, rfl, rfl, hd⟩ := DK.of r0 r2 r4 hB
  exact ⟨B0, d0, B2, d2, B4, d4, rfl, hd, hb⟩
/-- markDisk on a disk that is owned: it is written, all else stays. -/
theorem markDisk_dk (k m : Nat) (w0 : World) (lo hi : Nat) (A0 : Option Addr) (c0 : Nat) (l0 : List Int) (a1 : Int) (A2 : Option Addr) (c2 : Nat) (l2 : List Int) (a3 : Int) (A4 : Option Addr) (c4 : Nat) (l4 : List Int) (a5 : Int) (w : World) (hB : Below w0.heap.size w0 w) (hd : DK w0 w lo hi A0 c0 l0 A2 c2 l2 A4 c4 l4)
    (g0 : l0.length ≤ 2097152) (g2 : l2.length ≤ 2097152) (g4 : l4.length ≤ 2097152) (hm : m ≤ 100000000) (hk : 2097152 < k) (hhi : hi ≤ w.heap.size) :
    Calls Try.prog 41 #[.agg #[.slice A0 l0.length c0, .int .i64 a1, .slice A2 l2.length c2, .int .i64 a3, .slice A4 l4.length c4, .int .i64 a5], .int .i64 m] w fun e w' => e = .returned (.int .i64 ((m + l0.length + l2.length + l4.length : Nat) : Int)) ∧ DK w0 w' lo hi A0 c0 (marksB l0.length m) A2 c2 (marksB l2.length (m + l0.length)) A4 c4 (marksB l4.length (m + l0.length + l2.length)) ∧ Below w0.heap.size w0 w' ∧ Kept w w' (fun k => lo ≤ k ∧ k < hi) := by
  refine (laws_markDisk.calls k (OB A0 l0.length c0) _ l0 a1 (OB A2 l2.length c2) _ l2 a3 (OB A4 l4.length c4) _ l4 a5 m _ _ _ _ w0 w hB hd.k0.r (fun k h h' => hd.n02 k h h') (fun k h h' => hd.n04 k h h') hd.k2.r (fun k h h' => hd.n02 k h' h) (fun k h h' => hd.n24 k h h') hd.k4.r (fun k h h' => hd.n04 k h' h) (fun k h h' => hd.n24 k h' h) (markDisk_f l0 l2 l4 a1 a3 a5 m k g0 g2 g4 hm hk)).mono ?_
  rintro e w' ⟨rfl, r0, r2, r4, hb, hkp⟩
  have hS : ∀ k, (OB A0 l0.length c0 k ∨ OB A2 l2.length c2 k ∨ OB A4 l4.length c4 k) → lo ≤ k ∧ k < hi := fun k h => by
    rcases h with h | h | h
    · exact hd.k0.b k h
    · exact hd.k2.b k h
    · exact hd.k4.b k h
  refine ⟨rfl, ⟨⟨?_, ?_⟩, ⟨?_, ?_⟩, ⟨?_, ?_⟩, ?_, ?_, ?_⟩, hb, hkp.1, fun i hi hn => hkp.2 i hi (fun h => hn (hS i h))⟩
  all_goals simp only [marksB_length]
  · exact Kd.R_tight rfl r0
  · exact hd.k0.b
  · exact Kd.R_tight rfl r2
  · exact hd.k2.b
  · exact Kd.R_tight rfl r4
  · exact hd.k4.b
  · exact hd.n02
  · exact hd.n04
  · exact hd.n24
/-- eqDisk of two that are owned and equal. -/
theorem eqDisk_dk (k : Nat) (w0 : World) (lo hi lo' hi' : Nat) (A0 : Option Addr) (c0 : Nat) (l0 : List Int) (a1 : Int) (A2 : Option Addr) (c2 : Nat) (l2 : List Int) (a3 : Int) (A4 : Option Addr) (c4 : Nat) (l4 : List Int) (a5 : Int) (B0 : Option Addr) (d0 : Nat) (B2 : Option Addr) (d2 : Nat) (B4 : Option Addr) (d4 : Nat) (w : World)
    (hd : DK w0 w lo hi A0 c0 l0 A2 c2 l2 A4 c4 l4) (hd' : DK w0 w lo' hi' B0 d0 l0 B2 d2 l2 B4 d4 l4) (g0 : l0.length ≤ 2097152) (g2 : l2.length ≤ 2097152) (g4 : l4.length ≤ 2097152) (hk : 2097152 < k) :
    Calls Try.prog 19 #[.agg #[.slice A0 l0.length c0, .int .i64 a1, .slice A2 l2.length c2, .int .i64 a3, .slice A4 l4.length c4, .int .i64 a5], .agg #[.slice B0 l0.length d0, .int .i64 a1, .slice B2 l2.length d2, .int .i64 a3, .slice B4 l4.length d4, .int .i64 a5]] w fun e w' => e = .returned (.bool true) ∧ Below w.heap.size w w' :=
  laws_eqDisk.calls k A0 c0 l0 a1 A2 c2 l2 a3 A4 c4 l4 a5 B0 d0 l0 a1 B2 d2 l2 a3 B4 d4 l4 a5 true w hd.k0.reads.1 hd.k0.reads.2 hd.k2.reads.1 hd.k2.reads.2 hd.k4.reads.1 hd.k4.reads.2 hd'.k0.reads.1 hd'.k0.reads.2 hd'.k2.reads.1 hd'.k2.reads.2 hd'.k4.reads.1 hd'.k4.reads.2 (eqDisk_self l0 l2 l4 a1 a3 a5 k g0 g2 g4 hk)
/-- heldDisk of one that is marked. -/
theorem heldDisk_dk (k m : Nat) (w0 : World) (lo hi n0 n2 n4 : Nat) (A0 : Option Addr) (c0 : Nat) (a1 : Int) (A2 : Option Addr) (c2 : Nat) (a3 : Int) (A4 : Option Addr) (c4 : Nat) (a5 : Int) (w : World)
    (hd : DK w0 w lo hi A0 c0 (marksB n0 m) A2 c2 (marksB n2 (m + n0)) A4 c4 (marksB n4 (m + n0 + n2))) (g0 : n0 ≤ 2097152) (g2 : n2 ≤ 2097152) (g4 : n4 ≤ 2097152) (hm : m ≤ 100000000) (hk : 2097152 < k) :
    Calls Try.prog 42 #[.agg #[.slice A0 n0 c0, .int .i64 a1, .slice A2 n2 c2, .int .i64 a3, .slice A4 n4 c4, .int .i64 a5], .int .i64 m] w fun e w' => e = .returned (.int .i64 ((m + n0 + n2 + n4 : Nat) : Int)) ∧ Below w.heap.size w w' := by
  have h := laws_heldDisk.calls k A0 c0 (marksB n0 m) a1 A2 c2 (marksB n2 (m + n0)) a3 A4 c4 (marksB n4 (m + n0 + n2)) a5 m _ w hd.k0.reads.1 hd.k0.reads.2 hd.k2.reads.1 hd.k2.reads.2 hd.k4.reads.1 hd.k4.reads.2 (heldDisk_f n0 n2 n4 a1 a3 a5 m k g0 g2 g4 hm hk)
  simp only [marksB_length] at h
  exact h

end Go.Proofs.Ytbapokpkgonjkaa.Print

/- A row of bytes that a call owns, as one fact; the statements' helpers on rows of bytes, told by it. -/
namespace Go.Proofs.Ytbapokpkgonjkaa.Print
open Go.RowKit Go.Proofs.YtbapokpkgonjkaaW.PrintWords Go.Proofs.YtbapokpkgonjkaaW.PrintLast Go.Proofs.YtbapokpkgonjkaaW.PrintMore
set_option linter.unusedVariables false
set_option linter.unusedSimpArgs false
theorem toByteS_bk (k : Nat) (w0 : World) (A : Option Addr) (c : Nat) (l : List Int) (w : World) (hB : Below w0.heap.size w0 w) (h0 : Kd.C (Kd.int .u8) w A l.length l) (hc : l.length ≤ c) (hl : l.length ≤ 2097152) (hk : 2097152 < k) :
    Calls Try.prog 21 #[.slice A l.length c] w fun e w' => ∃ B d, e = .returned (.slice B l.length d) ∧ BK w0 w' w.heap.size w'.heap.size B d l ∧ Below w.heap.size w w' := by
  refine (laws_toByteS.calls k A c l l w h0 hc (toByteS_f l (by omega) k (by omega))).mono ?_
  rintro e w' ⟨v, rfl, hr, hb⟩
  obtain ⟨B, d, rfl⟩ := Kd.R_slice hr
  exact ⟨B, d, rfl, BK.of hr hB, hb⟩
theorem markByteS_bk (k m : Nat) (w0 : World) (lo hi : Nat) (A : Option Addr) (c : Nat) (l : List Int) (w : World) (hB : Below w0.heap.size w0 w) (hd : BK w0 w lo hi A c l) (hl : l.length ≤ 2097152) (hm : m ≤ 100000000) (hk : 2097152 < k) :
    Calls Try.prog 24 #[.slice A l.length c, .int .i64 m] w fun e w' => e = .returned (.int .i64 ((m + l.length : Nat) : Int)) ∧ BK w0 w' lo hi A c (marksB l.length m) ∧ Below w0.heap.size w0 w' ∧ Kept w w' (fun k => lo ≤ k ∧ k < hi) := by
  refine (laws_markByteS.calls k (OB A l.length c) _ l m _ _ w0 w hB hd.r (markByteS_f l m (by omega) k (by omega))).mono ?_
  rintro e w' ⟨rfl, hr, hb, hkp⟩
  refine ⟨rfl, ⟨?_, ?_⟩, hb, hkp.1, fun i hi hn => hkp.2 i hi (fun h => hn (hd.b i h))⟩
  · rw [marksB_length]
    exact Kd.R_tight rfl hr
  · rw [marksB_length]
    exact hd.b
theorem eqByteS_bk (k : Nat) (w0 w1 : World) (lo hi lo' hi' : Nat) (A : Option Addr) (c : Nat) (l : List Int) (B : Option Addr) (d : Nat) (w : World) (hd : BK w0 w lo hi A c l) (hd' : BK w1 w lo' hi' B d l) (hl : l.length ≤ 2097152) (hk : 2097152 < k) :
    Calls Try.prog 23 #[.slice A l.length c, .slice B l.length d] w fun e w' => e = .returned (.bool true) ∧ Below w.heap.size w w' := by
  refine (laws_eqByteS.calls k A c l B d l true w hd.reads.1 hd.reads.2 hd'.reads.1 hd'.reads.2 (eqByteS_self l (by omega) k (by omega))).mono ?_
  rintro e w' ⟨rfl, hb⟩
  exact ⟨rfl, hb.below⟩
theorem heldByteS_bk (k m n : Nat) (w0 : World) (lo hi : Nat) (A : Option Addr) (c : Nat) (w : World) (hd : BK w0 w lo hi A c (marksB n m)) (hl : n ≤ 2097152) (hm : m ≤ 100000000) (hk : 2097152 < k) :
    Calls Try.prog 25 #[.slice A n c, .int .i64 m] w fun e w' => e = .returned (.int .i64 ((m + n : Nat) : Int)) ∧ Below w.heap.size w w' := by
  have h := laws_heldByteS.calls k A c (marksB n m) m _ w hd.reads.1 hd.reads.2 (heldByteS_f n m (by omega) k (by omega))
  rw [marksB_length] at h
  refine h.mono ?_
  rintro e w' ⟨rfl, hb⟩
  exact ⟨rfl, hb.below⟩
end Go.Proofs.Ytbapokpkgonjkaa.Print

/- DecodeSnapshot, the program's and the reference's, by hand. -/
namespace Go.Proofs.Ytbapokpkgonjkaa.Print
open Go.RowKit Go.Proofs.YtbapokpkgonjkaaW.PrintWords Go.Proofs.YtbapokpkgonjkaaW.PrintLast Go.Proofs.YtbapokpkgonjkaaW.PrintMore
set_option linter.unusedVariables false
set_option linter.unusedSimpArgs false

theorem bytesOf_inj {l m : List Int} (hl : ∀ x ∈ l, 0 ≤ x ∧ x < 256) (hm : ∀ x ∈ m, 0 ≤ x ∧ x < 256) (h : Lib.bytesOf l = Lib.bytesOf m) : l = m := by
  unfold Lib.bytesOf at h
  induction l generalizing m with
  | nil => cases m with
    | nil => rfl
    | cons y m => simp at h
  | cons x l ih => cases m with
    | nil => simp at h
    | cons y m =>
      simp only [List.map_cons, List.cons.injEq] at h
      have hx := hl x List.mem_cons_self
      have hy := hm y List.mem_cons_self
      have e : x = y := by
        have := congrArg UInt8.toNat h.1
        simp only [UInt8.toNat_ofNat'] at this
        omega
      rw [e, ih (fun z hz => hl z (List.mem_cons_of_mem _ hz)) (fun z hz => hm z (List.mem_cons_of_mem _ hz)) h.2]
theorem bytesEqual_f (l m : List Int) (hl : ∀ x ∈ l, 0 ≤ x ∧ x < 256) (hm : ∀ x ∈ m, 0 ≤ x ∧ x < 256) : bytes_Equal.f l m = some (decide (l = m)) := by
  unfold bytes_Equal.f
  rw [Lib.strOfNums_toList, Lib.strOfNums_toList]
  congr 1
  by_cases e : l = m
  · subst e
    simp
  · rw [decide_eq_false e]
    exact beq_eq_false_iff_ne.2 (fun h => e (bytesOf_inj hl hm h))
theorem snapB_range (a : Int) (l : List Int) (hb : ∀ x ∈ l, 0 ≤ x ∧ x < 256) : ∀ x ∈ snapB a l, 0 ≤ x ∧ x < 256 := by
  intro x hx
  unfold snapB at hx
  rcases List.mem_append.1 hx with hx | hx
  · exact snap_range a l hb x hx
  · exact leB_range _ _ x hx
/-- What a snapshot's bytes are read as. -/
def decF (l : List Int) : Int × List Int × Int := if l.length < 20 then (0, [], 13) else if snapB (leN ((l.take 12).drop 4)) ((l.take (l.length - 4)).drop 16) = l then (leN ((l.take 12).drop 4), (l.take (l.length - 4)).drop 16, 0) else (0, [], 13)

set_option maxHeartbeats 2000000 in
set_option maxRecDepth 100000 in
theorem impl_DecodeSnapshot.calls (A : Option Addr) (c : Nat) (l : List Int) (w : World) (h0 : Kd.C (Kd.int .u8) w A l.length l) (hc : l.length ≤ c) (hr : ∀ x ∈ l, 0 ≤ x ∧ x < 256) (hl2 : l.length ≤ 2097152) :
    Calls Try.prog 33 #[.slice A l.length c] w fun e w' => ∃ v1 : Value, e = .returned (.tuple #[.int .u64 (decF l).1, v1, .int .i64 (decF l).2.2]) ∧ Kd.R (Kd.int .u8) 5 w' w.heap.size (fun _ => True) v1 (decF l).2.1 ∧ Below w.heap.size w w' := by
  have R0 := Aside0.mk h0
  have HR := Aside0.mk hr
  clear h0 hr
  by_cases hl : l.length < 20
  · have d1 : decide (l.length < 20) = true := decide_eq_true (by omega)
    have d2 : decide ((l.length : Int) < 20) = true := decide_eq_true (by omega)
    go_enter Try.func33, Try.ntmps33
    go_wp2_with fail
    unfold decF
    rw [if_pos hl]
    refine bodyPost_ret (v := .tuple #[.int .u64 0, .slice none 0 0, .int .i64 13]) ?_ rfl ?_
    · simp [results, Try.results33, go_sem]
    · exact ⟨_, rfl, Kd.R_nil _ _ _ _ _, by repeat (first | exact Below.refl _ _ | apply below_alloc)⟩
  have d1 : decide (l.length < 20) = false := decide_eq_false (by omega)
  have d2 : decide ((l.length : Int) < 20) = false := decide_eq_false (by omega)
  obtain ⟨i0, hi0, _, hsz0, _⟩ := info_parts info5
  obtain ⟨A1, hcut1, hA1, hC1⟩ := print_mid_of (P := Try.prog) (Value.int .u8) 0 22 5 .i64 .i64 Try.underlying22 hi0 hsz0 A c l 4 12 (by omega) (by omega) (by omega) hc
  obtain ⟨A2, hcut2, hA2, hC2⟩ := print_mid_of (P := Try.prog) (Value.int .u8) 0 22 5 .i64 .i64 Try.underlying22 hi0 hsz0 A c l 16 ((l.length : Int) - 4) (by omega) (by omega) (by omega) hc
  have hd : decF l = if snapB (leN ((l.take (12 : Int).toNat).drop (4 : Int).toNat)) ((l.take ((l.length : Int) - 4).toNat).drop (16 : Int).toNat) = l then (leN ((l.take (12 : Int).toNat).drop (4 : Int).toNat), (l.take ((l.length : Int) - 4).toNat).drop (16 : Int).toNat, 0) else (0, [], 13) := by
    unfold decF
    rw [if_neg hl, show ((l.length : Int) - 4).toNat = l.length - 4 by omega]
    rfl
  have n1 : impl_numberOf.f ((l.take (12 : Int).toNat).drop (4 : Int).toNat) = some (leN ((l.take (12 : Int).toNat).drop (4 : Int).toNat)) := by
    unfold impl_numberOf.f
    rw [if_pos ⟨by simp; omega, fun x hx => HR.out x (List.mem_of_mem_take (List.mem_of_mem_drop hx))⟩]
  have rg := leN_range ((l.take (12 : Int).toNat).drop (4 : Int).toNat) (fun x hx => HR.out x (List.mem_of_mem_take (List.mem_of_mem_drop hx)))
  rw [show ((l.take (12 : Int).toNat).drop (4 : Int).toNat).length = 8 by simp; omega] at rg
  have rb : ∀ x ∈ (l.take ((l.length : Int) - 4).toNat).drop (16 : Int).toNat, 0 ≤ x ∧ x < 256 := fun x hx => HR.out x (List.mem_of_mem_take (List.mem_of_mem_drop hx))
  have q2l : ((l.take ((l.length : Int) - 4).toNat).drop (16 : Int).toNat).length ≤ 2097152 := by simp; omega
  generalize (l.take (12 : Int).toNat).drop (4 : Int).toNat = q1 at hcut1 hA1 hC1 hd n1 rg
  generalize (l.take ((l.length : Int) - 4).toNat).drop (16 : Int).toNat = q2 at hcut2 hA2 hC2 hd rb q2l
  generalize leN q1 = s at hd n1 rg
  have e1 := impl_snap_f s q2 rg.1 (by have := rg.2; omega) (by omega) rb 3000000 (by omega)
  have b1 := bytesEqual_f (snapB s q2) l (snapB_range s q2 rb) HR.out
  generalize snapB s q2 = t at hd e1 b1
  have R1 := Aside0.mk (Kd.C_of_reads (h1 := fun _ => rfl) (hA1 _ (Kd.reads_of_C R0.out)))
  have R2 := Aside0.mk (Kd.C_of_reads (h1 := fun _ => rfl) (hA2 _ (Kd.reads_of_C R0.out)))
  have N1 := Aside0.mk n1
  have E1 := Aside0.mk e1
  have B1 := Aside0.mk b1
  have HD := Aside0.mk hd
  have hw : wrap64 ((l.length : Int) - 4) = (l.length : Int) - 4 := by unfold wrap64; omega
  clear hA1 hA2 hi0 hsz0 n1 e1 b1 hd rb rg
  go_enter Try.func33, Try.ntmps33
  go_wp2_with fail
  go_quiet (first | (go_at_call 69; refine (impl_numberOf.calls A1 _ q1 s _ (by repeat (first | exact R1.out | (with_reducible refine Kd.C_drewN ?_ _) | (with_reducible refine Kd.C_drew ?_))) hC1 N1.out).mono ?_; rintro e w' ⟨rfl, ⟨nd, rfl⟩⟩; (try first | exact ⟨rfl, _, World.drewN_drewN _ _ _⟩ | exact ⟨rfl, _, Eq.trans (World.drewN_drewN _ _ _) (congrArg (World.drewN _) (Nat.add_assoc _ _ _))⟩)))
  go_wp2_with fail
  have hq : Below w.heap.size w (w.drewN nq) := pw_below_drewN (Below.refl _ _) _
  refine (impl_EncodeSnapshot.calls 3000000 s (fun k_ => k_ < w.heap.size) A2 _ q2 t _ (Kd.V_mk hC2 (Kd.F_below (Kd.C_F (Kd.heap_int .u8) R2.out) hq)) E1.out).mono ?_
  rintro e w2 ⟨v, rfl, ho, hb⟩
  obtain ⟨T, tc, rfl⟩ := Kd.R_slice ho
  have HB := Aside0.mk (below_step hq hb)
  have HO := Aside0.mk (Kd.R_reads' ho).2
  clear ho hb hq
  go_wp2_with fail
  refine (bytes_Equal.calls T tc t A c l _ _ HO.out.2 HO.out.1 (Kd.C_below R0.out HB.out) hc B1.out).mono ?_
  rintro e w3 ⟨rfl, hb⟩
  replace HB := Aside0.mk (below_step HB.out hb.below)
  clear hb
  by_cases ht : t = l
  · have ht' : decide (t = l) = true := decide_eq_true ht
    rw [ht']
    go_wp2_with fail
    refine (bytes_Clone.calls A2 (c - (16 : Int).toNat) q2 q2 _ (Kd.C_below R2.out HB.out) hC2 (by unfold bytes_Clone.f; rw [if_pos (by omega)])).mono ?_
    rintro e w4 ⟨v4, rfl, ho, hb⟩
    have HB4 := Aside0.mk (below_step HB.out hb)
    have HV := Aside0.mk (Kd.R_lower ho (below_size HB.out))
    clear ho hb
    go_wp2_with fail
    rw [HD.out, if_pos ht]
    refine bodyPost_ret (v := .tuple #[.int .u64 s, v4, .int .i64 0]) ?_ rfl ?_
    · simp [results, Try.results33, go_sem]
    · exact ⟨_, rfl, HV.out, HB4.out⟩
  · have ht' : decide (t = l) = false := decide_eq_false ht
    rw [ht']
    go_wp2_with fail
    rw [HD.out, if_neg ht]
    refine bodyPost_ret (v := .tuple #[.int .u64 0, .slice none 0 0, .int .i64 13]) ?_ rfl ?_
    · simp [results, Try.results33, go_sem]
    · exact ⟨_, rfl, Kd.R_nil _ _ _ _ _, HB.out⟩
theorem spec_l1copy_f (l : List Int) (h : l.length ≤ 2097152) : spec_l1copy.f l = some l := by
  unfold spec_l1copy.f
  rw [if_pos (by simp; omega)]
  simp
theorem number_f (l : List Int) : ∀ (k : Nat), l.length ≤ 8 → (∀ x ∈ l, 0 ≤ x ∧ x < 256) → l.length < k → spec_l2number.f k l = some (leN l) := by
  induction l with
  | nil =>
    intro k _ _ hk
    obtain ⟨k, rfl⟩ : ∃ m, k = m + 1 := ⟨k - 1, by omega⟩
    simp [spec_l2number.f, leN]
  | cons x l ih =>
    intro k hl hr hk
    obtain ⟨k, rfl⟩ : ∃ m, k = m + 1 := ⟨k - 1, by omega⟩
    simp only [List.length_cons] at hl hk
    have hx := hr x List.mem_cons_self
    have hr' : ∀ y ∈ l, 0 ≤ y ∧ y < 256 := fun y hy => hr y (List.mem_cons_of_mem _ hy)
    have rg := leN_range l hr'
    obtain ⟨v0, v1⟩ : 0 ≤ leN l ∧ leN l < 72057594037927936 := by
      refine ⟨rg.1, Int.lt_of_lt_of_le rg.2 ?_⟩
      have h7 : l.length ≤ 7 := by omega
      have this : 256 ^ l.length ≤ 72057594037927936 := Nat.le_trans (Nat.pow_le_pow_right (n := 256) (by decide) h7) (by decide)
      rw [show (256 : Int) ^ l.length = ((256 ^ l.length : Nat) : Int) by rw [Int.natCast_pow]; rfl]
      generalize 256 ^ l.length = z at this
      omega
    have ih' := ih k (by omega) hr' (by omega)
    clear rg hr hr' ih
    simp only [spec_l2number.f]
    rw [if_neg (by simp only [List.length_cons]; omega), if_pos (by simp only [List.length_cons]; omega), if_pos (by simp only [List.length_cons]; omega), List.drop_succ_cons, List.drop_zero, ih', Option.bind_some]
    have e0 : rd (x :: l) 0 = x := rfl
    rw [e0, u64_of x hx.1 (by omega), u64_of (256 * leN l) (by omega) (by omega), u64_of _ (by omega) (by omega)]
    rfl
set_option maxHeartbeats 2000000 in
set_option maxRecDepth 100000 in
theorem spec_DecodeSnapshot.calls (A : Option Addr) (c : Nat) (l : List Int) (w : World) (h0 : Kd.C (Kd.int .u8) w A l.length l) (hc : l.length ≤ c) (hr : ∀ x ∈ l, 0 ≤ x ∧ x < 256) (hl2 : l.length ≤ 2097152) :
    Calls Try.prog 32 #[.slice A l.length c] w fun e w' => ∃ v1 : Value, e = .returned (.tuple #[.int .u64 (decF l).1, v1, .int .i64 (decF l).2.2]) ∧ Kd.R (Kd.int .u8) 5 w' w.heap.size (fun _ => True) v1 (decF l).2.1 ∧ Below w.heap.size w w' := by
  have R0 := Aside0.mk h0
  have HR := Aside0.mk hr
  clear h0 hr
  by_cases hl : l.length < 20
  · have d1 : decide (l.length < 20) = true := decide_eq_true (by omega)
    have d2 : decide ((l.length : Int) < 20) = true := decide_eq_true (by omega)
    go_enter Try.func32, Try.ntmps32
    go_wp2_with fail
    unfold decF
    rw [if_pos hl]
    refine bodyPost_ret (v := .tuple #[.int .u64 0, .slice none 0 0, .int .i64 13]) ?_ rfl ?_
    · simp [results, Try.results32, go_sem]
    · exact ⟨_, rfl, Kd.R_nil _ _ _ _ _, by repeat (first | exact Below.refl _ _ | apply below_alloc)⟩
  have d1 : decide (l.length < 20) = false := decide_eq_false (by omega)
  have d2 : decide ((l.length : Int) < 20) = false := decide_eq_false (by omega)
  obtain ⟨i0, hi0, _, hsz0, _⟩ := info_parts info5
  obtain ⟨A1, hcut1, hA1, hC1⟩ := print_mid_of (P := Try.prog) (Value.int .u8) 0 22 5 .i64 .i64 Try.underlying22 hi0 hsz0 A c l 4 12 (by omega) (by omega) (by omega) hc
  obtain ⟨A2, hcut2, hA2, hC2⟩ := print_mid_of (P := Try.prog) (Value.int .u8) 0 22 5 .i64 .i64 Try.underlying22 hi0 hsz0 A c l 16 ((l.length : Int) - 4) (by omega) (by omega) (by omega) hc
  have hd : decF l = if snapB (leN ((l.take (12 : Int).toNat).drop (4 : Int).toNat)) ((l.take ((l.length : Int) - 4).toNat).drop (16 : Int).toNat) = l then (leN ((l.take (12 : Int).toNat).drop (4 : Int).toNat), (l.take ((l.length : Int) - 4).toNat).drop (16 : Int).toNat, 0) else (0, [], 13) := by
    unfold decF
    rw [if_neg hl, show ((l.length : Int) - 4).toNat = l.length - 4 by omega]
    rfl
  have n1 := number_f ((l.take (12 : Int).toNat).drop (4 : Int).toNat) 3000000 (by simp; omega) (fun x hx => HR.out x (List.mem_of_mem_take (List.mem_of_mem_drop hx))) (by simp; omega)
  have rg := leN_range ((l.take (12 : Int).toNat).drop (4 : Int).toNat) (fun x hx => HR.out x (List.mem_of_mem_take (List.mem_of_mem_drop hx)))
  rw [show ((l.take (12 : Int).toNat).drop (4 : Int).toNat).length = 8 by simp; omega] at rg
  have rb : ∀ x ∈ (l.take ((l.length : Int) - 4).toNat).drop (16 : Int).toNat, 0 ≤ x ∧ x < 256 := fun x hx => HR.out x (List.mem_of_mem_take (List.mem_of_mem_drop hx))
  have q2l : ((l.take ((l.length : Int) - 4).toNat).drop (16 : Int).toNat).length ≤ 2097152 := by simp; omega
  generalize (l.take (12 : Int).toNat).drop (4 : Int).toNat = q1 at hcut1 hA1 hC1 hd n1 rg
  generalize (l.take ((l.length : Int) - 4).toNat).drop (16 : Int).toNat = q2 at hcut2 hA2 hC2 hd rb q2l
  generalize leN q1 = s at hd n1 rg
  have e1 := spec_snap_f s q2 rg.1 (by have := rg.2; omega) (by omega) rb 3000000 (by omega)
  have b1 : Lib.bytesOf (snapB s q2) = Lib.bytesOf l → snapB s q2 = l := bytesOf_inj (snapB_range s q2 rb) HR.out
  generalize snapB s q2 = t at hd e1 b1
  have R1 := Aside0.mk (Kd.C_of_reads (h1 := fun _ => rfl) (hA1 _ (Kd.reads_of_C R0.out)))
  have R2 := Aside0.mk (Kd.C_of_reads (h1 := fun _ => rfl) (hA2 _ (Kd.reads_of_C R0.out)))
  have N1 := Aside0.mk n1
  have E1 := Aside0.mk e1
  have B1 := Aside0.mk b1
  have HD := Aside0.mk hd
  have C1 := spec_l1copy_f q2 (by omega)
  have hw : wrap64 ((l.length : Int) - 4) = (l.length : Int) - 4 := by unfold wrap64; omega
  clear hA1 hA2 hi0 hsz0 n1 e1 b1 hd rb rg
  go_enter Try.func32, Try.ntmps32
  go_wp2_with fail
  refine (spec_l2number.calls 3000000 A1 _ q1 s _ R1.out hC1 N1.out).mono ?_
  rintro e w1 ⟨rfl, hb⟩
  have HB := Aside0.mk (below_step (Below.refl w.heap.size w) hb)
  clear hb
  go_wp2_with fail
  refine (spec_l1copy.calls A2 _ q2 q2 _ (Kd.C_below R2.out HB.out) hC2 C1).mono ?_
  rintro e w2 ⟨v, rfl, ho, hb⟩
  obtain ⟨B, d, rfl⟩ := Kd.R_slice ho
  have HV := Aside0.mk (Kd.R_lower ho (below_size HB.out))
  replace HB := Aside0.mk (below_step HB.out hb)
  clear ho hb
  go_wp2_with fail
  have hbq : ((strOfNums t).toList == (strOfNums l).toList) = decide (t = l) := by
    rw [Lib.strOfNums_toList, Lib.strOfNums_toList]
    by_cases e : t = l
    · subst e
      simp
    · rw [decide_eq_false e]
      exact beq_eq_false_iff_ne.2 (fun h => e (B1.out h))
  have hcv0 := Kd.C_string (P := Try.prog) (c := c) Try.underlying22 Try.underlying5 Try.underlying9 (Kd.C_drew (Kd.C_below R0.out HB.out))
  go_region_with (first | (go_at_call 20; refine (spec_EncodeSnapshot.calls 3000000 s B d q2 t _ (by repeat (first | exact (Kd.R_reads' HV.out).2.2 | refine Kd.C_drew ?_)) (Kd.R_reads' HV.out).2.1 E1.out).mono ?_; rintro e w3 ⟨v3, rfl, ho3, hb3⟩; obtain ⟨T, tc, rfl⟩ := Kd.R_slice ho3; have hb4 : Below w2.heap.size w2 w3 := (below_drew1 (Below.refl w2.heap.size w2)).trans hb3; have HB3 := Aside0.mk (below_step HB.out hb4); have HV3 := Aside0.mk (Kd.R_below HV.out hb4); have hcv := Kd.C_string (P := Try.prog) (c := tc) Try.underlying22 Try.underlying5 Try.underlying9 (Kd.R_reads' ho3).2.2; have hcv3 := Kd.C_string (P := Try.prog) (c := c) Try.underlying22 Try.underlying5 Try.underlying9 (Kd.C_below R0.out HB3.out); clear ho3 hb3 hb4))
  all_goals
    (try rw [hbq])
    by_cases ht : t = l
    · have ht' : decide (t = l) = true := decide_eq_true ht
      rw [ht']
      go_wp2_with fail
      rw [HD.out, if_pos ht]
      refine bodyPost_ret (v := .tuple #[.int .u64 s, .slice B q2.length d, .int .i64 0]) ?_ rfl ?_
      · simp [results, Try.results32, go_sem]
      · exact ⟨_, rfl, HV3.out, HB3.out⟩
    · have ht' : decide (t = l) = false := decide_eq_false ht
      rw [ht']
      go_wp2_with fail
      rw [HD.out, if_neg ht]
      refine bodyPost_ret (v := .tuple #[.int .u64 0, .slice none 0 0, .int .i64 13]) ?_ rfl ?_
      · simp [results, Try.results32, go_sem]
      · exact ⟨_, rfl, Kd.R_nil _ _ _ _ _, HB3.out⟩
end Go.Proofs.Ytbapokpkgonjkaa.Print
