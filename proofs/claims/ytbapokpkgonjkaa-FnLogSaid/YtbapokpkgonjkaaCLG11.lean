/- Texts of this session, joined by its own program. -/
import Derived.Test.YtbapokpkgonjkaaCLG10
import Derived.Test.YtbapokpkgonjkaaCLG0
import Derived.Test.YtbapokpkgonjkaaCLG4
import Derived.Test.YtbapokpkgonjkaaCLG7
import Derived.Test.YtbapokpkgonjkaaCLG8
import Derived.Test.YtbapokpkgonjkaaCLG9
namespace Go.Proofs.Ytbapokpkgonjkaa.Print
open Go.RowKit Go.Proofs.YtbapokpkgonjkaaW.PrintWords Go.Proofs.YtbapokpkgonjkaaW.PrintLast Go.Proofs.YtbapokpkgonjkaaW.PrintMore
attribute [local go_sem] max2_int min2_int max_two min_two max_three min_three max_four min_four
set_option linter.unusedVariables false
set_option linter.unusedSimpArgs false
abbrev T : Bool := true
abbrev F : Bool := false
set_option maxHeartbeats 8000000 in
set_option maxRecDepth 100000 in
theorem laws_FnLog.calls (k : Nat) (A0 : Option Addr) (c0 : Nat) (l0 : List Int) (A1 : Option Addr) (c1 : Nat) (l1 : List Int) (w : World) (hr0 : Kd.C (Kd.int .u8) w A0 l0.length l0) (hc0 : l0.length ≤ c0) (hr1 : Kd.C (Kd.int .u8) w A1 l1.length l1) (hc1 : l1.length ≤ c1) (h : laws_FnLog.f k l0 l1 = some true) :
  Calls Try.prog 14 #[.slice A0 l0.length c0, .slice A1 l1.length c1] w fun e w' => e = .returned (.bool true) ∧ Below w.heap.size w w' := by
 have hu45 := Try.underlying45
 have HR0 := Aside0.mk hr0
 have HC0 := Aside0.mk hc0
 clear hr0 hc0
 have HR1 := Aside0.mk hr1
 have HC1 := Aside0.mk hc1
 clear hr1 hc1
 have HB := Aside0.mk (Below.refl w.heap.size w)
 have H : (if (l0.length : Int) > 1048576 then (laws_FnLog.j0 k l0 l1 true) else (laws_FnLog.j0 k l0 l1 (decide ((l1.length : Int) > 1048576)))) = some true := h
 clear h
 have HC3 := Aside0.mk H
 clear H
 go_enter Try.func14, Try.ntmps14
 go_upto_region 1 with (fail)
 go_cut [28] (fun v28 wc => ∃ (kq : Nat) (x28_2 : Bool), v28 = .bool x28_2 ∧ Aside0 (laws_FnLog.j0 kq l0 l1 x28_2 = some true) ∧ Aside0 (kq ≤ k) ∧ Aside0 (Below w.heap.size w wc))
 case first => as_aux_lemma =>
  have H := HC3.out
  clear HC3
  by_cases c4 : (l0.length : Int) > 1048576
  ·
   rw [if_pos c4] at H
   have c4b0 : decide (1048576 < (l0.length : Int)) = true := decide_eq_true c4
   have c4b1 : decide (1048576 < l0.length) = true := decide_eq_true (by omega)
   clear c4
   (first | rw [c4b0] | (simp only [i64_w, i32_w]; rw [c4b0]) | skip)
   have H' := Aside0.mk H
   clear H
   go_wp2
   go_meet
   case rel => exact ⟨_, (true), (by first | rfl | (simp; done) | (simp [*]; done)), H', ⟨by first | omega | exact Nat.le_refl _⟩, ⟨by repeat (first | (with_reducible first | exact HB.out | apply below_alloc | apply pw_below_drewN | apply below_drew1) | exact HB.out)⟩⟩
  ·
   rw [if_neg c4] at H
   have c4b0 : decide (1048576 < (l0.length : Int)) = false := decide_eq_false c4
   have c4b1 : decide (1048576 < l0.length) = false := decide_eq_false (by omega)
   clear c4
   (first | rw [c4b0] | (simp only [i64_w, i32_w]; rw [c4b0]) | skip)
   have H' := Aside0.mk H
   clear H
   go_wp2
   go_meet
   case rel => exact ⟨_, (decide ((l1.length : Int) > 1048576)), (by first | rfl | (simp; done) | (simp [*]; done)), H', ⟨by first | omega | exact Nat.le_refl _⟩, ⟨by repeat (first | (with_reducible first | exact HB.out | apply below_alloc | apply pw_below_drewN | apply below_drew1) | exact HB.out)⟩⟩
 case rest => as_aux_lemma =>
  clear HC3
  try clear c1
  try clear p2
  try clear c4
  try clear c4b0
  try clear c4b1
  obtain ⟨kq, x28_2, rfl, HA, HJ2, HB⟩ := hcut
  cases kq with
  | zero => exact absurd HA.out (by simp [laws_FnLog.j0])
  | succ kj2 =>
   have H := HA.out
   clear HA
   simp only [laws_FnLog.j0] at H
   by_cases c5 : x28_2 = true
   ·
    subst c5
    have H1 : (some true) = some true := by first | rfl | (rw [if_pos rfl] at H; exact H)
    clear H
    have H := H1
    clear H1
    first | obtain rfl := Option.some.inj H | have HRv := Option.some.inj H
    go_wp2
    go_ret
    exact ⟨by first | rfl | (simp [errW_none, errW_some] <;> rfl) | (simp [*, errW_none, errW_some] <;> rfl), by repeat (first | (with_reducible first | exact HB.out | apply below_alloc | apply pw_below_drewN | apply below_drew1) | exact HB.out)⟩
   ·
    replace c5 := Bool.eq_false_iff.mpr c5
    subst c5
    have H1 : ((spec_DrawEncodeRecord.f kj2 l0).bind fun bt1513 => ((laws_take.f l1 0).bind fun t1518 => (if (bt1513.2.length : Int) > 1000 then (laws_FnLog.j1 kj2 l0 l1 (wrap64 (1 + (Int.tmod t1518 5))) true bt1513.1 bt1513.2) else (laws_FnLog.j1 kj2 l0 l1 (wrap64 (1 + (Int.tmod t1518 5))) (decide (bt1513.1 > 1000000000000)) bt1513.1 bt1513.2)))) = some true := by first | rfl | (rw [if_neg (show ¬ (false = true) by decide)] at H; exact H)
    clear H
    have H := H1
    clear H1
    replace H := Option.bind_eq_some_iff.mp H
    obtain ⟨⟨t1513, t1514⟩, A60, H⟩ := H
    replace H : ((laws_take.f l1 0).bind fun t1518 => (if (t1514.length : Int) > 1000 then (laws_FnLog.j1 kj2 l0 l1 (wrap64 (1 + (Int.tmod t1518 5))) true t1513 t1514) else (laws_FnLog.j1 kj2 l0 l1 (wrap64 (1 + (Int.tmod t1518 5))) (decide (t1513 > 1000000000000)) t1513 t1514))) = some true := H
    have A6 := Aside0.mk A60
    clear A60
    replace H := Option.bind_eq_some_iff.mp H
    obtain ⟨t1518, A70, H⟩ := H
    replace H : (if (t1514.length : Int) > 1000 then (laws_FnLog.j1 kj2 l0 l1 (wrap64 (1 + (Int.tmod t1518 5))) true t1513 t1514) else (laws_FnLog.j1 kj2 l0 l1 (wrap64 (1 + (Int.tmod t1518 5))) (decide (t1513 > 1000000000000)) t1513 t1514)) = some true := H
    have A7 := Aside0.mk A70
    clear A70
    have HC8 := Aside0.mk H
    clear H
    go_upto_region 5 with (first | ((with_reducible refine gate_callee (f := 55) rfl ?_); refine goesL_ (some 30) rfl rfl Try.func55 (by kernel_rfl) rfl #[.slice A0 l0.length c0] rfl (by (try simp only [List.map_toArray, List.map_cons, List.map_nil]); first | done | rfl | (simp only [List.length_drop, List.length_take]; rfl)) ?_; (with_reducible refine (spec_DrawEncodeRecord.calls kj2 _ _ l0 t1513 t1514 _ ?side1 ?side2 A6.out).mono ?_); (case side1 => repeat (first | exact (Kd.C_below HR0.out HB.out) | (with_reducible refine Kd.C_alloc ?_ _) | (with_reducible refine Kd.C_drewN ?_ _) | (with_reducible refine Kd.C_drew ?_))); (case side2 => exact HC0.out); rintro e w9 ⟨v1515, rfl, ho0, hb⟩; refine ⟨_, rfl, ?_⟩; have n0_ := Aside0.mk (Kd.R_lower ho0 (below_size (by repeat (first | (with_reducible first | exact HB.out | apply below_alloc | apply pw_below_drewN | apply below_drew1) | exact HB.out)))); have n1_ := Aside0.mk (below_step (by repeat (first | (with_reducible first | exact HB.out | apply below_alloc | apply pw_below_drewN | apply below_drew1) | exact HB.out)) hb); clear HB; have HO1516 := n0_; have HB := n1_; clear n0_ n1_; (try clear hb); (try clear hb2); (try clear hk); (try clear hi); (try clear ho0)) | ((with_reducible refine gate_dst (N := 5) rfl ?_); (try (refine gate_guard (by rfl) ?_; dsimp only)); refine box_event ?hg (N := 5) ?hd (cs := #[.int .u64 0, .slice none 0 0]) (t := 45) ?hr ?_; (case hd => rfl); (case hg => rfl); (case hr => first | (go_simp; done) | (go_simp; rfl)); intro gb1517 hg w10 hbox hb; have n0_ := Aside0.mk (Kd.R_below (by (with_reducible repeat (first | apply Kd.R_alloc | apply Kd.R_drewN | apply Kd.R_drew)); exact HO1516.out) hb); have n1_ := Aside0.mk (below_step (by repeat (first | (with_reducible first | exact HB.out | apply below_alloc | apply pw_below_drewN | apply below_drew1) | exact HB.out)) hb); have n2_ := Aside0.mk (hbox); have n3_ := Aside0.mk ((by rw [hg]; exact (below_size (by repeat (first | (with_reducible first | exact HB.out | apply below_alloc | apply pw_below_drewN | apply below_drew1) | exact HB.out))) : w.heap.size ≤ gb1517)); have n4_ := Aside0.mk ((by rw [hg]; exact (below_size (by repeat (first | (with_reducible first | exact HB.out | apply below_alloc | apply pw_below_drewN | apply below_drew1) | exact HB.out))) : w.heap.size ≤ gb1517)); clear HO1516; clear HB; have HO1516 := n0_; have HB := n1_; have BK1517 := n2_; have GW1517 := n3_; have GE1517 := n4_; clear n0_ n1_ n2_ n3_ n4_; clear hb hbox hg; have hcz11_0 : w10.cell? ⟨gb1517, 0, none⟩ = some (.int .u64 0) := (blk_cell BK1517.out 0).trans rfl; have hcz11_1 : w10.cell? ⟨gb1517, 1, none⟩ = some (.slice none 0 0) := (blk_cell BK1517.out 1).trans rfl; have hfz11_0 := blk_frozen BK1517.out 0; have hfz11_1 := blk_frozen BK1517.out 1; obtain ⟨Ao12, co12, eo12⟩ := Kd.R_slice HO1516.out; subst eo12) | ((with_reducible refine gate_callee (f := 52) rfl ?_); refine goesL_ (some 32) rfl rfl Try.func52 (by kernel_rfl) rfl #[.slice A1 l1.length c1, .int .i64 0] rfl (by (try simp only [List.map_toArray, List.map_cons, List.map_nil]); first | done | rfl | (simp only [List.length_drop, List.length_take]; rfl)) ?_; (with_reducible refine (laws_take.calls _ _ l1 0 t1518 _ ?side1 ?side2 A7.out).mono ?_); (case side1 => exact Kd.C_below HR1.out (by repeat (first | (with_reducible first | exact HB.out | apply below_alloc | apply pw_below_drewN | apply below_drew1 | refine below_set ?_ GE1517.out) | exact HB.out))); (case side2 => exact HC1.out); rintro e w' ⟨rfl, ⟨nd, rfl⟩⟩; refine ⟨_, rfl, ?_⟩))
    (try simp only [Act.put, List.setIfInBounds_toArray, List.set_cons_zero, List.set_cons_succ])
    go_cut [43] (fun v43 wc => ∃ (kq : Nat) (x43_7 : Bool), v43 = .bool x43_7 ∧ Aside0 (laws_FnLog.j1 kq l0 l1 (wrap64 (1 + (Int.tmod t1518 5))) x43_7 t1513 t1514 = some true) ∧ Aside0 (kq ≤ kj2) ∧ Aside0 (Kd.R (Kd.int .u8) 5 wc w.heap.size (fun _ => True) (.slice Ao12 t1514.length co12) t1514) ∧ Aside0 (wc.heap[gb1517]? = some (.cells #[.int .u64 t1513, (.slice Ao12 t1514.length co12)] 45 (0, 0))) ∧ Aside0 (Below w.heap.size w wc))
    case first => as_aux_lemma =>
     have H := HC8.out
     clear HC8
     by_cases c13 : (t1514.length : Int) > 1000
     ·
      rw [if_pos c13] at H
      have c13b0 : decide (1000 < (t1514.length : Int)) = true := decide_eq_true c13
      have c13b1 : decide (1000 < t1514.length) = true := decide_eq_true (by omega)
      clear c13
      (first | rw [c13b0] | (simp only [i64_w, i32_w]; rw [c13b0]) | skip)
      have H' := Aside0.mk H
      clear H
      have hcz14_0 : w10.cell? ⟨gb1517, 0, none⟩ = some (.int .u64 0) := (blk_cell BK1517.out 0).trans rfl
      have hcz14_1 : w10.cell? ⟨gb1517, 1, none⟩ = some (.slice none 0 0) := (blk_cell BK1517.out 1).trans rfl
      have hfz14_0 := blk_frozen BK1517.out 0
      have hfz14_1 := blk_frozen BK1517.out 1
      go_wp2
      go_meet
      case rel => exact ⟨_, (true), (by first | rfl | (simp; done) | (simp [*]; done)), H', ⟨by have := HJ2.out; first | omega | exact Nat.le_refl _⟩, ⟨by (with_reducible repeat (first | apply Kd.R_alloc | apply Kd.R_drewN | apply Kd.R_drew)); exact Kd.R_mono (Kd.R_far (p := ⟨gb1517, 1, none⟩) (Kd.R_far (p := ⟨gb1517, 0, none⟩) (Kd.R_types HO1516.out BK1517.out (by decide)) (fun _ hk => hk.2) (.int .u64 t1513)) (fun _ hk => hk.2) (.slice Ao12 t1514.length co12)) (fun _ hk => trivial)⟩, ⟨by (with_reducible repeat (first | refine blk_drewN ?_ _ | refine blk_drew ?_ | refine blk_alloc ?_ _)); refine blk_put (cs := #[.int .u64 t1513, .slice none 0 0]) ?_ 1 _ rfl; (with_reducible repeat (first | refine blk_drewN ?_ _ | refine blk_drew ?_ | refine blk_alloc ?_ _)); refine blk_put (cs := #[.int .u64 0, .slice none 0 0]) ?_ 0 _ rfl; (with_reducible repeat (first | refine blk_drewN ?_ _ | refine blk_drew ?_ | refine blk_alloc ?_ _)); exact BK1517.out⟩, ⟨by repeat (first | (with_reducible first | exact HB.out | apply below_alloc | apply pw_below_drewN | apply below_drew1 | refine below_set ?_ GE1517.out) | exact HB.out)⟩⟩
     ·
      rw [if_neg c13] at H
      have c13b0 : decide (1000 < (t1514.length : Int)) = false := decide_eq_false c13
      have c13b1 : decide (1000 < t1514.length) = false := decide_eq_false (by omega)
      clear c13
      (first | rw [c13b0] | (simp only [i64_w, i32_w]; rw [c13b0]) | skip)
      have H' := Aside0.mk H
      clear H
      have hcz15_0 : w10.cell? ⟨gb1517, 0, none⟩ = some (.int .u64 0) := (blk_cell BK1517.out 0).trans rfl
      have hcz15_1 : w10.cell? ⟨gb1517, 1, none⟩ = some (.slice none 0 0) := (blk_cell BK1517.out 1).trans rfl
      have hfz15_0 := blk_frozen BK1517.out 0
      have hfz15_1 := blk_frozen BK1517.out 1
      go_wp2
      go_meet
      case rel => exact ⟨_, (decide (t1513 > 1000000000000)), (by first | rfl | (simp; done) | (simp [*]; done)), H', ⟨by have := HJ2.out; first | omega | exact Nat.le_refl _⟩, ⟨by (with_reducible repeat (first | apply Kd.R_alloc | apply Kd.R_drewN | apply Kd.R_drew)); exact Kd.R_mono (Kd.R_far (p := ⟨gb1517, 1, none⟩) (Kd.R_far (p := ⟨gb1517, 0, none⟩) (Kd.R_types HO1516.out BK1517.out (by decide)) (fun _ hk => hk.2) (.int .u64 t1513)) (fun _ hk => hk.2) (.slice Ao12 t1514.length co12)) (fun _ hk => trivial)⟩, ⟨by (with_reducible repeat (first | refine blk_drewN ?_ _ | refine blk_drew ?_ | refine blk_alloc ?_ _)); refine blk_put (cs := #[.int .u64 t1513, .slice none 0 0]) ?_ 1 _ rfl; (with_reducible repeat (first | refine blk_drewN ?_ _ | refine blk_drew ?_ | refine blk_alloc ?_ _)); refine blk_put (cs := #[.int .u64 0, .slice none 0 0]) ?_ 0 _ rfl; (with_reducible repeat (first | refine blk_drewN ?_ _ | refine blk_drew ?_ | refine blk_alloc ?_ _)); exact BK1517.out⟩, ⟨by repeat (first | (with_reducible first | exact HB.out | apply below_alloc | apply pw_below_drewN | apply below_drew1 | refine below_set ?_ GE1517.out) | exact HB.out)⟩⟩
    case rest => as_aux_lemma =>
     clear HC8
     try clear c1
     try clear p2
     try clear c4
     try clear c4b0
     try clear c4b1
     try clear c5
     try clear p6
     try clear c13
     try clear c13b0
     try clear c13b1
     try clear c14
     try clear hcz11_0
     try clear hcz11_1
     try clear hcz14_0
     try clear hcz14_1
     try clear hcz15_0
     try clear hcz15_1
     try clear hfz11_0
     try clear hfz11_1
     try clear hfz14_0
     try clear hfz14_1
     try clear hfz15_0
     try clear hfz15_1
     try clear p2
     obtain ⟨kq, x43_7, rfl, HA, HJ7, HO_1518001, BK1517, HB⟩ := hcut
     cases kq with
     | zero => exact absurd HA.out (by simp [laws_FnLog.j1])
     | succ kj7 =>
      have H := HA.out
      clear HA
      simp only [laws_FnLog.j1] at H
      by_cases c16 : x43_7 = true
      ·
       subst c16
       have H1 : (some true) = some true := by first | rfl | (rw [if_pos rfl] at H; exact H)
       clear H
       have H := H1
       clear H1
       first | obtain rfl := Option.some.inj H | have HRv := Option.some.inj H
       go_wp2
       go_ret
       exact ⟨by first | rfl | (simp [errW_none, errW_some] <;> rfl) | (simp [*, errW_none, errW_some] <;> rfl), by repeat (first | (with_reducible first | exact HB.out | apply below_alloc | apply pw_below_drewN | apply below_drew1 | refine below_set ?_ GE1517.out) | exact HB.out)⟩
      ·
       replace c16 := Bool.eq_false_iff.mpr c16
       subst c16
       have H1 : (laws_FnLog.l0 kj7 l0 l1 (wrap64 (1 + (Int.tmod t1518 5))) ([] : List Int) 0 t1513 t1514) = some true := by first | rfl | (rw [if_neg (show ¬ (false = true) by decide)] at H; exact H)
       clear H
       have H := H1
       clear H1
       have H' := Aside0.mk H
       clear H
       go_wp2
       go_loopg [7, 8] kj7 (fun kq v7 v8 w' => ∃ (x7_3 : List Int) (x8_3 : Int), v8 = .int .i64 x8_3 ∧ Aside0 (laws_FnLog.l0 kq l0 l1 (wrap64 (1 + (Int.tmod t1518 5))) x7_3 x8_3 t1513 t1514 = some true) ∧ Aside0 (kq ≤ kj7) ∧ Aside0 (Kd.R (Kd.int .u8) 5 w' w.heap.size (fun k_ => some k_ ≠ ((.slice Ao12 t1514.length co12) : Value).ownBlock) v7 x7_3) ∧ Aside0 (Kd.R (Kd.int .u8) 5 w' w.heap.size (fun k_ => some k_ ≠ (v7 : Value).ownBlock) (.slice Ao12 t1514.length co12) t1514) ∧ Aside0 (w'.heap[gb1517]? = some (.cells #[.int .u64 t1513, (.slice Ao12 t1514.length co12)] 45 (0, 0))) ∧ Aside0 (Below w.heap.size w w'))
       case atStart => exact ⟨(([] : List Int)), (0), (by first | rfl | (simp; done) | (simp [*]; done)), H', ⟨Nat.le_refl _⟩, ⟨by first | exact Kd.R_nil _ _ _ _ _ | exact Kd.N_nil _ _ _ _ _ | exact Kd.V_nil _ _ _ _ _ | exact Kd.Q_nil _ _ _ _ _ | exact Kd.S_nil _ _ _ _ _⟩, ⟨by (with_reducible repeat (first | apply Kd.R_alloc | apply Kd.R_drewN | apply Kd.R_drew)); exact Kd.R_mono HO_1518001.out (fun _ hk => (by simp [Value.ownBlock]))⟩, ⟨by (with_reducible repeat (first | refine blk_drewN ?_ _ | refine blk_drew ?_ | refine blk_alloc ?_ _)); exact BK1517.out⟩, ⟨by repeat (first | (with_reducible first | exact HB.out | apply below_alloc | apply pw_below_drewN | apply below_drew1 | refine below_set ?_ GE1517.out) | exact HB.out)⟩⟩
       case round => as_aux_lemma =>
        clear H'
        try clear c1
        try clear p2
        try clear c4
        try clear c4b0
        try clear c4b1
        try clear c5
        try clear p6
        try clear c13
        try clear c13b0
        try clear c13b1
        try clear c14
        try clear c16
        try clear hcz11_0
        try clear hcz11_1
        try clear hcz14_0
        try clear hcz14_1
        try clear hcz15_0
        try clear hcz15_1
        try clear hfz11_0
        try clear hfz11_1
        try clear hfz14_0
        try clear hfz14_1
        try clear hfz15_0
        try clear hfz15_1
        try clear p2
        try clear p6
        obtain ⟨x7_3, x8_3, rfl, HA, HK3, HO_7, HO_1518001, BK1517, HB⟩ := hrel
        cases gk with
        | zero => exact absurd HA.out (by simp [laws_FnLog.l0])
        | succ k3 =>
         have H := HA.out
         clear HA
         simp only [laws_FnLog.l0] at H
         by_cases c17 : x8_3 ≤ (wrap64 (1 + (Int.tmod t1518 5)))
         ·
          rw [if_pos c17] at H
          have c17b0 : decide (x8_3 ≤ (wrap64 (1 + (Int.tmod t1518 5)))) = true := decide_eq_true c17
          clear c17
          obtain ⟨y1519, hy1519⟩ : ∃ y_ : List Int, y_ = (([(x8_3) % 256] : List Int)) := ⟨_, rfl⟩
          replace H : (if y1519.length + t1514.length < 140737488355328 then ((some (y1519 ++ t1514 : List Int)).bind fun y1522 => (if (y1522.length : Int) > 1000 then (some true) else ((impl_EncodeRecord.f k3 (IntKind.u64.wrap (t1513 + (IntKind.u64.wrap (x8_3)))) y1522).bind fun t1526 => (if (t1526.length : Int) = (wrap64 (14 + (y1522.length : Int))) then (if x8_3 = (wrap64 (1 + (Int.tmod t1518 5))) then ((laws_take.f l1 1).bind fun t1529 => (if (t1526.length : Int) = 0 then (none) else (if 0 ≤ (Int.tmod t1529 (t1526.length : Int)) then (if (Int.tmod t1529 (t1526.length : Int)) ≤ (t1526.length : Int) then ((some (t1526.take ((Int.tmod t1529 (t1526.length : Int)) : Int).toNat : List Int)).bind fun y1530 => (if x7_3.length + y1530.length < 140737488355328 then (laws_FnLog.l0 k3 l0 l1 (wrap64 (1 + (Int.tmod t1518 5))) (x7_3 ++ y1530) (wrap64 (x8_3 + 1)) t1513 t1514) else (none))) else (none)) else (none)))) else (if x7_3.length + t1526.length < 140737488355328 then (laws_FnLog.l0 k3 l0 l1 (wrap64 (1 + (Int.tmod t1518 5))) (x7_3 ++ t1526) (wrap64 (x8_3 + 1)) t1513 t1514) else (none))) else (some false))))) else (none)) = some true := by first | (rw [hy1519]; with_reducible exact H) | (have H2_ := (Option.bind_some _ _).symm.trans H; rw [hy1519]; with_reducible exact H2_) | (have H2_ := (Option.bind_some _ _).symm.trans H; with_reducible exact H2_) | with_reducible exact H | (rw [hy1519]; exact H) | exact H
          have Ny1519 := Aside0.mk hy1519
          clear hy1519
          by_cases c18 : y1519.length + t1514.length < 140737488355328
          ·
           rw [if_pos c18] at H
           have LMc18 := Aside0.mk c18
           clear c18
           obtain ⟨y1522, hy1522⟩ : ∃ y_ : List Int, y_ = (y1519 ++ t1514) := ⟨_, rfl⟩
           replace H : (if (y1522.length : Int) > 1000 then (some true) else ((impl_EncodeRecord.f k3 (IntKind.u64.wrap (t1513 + (IntKind.u64.wrap (x8_3)))) y1522).bind fun t1526 => (if (t1526.length : Int) = (wrap64 (14 + (y1522.length : Int))) then (if x8_3 = (wrap64 (1 + (Int.tmod t1518 5))) then ((laws_take.f l1 1).bind fun t1529 => (if (t1526.length : Int) = 0 then (none) else (if 0 ≤ (Int.tmod t1529 (t1526.length : Int)) then (if (Int.tmod t1529 (t1526.length : Int)) ≤ (t1526.length : Int) then ((some (t1526.take ((Int.tmod t1529 (t1526.length : Int)) : Int).toNat : List Int)).bind fun y1530 => (if x7_3.length + y1530.length < 140737488355328 then (laws_FnLog.l0 k3 l0 l1 (wrap64 (1 + (Int.tmod t1518 5))) (x7_3 ++ y1530) (wrap64 (x8_3 + 1)) t1513 t1514) else (none))) else (none)) else (none)))) else (if x7_3.length + t1526.length < 140737488355328 then (laws_FnLog.l0 k3 l0 l1 (wrap64 (1 + (Int.tmod t1518 5))) (x7_3 ++ t1526) (wrap64 (x8_3 + 1)) t1513 t1514) else (none))) else (some false)))) = some true := by first | (rw [hy1522]; with_reducible exact H) | (have H2_ := (Option.bind_some _ _).symm.trans H; rw [hy1522]; with_reducible exact H2_) | (have H2_ := (Option.bind_some _ _).symm.trans H; with_reducible exact H2_) | with_reducible exact H | (rw [hy1522]; exact H) | exact H
           have Ny1522 := Aside0.mk hy1522
           clear hy1522
           by_cases c19 : (y1522.length : Int) > 1000
           ·
            rw [if_pos c19] at H
            have c19b0 : decide (1000 < (y1522.length : Int)) = true := decide_eq_true c19
            have c19b1 : decide (1000 < y1522.length) = true := decide_eq_true (by omega)
            clear c19
            first | obtain rfl := Option.some.inj H | have HRv := Option.some.inj H
            try go_wp2
            have n0_ := Aside0.mk (Kd.R_drew HO_7.out)
            have n1_ := Aside0.mk (Kd.R_drew HO_1518001.out)
            have n2_ := Aside0.mk (blk_drew BK1517.out)
            have n3_ := Aside0.mk (below_drew1 HB.out)
            clear HO_7 HO_1518001 BK1517 HB
            have HO_7 := n0_
            have HO_1518001 := n1_
            have BK1517 := n2_
            have HB := n3_
            clear n0_ n1_ n2_ n3_
            refine start_ (n := 14) (S := fun w' => w'.cell? ⟨gb1517, 0, none⟩ = some (.int .u64 t1513) ∧ w'.cell? ⟨gb1517, 1, none⟩ = some (.slice Ao12 t1514.length co12)) (ds := []) #[F, F, F, F, F, F, F, F, F, F, F, F, F, F] (by kernel_rfl) rfl rfl ⟨(blk_cell BK1517.out 0).trans rfl, (blk_cell BK1517.out 1).trans rfl⟩ (fun hHeld => ?_); refine with_tabW laws_FnLog.tab11 laws_FnLog.bits11 (fun HT_ HW_ => ?_)
            generalize wr.drew = w20 at HO_7 HO_1518001 BK1517 HB hHeld ⊢
            refine pure_ (i := 0) (N := some 49) (v := ?_) (a' := ?_) #[T, F, F, F, F, F, F, F, F, F, F, F, F, F] rfl rfl (any_of HT_.out (by kernel_rfl)) (fun _ _ _ h => h) (Or.inl ⟨by rfl, ?_⟩) ?_ ?_
            rotate_left; (intro w'; go_simp; with_reducible rfl); rotate_left; (simp only [Act.put, List.setIfInBounds_toArray, List.set_cons_zero, List.set_cons_succ, i64_w, i32_w]; rfl)
            refine pure_ (i := 2) (N := some 51) (v := ?_) (a' := ?_) #[T, F, T, F, F, F, F, F, F, F, F, F, F, F] rfl rfl (any_of HT_.out (by kernel_rfl)) (fun _ _ _ h => h) (Or.inl ⟨by rfl, ?_⟩) ?_ ?_
            rotate_left; (intro w'; go_simp; with_reducible rfl); rotate_left; (simp only [Act.put, List.setIfInBounds_toArray, List.set_cons_zero, List.set_cons_succ, i64_w, i32_w]; rfl)
            refine pure_ (i := 3) (N := some 52) (v := ?_) (a' := ?_) #[T, F, T, T, F, F, F, F, F, F, F, F, F, F] rfl rfl (any_of HT_.out (by kernel_rfl)) (fun _ _ _ h => h) (Or.inl ⟨by rfl, ?_⟩) ?_ ?_
            rotate_left; (intro w'; go_simp; with_reducible rfl); rotate_left; (simp only [Act.put, List.setIfInBounds_toArray, List.set_cons_zero, List.set_cons_succ, i64_w, i32_w]; rfl)
            refine pure_ (i := 5) (N := some 54) (v := ?_) (a' := ?_) #[T, F, T, T, F, T, F, F, F, F, F, F, F, F] rfl rfl (any_of HT_.out (by kernel_rfl)) (fun _ _ _ h => h) (Or.inl ⟨by rfl, ?_⟩) ?_ ?_
            rotate_left; (intro w'; go_simp; with_reducible rfl); rotate_left; (simp only [Act.put, List.setIfInBounds_toArray, List.set_cons_zero, List.set_cons_succ, i64_w, i32_w]; rfl)
            refine pure_ (i := 6) (N := some 55) (v := ?_) (a' := ?_) #[T, F, T, T, F, T, T, F, F, F, F, F, F, F] rfl rfl (any_of HT_.out (by kernel_rfl)) (fun _ _ _ h => h) (Or.inl ⟨by rfl, ?_⟩) ?_ ?_
            rotate_left; (intro w'; go_simp; with_reducible rfl); rotate_left; (simp only [Act.put, List.setIfInBounds_toArray, List.set_cons_zero, List.set_cons_succ, i64_w, i32_w]; rfl)
            refine pure_ (i := 8) (N := some 57) (v := ?_) (a' := ?_) #[T, F, T, T, F, T, T, F, T, F, F, F, F, F] rfl rfl (any_of HT_.out (by kernel_rfl)) (fun _ _ _ h => h) (Or.inl ⟨by rfl, ?_⟩) ?_ ?_
            rotate_left; (intro w'; go_simp; with_reducible rfl); rotate_left; (simp only [Act.put, List.setIfInBounds_toArray, List.set_cons_zero, List.set_cons_succ, i64_w, i32_w]; rfl)
            refine take_ (i := 1) (N := some 50) (v := ?_) (a' := ?_) #[T, T, T, T, F, T, T, F, T, F, F, F, F, F] rfl rfl (take_ofW HT_.out HW_.out (by kernel_rfl)) (fun _ _ _ h => h) (Or.inl ⟨by rfl, ?_⟩) hHeld ?_ ?_
            rotate_left; (rintro w' ⟨s0, s1⟩; go_simp; with_reducible rfl); rotate_left; (simp only [Act.put, List.setIfInBounds_toArray, List.set_cons_zero, List.set_cons_succ, i64_w, i32_w]; rfl)
            refine pure_ (i := 4) (N := some 53) (v := ?_) (a' := ?_) #[T, T, T, T, T, T, T, F, T, F, F, F, F, F] rfl rfl (any_of HT_.out (by kernel_rfl)) (fun _ _ _ h => h) (Or.inl ⟨by rfl, ?_⟩) ?_ ?_
            rotate_left; (intro w'; go_simp; with_reducible rfl); rotate_left; (simp only [Act.put, List.setIfInBounds_toArray, List.set_cons_zero, List.set_cons_succ, i64_w, i32_w]; rfl)
            refine take_ (i := 9) (N := some 58) (v := ?_) (a' := ?_) #[T, T, T, T, T, T, T, F, T, T, F, F, F, F] rfl rfl (take_ofW HT_.out HW_.out (by kernel_rfl)) (fun _ _ _ h => h) (Or.inl ⟨by rfl, ?_⟩) hHeld ?_ ?_
            rotate_left; (rintro w' ⟨s0, s1⟩; go_simp; with_reducible rfl); rotate_left; (simp only [Act.put, List.setIfInBounds_toArray, List.set_cons_zero, List.set_cons_succ, i64_w, i32_w]; rfl)
            refine join_ (σ := Value × Value × Nat) 1 #[T, T, T, T, T, T, T, T, T, T, T, T, T, F] (fun s_ => [(56, s_.1), (59, s_.2.1), (9, .pointer (some ⟨s_.2.2, 0, none⟩)), (60, .agg #[.int .u64 (IntKind.u64.wrap (t1513 + (IntKind.u64.wrap (x8_3)))), s_.2.1])]) (fun s_ w' => (w'.cell? ⟨gb1517, 0, none⟩ = some (.int .u64 t1513) ∧ w'.cell? ⟨gb1517, 1, none⟩ = some (.slice Ao12 t1514.length co12)) ∧ (Kd.R (Kd.int .u8) 5 w' w.heap.size (fun k_ => some k_ ≠ (.slice Ao12 t1514.length co12 : Value).ownBlock ∧ some k_ ≠ (u7 : Value).ownBlock) s_.2.1 y1522) ∧ (Kd.R (Kd.int .u8) 5 w' w.heap.size (fun k_ => some k_ ≠ (s_.2.1 : Value).ownBlock ∧ some k_ ≠ (u7 : Value).ownBlock) (.slice Ao12 t1514.length co12) t1514) ∧ (Kd.R (Kd.int .u8) 5 w' w.heap.size (fun k_ => some k_ ≠ (s_.2.1 : Value).ownBlock ∧ some k_ ≠ (.slice Ao12 t1514.length co12 : Value).ownBlock) u7 x7_3) ∧ (w'.heap[gb1517]? = some (.cells #[.int .u64 t1513, .slice Ao12 t1514.length co12] 45 (0, 0))) ∧ (w'.heap[s_.2.2]? = some (.cells #[.int .u64 0, .slice none 0 0] 45 (0, 0))) ∧ (w.heap.size ≤ s_.2.2) ∧ (w.heap.size ≤ s_.2.2) ∧ (gb1517 ≠ s_.2.2) ∧ (s_.2.2 ≠ gb1517) ∧ (Below w.heap.size w w')) ?_ ?_
            rotate_left
            ·
             intro hCont
             refine two_ (i := 7) (j := 12) (Ni := some 56) (Nj := some 9) #[T, T, T, T, T, T, T, T, T, T, F, F, F, F] #[T, T, T, T, T, T, T, F, T, T, F, F, T, F] rfl rfl rfl rfl (two_of HT_.out (by kernel_rfl)) (by decide) (by decide) (fun K hK => ?_) (fun K hK => ?_)
             ·
              skip
              refine Kd.R_lit_step (Kd.int .u8) _ 5 ?hg (N := 56) ?hd (xs := ([(x8_3) % 256] : List Int)) (inner := [.int .u8 ((x8_3) % 256)]) (ok := fun _ => True) (okp := fun _ => True) ?hr ?hp (fun _ hk => hk) trivial (Below.refl _ _) (Nat.le_refl _) (by simp) ?_; (case hd => rfl); (case hg => rfl); (case hr => first | (go_simp; done) | (go_simp; rfl)); (case hp => exact (Reps.one (show Kd.M (Kd.int .u8) _ _ _ ((x8_3) % 256) [.int .u8 ((x8_3) % 256)] from rfl) (Reps.none _ _)))
              intro v1520 w21 ho22 hb hg_ hnew_
              clear hg_ hnew_
              (first | rw [← Ny1519.out] at ho22 | (simp only [Int.reduceToNat] at ho22; rw [← Ny1519.out] at ho22))
              have n0_ := Aside0.mk (Kd.R_elder' (by (with_reducible repeat (first | apply Kd.R_alloc | apply Kd.R_drewN | apply Kd.R_drew)); exact HO_7.out) (Kd.R_base ho22) hb)
              have n1_ := Aside0.mk (Kd.R_elder' (by (with_reducible repeat (first | apply Kd.R_alloc | apply Kd.R_drewN | apply Kd.R_drew)); exact HO_1518001.out) (Kd.R_base ho22) hb)
              have n2_ := Aside0.mk (Kd.R_lower (Kd.R_new' (Kd.R_new' ho22 (Kd.R_lt (by (with_reducible repeat (first | apply Kd.R_alloc | apply Kd.R_drewN | apply Kd.R_drew)); exact HO_7.out))) (Kd.R_lt (by (with_reducible repeat (first | apply Kd.R_alloc | apply Kd.R_drewN | apply Kd.R_drew)); exact HO_1518001.out))) (below_size (by repeat (first | (with_reducible first | exact HB.out | apply below_alloc | apply pw_below_drewN | apply below_drew1 | refine below_set ?_ GE1517.out) | exact HB.out))))
              have n3_ := Aside0.mk (blk_below (g := gb1517) (o := .cells #[.int .u64 t1513, .slice Ao12 t1514.length co12] 45 (0, 0)) (by (with_reducible repeat (first | refine blk_drewN ?_ _ | refine blk_drew ?_ | refine blk_alloc ?_ _)); exact BK1517.out) hb)
              have n4_ := Aside0.mk (below_step (by repeat (first | (with_reducible first | exact HB.out | apply below_alloc | apply pw_below_drewN | apply below_drew1 | refine below_set ?_ GE1517.out) | exact HB.out)) hb)
              clear HO_7 HO_1518001 BK1517 HB
              have HO_7 := n0_
              have HO_1518001 := n1_
              have HO1521 := n2_
              have BK1517 := n3_
              have HB := n4_
              clear n0_ n1_ n2_ n3_ n4_ hb ho22
              refine hK.out _ _ ⟨(blk_cell BK1517.out 0).trans rfl, (blk_cell BK1517.out 1).trans rfl⟩ (fun hHeld => ?_)
              clear hK K
              refine norm_ (a' := ?_) ?_ ?_
              rotate_left
              ·
               show Act.put _ (some 56) _ = _
               simp only [Act.put, List.setIfInBounds_toArray, List.set_cons_zero, List.set_cons_succ, i64_w, i32_w]
               rfl
              refine two_ (i := 10) (j := 12) (Ni := some 59) (Nj := some 9) #[T, T, T, T, T, T, T, T, T, T, T, F, F, F] #[T, T, T, T, T, T, T, T, T, T, F, F, T, F] rfl rfl rfl rfl (two_of HT_.out (by kernel_rfl)) (by decide) (by decide) (fun K hK => ?_) (fun K hK => ?_)
              ·
               skip
               refine Kd.R_append_rows_step (Kd.int .u8) (w0 := w) w.heap.size (by rfl) (.tmp 56) (.tmp 58) 22 5 (.int .u8 0) 1 rfl Try.underlying22 info5 rfl (by decide) (by omega) v1520 y1519 t1514 _ _ _ (fun k_ => some k_ ≠ (u7 : Value).ownBlock ∧ some k_ ≠ (.slice Ao12 t1514.length co12 : Value).ownBlock) (fun _ => False) rfl rfl ?aO ?aR (fun _ _ h => h) (fun _ h => h.elim) ?aF ?aB ?aS ?aL ?_
               (case aR => repeat (first | exact (Kd.R_reads' HO_1518001.out).2.2 | (with_reducible refine Kd.C_alloc ?_ _) | (with_reducible refine Kd.C_drewN ?_ _) | (with_reducible refine Kd.C_drew ?_)))
               (case aB => exact (by repeat (first | (with_reducible first | exact HB.out | apply below_alloc | apply pw_below_drewN | apply below_drew1 | refine below_set ?_ GE1517.out) | exact HB.out)))
               (case aF => exact (fun k_ hk => ⟨Kd.fresh' (Kd.R_lt (by (with_reducible repeat (first | apply Kd.R_alloc | apply Kd.R_drewN | apply Kd.R_drew)); exact HO_7.out)) k_ hk, Kd.fresh' (Kd.R_lt (by (with_reducible repeat (first | apply Kd.R_alloc | apply Kd.R_drewN | apply Kd.R_drew)); exact HO_1518001.out)) k_ hk⟩))
               (case aO => exact (by (with_reducible repeat (first | apply Kd.R_alloc | apply Kd.R_drewN | apply Kd.R_drew)); exact Kd.R_mono HO1521.out (fun _ hk => ⟨hk.1.2, hk.2⟩)))
               (case aS => exact (below_size (by repeat (first | (with_reducible first | exact HB.out | apply below_alloc | apply pw_below_drewN | apply below_drew1 | refine below_set ?_ GE1517.out) | exact HB.out))))
               (case aL => have := LMc18.out; omega)
               intro v1523 w23 ho hb hg hat
               rw [← Ny1522.out] at ho
               have n0_ := Aside0.mk (Kd.R_after (ok := (fun k_ => some k_ ≠ (.slice Ao12 t1514.length co12 : Value).ownBlock)) (by (with_reducible repeat (first | apply Kd.R_alloc | apply Kd.R_drewN | apply Kd.R_drew)); exact HO_7.out) hg hat)
               have n1_ := Aside0.mk (Kd.R_after (ok := (fun k_ => some k_ ≠ (u7 : Value).ownBlock)) (by (with_reducible repeat (first | apply Kd.R_alloc | apply Kd.R_drewN | apply Kd.R_drew)); exact HO_1518001.out) hg hat)
               have n2_ := Aside0.mk (blk_grown (g := gb1517) (o := .cells #[.int .u64 t1513, .slice Ao12 t1514.length co12] 45 (0, 0)) (by (with_reducible repeat (first | refine blk_drewN ?_ _ | refine blk_drew ?_ | refine blk_alloc ?_ _)); exact BK1517.out) hg (Kd.R_ne HO1521.out BK1517.out (by decide)))
               have n3_ := Aside0.mk (hb)
               have n4_ := Aside0.mk (ho)
               clear HO_7 HO_1518001 BK1517 HB HO1521
               have HO_7 := n0_
               have HO_1518001 := n1_
               have BK1517 := n2_
               have HB := n3_
               have HO1524 := n4_
               clear n0_ n1_ n2_ n3_ n4_ ho hb hg hat
               obtain ⟨Ao24, co24, eo24⟩ := Kd.R_slice HO1524.out
               (first | subst eo24 | (injection eo24 with f1_ f2_ f3_; have f4_ := f1_.symm; have f5_ := f3_.symm; clear f1_ f2_ f3_; subst f4_; subst f5_))
               refine hK.out _ _ ⟨(blk_cell BK1517.out 0).trans rfl, (blk_cell BK1517.out 1).trans rfl⟩ (fun hHeld => ?_)
               clear hK K
               refine norm_ (a' := ?_) ?_ ?_
               rotate_left
               ·
                show Act.put _ (some 59) _ = _
                simp only [Act.put, List.setIfInBounds_toArray, List.set_cons_zero, List.set_cons_succ, i64_w, i32_w]
                rfl
               refine pure_ (i := 11) (N := some 60) (v := ?_) (a' := ?_) #[T, T, T, T, T, T, T, T, T, T, T, T, F, F] rfl rfl (any_of HT_.out (by kernel_rfl)) (fun _ _ _ h => h) (Or.inl ⟨by rfl, ?_⟩) ?_ ?_
               rotate_left; (intro w'; go_simp; with_reducible rfl); rotate_left; (simp only [Act.put, List.setIfInBounds_toArray, List.set_cons_zero, List.set_cons_succ, i64_w, i32_w]; rfl)
               refine one_ (i := 12) (N := some 9) #[T, T, T, T, T, T, T, T, T, T, T, T, T, F] rfl rfl (one_of HT_.out (by kernel_rfl)) (by decide) (fun K hK => ?_)
               refine box_step ?hg (N := 9) ?hd (cs := #[.int .u64 0, .slice none 0 0]) (t := 45) ?hr ?_; (case hd => rfl); (case hg => rfl); (case hr => first | (go_simp; done) | (go_simp; rfl))
               intro gb1525 hg w25 hbox hb
               have n0_ := Aside0.mk (Kd.R_below (by (with_reducible repeat (first | apply Kd.R_alloc | apply Kd.R_drewN | apply Kd.R_drew)); exact HO_7.out) hb)
               have n1_ := Aside0.mk (Kd.R_below (by (with_reducible repeat (first | apply Kd.R_alloc | apply Kd.R_drewN | apply Kd.R_drew)); exact HO_1518001.out) hb)
               have n2_ := Aside0.mk (Kd.R_below (by (with_reducible repeat (first | apply Kd.R_alloc | apply Kd.R_drewN | apply Kd.R_drew)); exact HO1524.out) hb)
               have n3_ := Aside0.mk (blk_below (g := gb1517) (o := .cells #[.int .u64 t1513, .slice Ao12 t1514.length co12] 45 (0, 0)) (by (with_reducible repeat (first | refine blk_drewN ?_ _ | refine blk_drew ?_ | refine blk_alloc ?_ _)); exact BK1517.out) hb)
               have n4_ := Aside0.mk (below_step (by repeat (first | (with_reducible first | exact HB.out | apply below_alloc | apply pw_below_drewN | apply below_drew1 | refine below_set ?_ GE1517.out) | exact HB.out)) hb)
               have n5_ := Aside0.mk (hbox)
               have n6_ := Aside0.mk ((by rw [hg]; exact (below_size (by repeat (first | (with_reducible first | exact HB.out | apply below_alloc | apply pw_below_drewN | apply below_drew1 | refine below_set ?_ GE1517.out) | exact HB.out))) : w.heap.size ≤ gb1525))
               have n7_ := Aside0.mk ((by rw [hg]; exact (below_size (by repeat (first | (with_reducible first | exact HB.out | apply below_alloc | apply pw_below_drewN | apply below_drew1 | refine below_set ?_ GE1517.out) | exact HB.out))) : w.heap.size ≤ gb1525))
               have n8_ := Aside0.mk ((by rw [hg]; exact Nat.ne_of_lt (blk_lt (g := gb1517) (o := .cells #[.int .u64 t1513, .slice Ao12 t1514.length co12] 45 (0, 0)) (by (with_reducible repeat (first | refine blk_drewN ?_ _ | refine blk_drew ?_ | refine blk_alloc ?_ _)); exact BK1517.out)) : gb1517 ≠ gb1525))
               have n9_ := Aside0.mk ((by rw [hg]; exact Nat.ne_of_gt (blk_lt (g := gb1517) (o := .cells #[.int .u64 t1513, .slice Ao12 t1514.length co12] 45 (0, 0)) (by (with_reducible repeat (first | refine blk_drewN ?_ _ | refine blk_drew ?_ | refine blk_alloc ?_ _)); exact BK1517.out)) : gb1525 ≠ gb1517))
               clear HO_7 HO_1518001 HO1524 BK1517 HB
               have HO_7 := n0_
               have HO_1518001 := n1_
               have HO1524 := n2_
               have BK1517 := n3_
               have HB := n4_
               have BK1525 := n5_
               have GW1525 := n6_
               have GE1525 := n7_
               have NB1517_1525 := n8_
               have NB1525_1517 := n9_
               clear n0_ n1_ n2_ n3_ n4_ n5_ n6_ n7_ n8_ n9_ hb hbox hg
               refine hK.out _ _ ⟨(blk_cell BK1517.out 0).trans rfl, (blk_cell BK1517.out 1).trans rfl⟩ (fun hHeld => ?_)
               clear hK K
               refine norm_ (a' := ?_) ?_ ?_
               rotate_left
               ·
                show Act.put _ (some 9) _ = _
                simp only [Act.put, List.setIfInBounds_toArray, List.set_cons_zero, List.set_cons_succ, i64_w, i32_w]
                rfl
               exact norm_ (by simp only [putAll, Act.put, List.setIfInBounds_toArray, List.set_cons_zero, List.set_cons_succ]) (hCont (v1520, .slice Ao24 y1522.length co24, gb1525) _ ⟨hHeld, (by (with_reducible repeat (first | apply Kd.R_alloc | apply Kd.R_drewN | apply Kd.R_drew)); exact Kd.R_mono HO1524.out (fun _ hk => ⟨hk.2, hk.1⟩)), (by (with_reducible repeat (first | apply Kd.R_alloc | apply Kd.R_drewN | apply Kd.R_drew)); exact Kd.R_mono HO_1518001.out (fun _ hk => ⟨hk.2, hk.1⟩)), (by (with_reducible repeat (first | apply Kd.R_alloc | apply Kd.R_drewN | apply Kd.R_drew)); exact Kd.R_mono HO_7.out (fun _ hk => ⟨hk.2, hk.1⟩)), (by (with_reducible repeat (first | refine blk_drewN ?_ _ | refine blk_drew ?_ | refine blk_alloc ?_ _)); exact BK1517.out), (by (with_reducible repeat (first | refine blk_drewN ?_ _ | refine blk_drew ?_ | refine blk_alloc ?_ _)); exact BK1525.out), GW1525.out, GE1525.out, NB1517_1525.out, NB1525_1517.out, (by repeat (first | (with_reducible first | exact HB.out | apply below_alloc | apply pw_below_drewN | apply below_drew1 | refine below_set ?_ GE1517.out | refine below_set ?_ GE1525.out) | exact HB.out))⟩)
              ·
               skip
               refine box_step ?hg (N := 9) ?hd (cs := #[.int .u64 0, .slice none 0 0]) (t := 45) ?hr ?_; (case hd => rfl); (case hg => rfl); (case hr => first | (go_simp; done) | (go_simp; rfl))
               intro gb1525 hg w23 hbox hb
               have n0_ := Aside0.mk (Kd.R_below (by (with_reducible repeat (first | apply Kd.R_alloc | apply Kd.R_drewN | apply Kd.R_drew)); exact HO_7.out) hb)
               have n1_ := Aside0.mk (Kd.R_below (by (with_reducible repeat (first | apply Kd.R_alloc | apply Kd.R_drewN | apply Kd.R_drew)); exact HO_1518001.out) hb)
               have n2_ := Aside0.mk (Kd.R_below (by (with_reducible repeat (first | apply Kd.R_alloc | apply Kd.R_drewN | apply Kd.R_drew)); exact HO1521.out) hb)
               have n3_ := Aside0.mk (blk_below (g := gb1517) (o := .cells #[.int .u64 t1513, .slice Ao12 t1514.length co12] 45 (0, 0)) (by (with_reducible repeat (first | refine blk_drewN ?_ _ | refine blk_drew ?_ | refine blk_alloc ?_ _)); exact BK1517.out) hb)
               have n4_ := Aside0.mk (below_step (by repeat (first | (with_reducible first | exact HB.out | apply below_alloc | apply pw_below_drewN | apply below_drew1 | refine below_set ?_ GE1517.out) | exact HB.out)) hb)
               have n5_ := Aside0.mk (hbox)
               have n6_ := Aside0.mk ((by rw [hg]; exact (below_size (by repeat (first | (with_reducible first | exact HB.out | apply below_alloc | apply pw_below_drewN | apply below_drew1 | refine below_set ?_ GE1517.out) | exact HB.out))) : w.heap.size ≤ gb1525))
               have n7_ := Aside0.mk ((by rw [hg]; exact (below_size (by repeat (first | (with_reducible first | exact HB.out | apply below_alloc | apply pw_below_drewN | apply below_drew1 | refine below_set ?_ GE1517.out) | exact HB.out))) : w.heap.size ≤ gb1525))
               have n8_ := Aside0.mk ((by rw [hg]; exact Nat.ne_of_lt (blk_lt (g := gb1517) (o := .cells #[.int .u64 t1513, .slice Ao12 t1514.length co12] 45 (0, 0)) (by (with_reducible repeat (first | refine blk_drewN ?_ _ | refine blk_drew ?_ | refine blk_alloc ?_ _)); exact BK1517.out)) : gb1517 ≠ gb1525))
               have n9_ := Aside0.mk ((by rw [hg]; exact Nat.ne_of_gt (blk_lt (g := gb1517) (o := .cells #[.int .u64 t1513, .slice Ao12 t1514.length co12] 45 (0, 0)) (by (with_reducible repeat (first | refine blk_drewN ?_ _ | refine blk_drew ?_ | refine blk_alloc ?_ _)); exact BK1517.out)) : gb1525 ≠ gb1517))
               clear HO_7 HO_1518001 HO1521 BK1517 HB
               have HO_7 := n0_
               have HO_1518001 := n1_
               have HO1521 := n2_
               have BK1517 := n3_
               have HB := n4_
               have BK1525 := n5_
               have GW1525 := n6_
               have GE1525 := n7_
               have NB1517_1525 := n8_
               have NB1525_1517 := n9_
               clear n0_ n1_ n2_ n3_ n4_ n5_ n6_ n7_ n8_ n9_ hb hbox hg
               refine hK.out _ _ ⟨(blk_cell BK1517.out 0).trans rfl, (blk_cell BK1517.out 1).trans rfl⟩ (fun hHeld => ?_)
               clear hK K
               refine norm_ (a' := ?_) ?_ ?_
               rotate_left
               ·
                show Act.put _ (some 9) _ = _
                simp only [Act.put, List.setIfInBounds_toArray, List.set_cons_zero, List.set_cons_succ, i64_w, i32_w]
                rfl
               refine one_ (i := 10) (N := some 59) #[T, T, T, T, T, T, T, T, T, T, T, F, T, F] rfl rfl (one_of HT_.out (by kernel_rfl)) (by decide) (fun K hK => ?_)
               refine Kd.R_append_rows_step (Kd.int .u8) (w0 := w) w.heap.size (by rfl) (.tmp 56) (.tmp 58) 22 5 (.int .u8 0) 1 rfl Try.underlying22 info5 rfl (by decide) (by omega) v1520 y1519 t1514 _ _ _ (fun k_ => some k_ ≠ (u7 : Value).ownBlock ∧ some k_ ≠ (.slice Ao12 t1514.length co12 : Value).ownBlock) (fun _ => False) rfl rfl ?aO ?aR (fun _ _ h => h) (fun _ h => h.elim) ?aF ?aB ?aS ?aL ?_
               (case aR => repeat (first | exact (Kd.R_reads' HO_1518001.out).2.2 | (with_reducible refine Kd.C_alloc ?_ _) | (with_reducible refine Kd.C_drewN ?_ _) | (with_reducible refine Kd.C_drew ?_)))
               (case aB => exact (by repeat (first | (with_reducible first | exact HB.out | apply below_alloc | apply pw_below_drewN | apply below_drew1 | refine below_set ?_ GE1517.out | refine below_set ?_ GE1525.out) | exact HB.out)))
               (case aF => exact (fun k_ hk => ⟨Kd.fresh' (Kd.R_lt (by (with_reducible repeat (first | apply Kd.R_alloc | apply Kd.R_drewN | apply Kd.R_drew)); exact HO_7.out)) k_ hk, Kd.fresh' (Kd.R_lt (by (with_reducible repeat (first | apply Kd.R_alloc | apply Kd.R_drewN | apply Kd.R_drew)); exact HO_1518001.out)) k_ hk⟩))
               (case aO => exact (by (with_reducible repeat (first | apply Kd.R_alloc | apply Kd.R_drewN | apply Kd.R_drew)); exact Kd.R_mono HO1521.out (fun _ hk => ⟨hk.1.2, hk.2⟩)))
               (case aS => exact (below_size (by repeat (first | (with_reducible first | exact HB.out | apply below_alloc | apply pw_below_drewN | apply below_drew1 | refine below_set ?_ GE1517.out | refine below_set ?_ GE1525.out) | exact HB.out))))
               (case aL => have := LMc18.out; omega)
               intro v1523 w24 ho hb hg hat
               rw [← Ny1522.out] at ho
               have n0_ := Aside0.mk (Kd.R_after (ok := (fun k_ => some k_ ≠ (.slice Ao12 t1514.length co12 : Value).ownBlock)) (by (with_reducible repeat (first | apply Kd.R_alloc | apply Kd.R_drewN | apply Kd.R_drew)); exact HO_7.out) hg hat)
               have n1_ := Aside0.mk (Kd.R_after (ok := (fun k_ => some k_ ≠ (u7 : Value).ownBlock)) (by (with_reducible repeat (first | apply Kd.R_alloc | apply Kd.R_drewN | apply Kd.R_drew)); exact HO_1518001.out) hg hat)
               have n2_ := Aside0.mk (blk_grown (g := gb1517) (o := .cells #[.int .u64 t1513, .slice Ao12 t1514.length co12] 45 (0, 0)) (by (with_reducible repeat (first | refine blk_drewN ?_ _ | refine blk_drew ?_ | refine blk_alloc ?_ _)); exact BK1517.out) hg (Kd.R_ne HO1521.out BK1517.out (by decide)))
               have n3_ := Aside0.mk (blk_grown (g := gb1525) (o := .cells #[.int .u64 0, .slice none 0 0] 45 (0, 0)) (by (with_reducible repeat (first | refine blk_drewN ?_ _ | refine blk_drew ?_ | refine blk_alloc ?_ _)); exact BK1525.out) hg (Kd.R_ne HO1521.out BK1525.out (by decide)))
               have n4_ := Aside0.mk (hb)
               have n5_ := Aside0.mk (ho)
               clear HO_7 HO_1518001 BK1517 BK1525 HB HO1521
               have HO_7 := n0_
               have HO_1518001 := n1_
               have BK1517 := n2_
               have BK1525 := n3_
               have HB := n4_
               have HO1524 := n5_
               clear n0_ n1_ n2_ n3_ n4_ n5_ ho hb hg hat
               obtain ⟨Ao25, co25, eo25⟩ := Kd.R_slice HO1524.out
               (first | subst eo25 | (injection eo25 with f1_ f2_ f3_; have f4_ := f1_.symm; have f5_ := f3_.symm; clear f1_ f2_ f3_; subst f4_; subst f5_))
               refine hK.out _ _ ⟨(blk_cell BK1517.out 0).trans rfl, (blk_cell BK1517.out 1).trans rfl⟩ (fun hHeld => ?_)
               clear hK K
               refine norm_ (a' := ?_) ?_ ?_
               rotate_left
               ·
                show Act.put _ (some 59) _ = _
                simp only [Act.put, List.setIfInBounds_toArray, List.set_cons_zero, List.set_cons_succ, i64_w, i32_w]
                rfl
               refine pure_ (i := 11) (N := some 60) (v := ?_) (a' := ?_) #[T, T, T, T, T, T, T, T, T, T, T, T, T, F] rfl rfl (any_of HT_.out (by kernel_rfl)) (fun _ _ _ h => h) (Or.inl ⟨by rfl, ?_⟩) ?_ ?_
               rotate_left; (intro w'; go_simp; with_reducible rfl); rotate_left; (simp only [Act.put, List.setIfInBounds_toArray, List.set_cons_zero, List.set_cons_succ, i64_w, i32_w]; rfl)
               exact norm_ (by simp only [putAll, Act.put, List.setIfInBounds_toArray, List.set_cons_zero, List.set_cons_succ]) (hCont (v1520, .slice Ao25 y1522.length co25, gb1525) _ ⟨hHeld, (by (with_reducible repeat (first | apply Kd.R_alloc | apply Kd.R_drewN | apply Kd.R_drew)); exact Kd.R_mono HO1524.out (fun _ hk => ⟨hk.2, hk.1⟩)), (by (with_reducible repeat (first | apply Kd.R_alloc | apply Kd.R_drewN | apply Kd.R_drew)); exact Kd.R_mono HO_1518001.out (fun _ hk => ⟨hk.2, hk.1⟩)), (by (with_reducible repeat (first | apply Kd.R_alloc | apply Kd.R_drewN | apply Kd.R_drew)); exact Kd.R_mono HO_7.out (fun _ hk => ⟨hk.2, hk.1⟩)), (by (with_reducible repeat (first | refine blk_drewN ?_ _ | refine blk_drew ?_ | refine blk_alloc ?_ _)); exact BK1517.out), (by (with_reducible repeat (first | refine blk_drewN ?_ _ | refine blk_drew ?_ | refine blk_alloc ?_ _)); exact BK1525.out), GW1525.out, GE1525.out, NB1517_1525.out, NB1525_1517.out, (by repeat (first | (with_reducible first | exact HB.out | apply below_alloc | apply pw_below_drewN | apply below_drew1 | refine below_set ?_ GE1517.out | refine below_set ?_ GE1525.out) | exact HB.out))⟩)
             ·
              skip
              refine box_step ?hg (N := 9) ?hd (cs := #[.int .u64 0, .slice none 0 0]) (t := 45) ?hr ?_; (case hd => rfl); (case hg => rfl); (case hr => first | (go_simp; done) | (go_simp; rfl))
              intro gb1525 hg w21 hbox hb
              have n0_ := Aside0.mk (Kd.R_below (by (with_reducible repeat (first | apply Kd.R_alloc | apply Kd.R_drewN | apply Kd.R_drew)); exact HO_7.out) hb)
              have n1_ := Aside0.mk (Kd.R_below (by (with_reducible repeat (first | apply Kd.R_alloc | apply Kd.R_drewN | apply Kd.R_drew)); exact HO_1518001.out) hb)
              have n2_ := Aside0.mk (blk_below (g := gb1517) (o := .cells #[.int .u64 t1513, .slice Ao12 t1514.length co12] 45 (0, 0)) (by (with_reducible repeat (first | refine blk_drewN ?_ _ | refine blk_drew ?_ | refine blk_alloc ?_ _)); exact BK1517.out) hb)
              have n3_ := Aside0.mk (below_step (by repeat (first | (with_reducible first | exact HB.out | apply below_alloc | apply pw_below_drewN | apply below_drew1 | refine below_set ?_ GE1517.out) | exact HB.out)) hb)
              have n4_ := Aside0.mk (hbox)
              have n5_ := Aside0.mk ((by rw [hg]; exact (below_size (by repeat (first | (with_reducible first | exact HB.out | apply below_alloc | apply pw_below_drewN | apply below_drew1 | refine below_set ?_ GE1517.out) | exact HB.out))) : w.heap.size ≤ gb1525))
              have n6_ := Aside0.mk ((by rw [hg]; exact (below_size (by repeat (first | (with_reducible first | exact HB.out | apply below_alloc | apply pw_below_drewN | apply below_drew1 | refine below_set ?_ GE1517.out) | exact HB.out))) : w.heap.size ≤ gb1525))
              have n7_ := Aside0.mk ((by rw [hg]; exact Nat.ne_of_lt (blk_lt (g := gb1517) (o := .cells #[.int .u64 t1513, .slice Ao12 t1514.length co12] 45 (0, 0)) (by (with_reducible repeat (first | refine blk_drewN ?_ _ | refine blk_drew ?_ | refine blk_alloc ?_ _)); exact BK1517.out)) : gb1517 ≠ gb1525))
              have n8_ := Aside0.mk ((by rw [hg]; exact Nat.ne_of_gt (blk_lt (g := gb1517) (o := .cells #[.int .u64 t1513, .slice Ao12 t1514.length co12] 45 (0, 0)) (by (with_reducible repeat (first | refine blk_drewN ?_ _ | refine blk_drew ?_ | refine blk_alloc ?_ _)); exact BK1517.out)) : gb1525 ≠ gb1517))
              clear HO_7 HO_1518001 BK1517 HB
              have HO_7 := n0_
              have HO_1518001 := n1_
              have BK1517 := n2_
              have HB := n3_
              have BK1525 := n4_
              have GW1525 := n5_
              have GE1525 := n6_
              have NB1517_1525 := n7_
              have NB1525_1517 := n8_
              clear n0_ n1_ n2_ n3_ n4_ n5_ n6_ n7_ n8_ hb hbox hg
              refine hK.out _ _ ⟨(blk_cell BK1517.out 0).trans rfl, (blk_cell BK1517.out 1).trans rfl⟩ (fun hHeld => ?_)
              clear hK K
              refine norm_ (a' := ?_) ?_ ?_
              rotate_left
              ·
               show Act.put _ (some 9) _ = _
               simp only [Act.put, List.setIfInBounds_toArray, List.set_cons_zero, List.set_cons_succ, i64_w, i32_w]
               rfl
              refine one_ (i := 7) (N := some 56) #[T, T, T, T, T, T, T, T, T, T, F, F, T, F] rfl rfl (one_of HT_.out (by kernel_rfl)) (by decide) (fun K hK => ?_)
              refine Kd.R_lit_step (Kd.int .u8) _ 5 ?hg (N := 56) ?hd (xs := ([(x8_3) % 256] : List Int)) (inner := [.int .u8 ((x8_3) % 256)]) (ok := fun _ => True) (okp := fun _ => True) ?hr ?hp (fun _ hk => hk) trivial (Below.refl _ _) (Nat.le_refl _) (by simp) ?_; (case hd => rfl); (case hg => rfl); (case hr => first | (go_simp; done) | (go_simp; rfl)); (case hp => exact (Reps.one (show Kd.M (Kd.int .u8) _ _ _ ((x8_3) % 256) [.int .u8 ((x8_3) % 256)] from rfl) (Reps.none _ _)))
              intro v1520 w22 ho23 hb hg_ hnew_
              clear hg_ hnew_
              (first | rw [← Ny1519.out] at ho23 | (simp only [Int.reduceToNat] at ho23; rw [← Ny1519.out] at ho23))
              have n0_ := Aside0.mk (Kd.R_elder' (by (with_reducible repeat (first | apply Kd.R_alloc | apply Kd.R_drewN | apply Kd.R_drew)); exact HO_7.out) (Kd.R_base ho23) hb)
              have n1_ := Aside0.mk (Kd.R_elder' (by (with_reducible repeat (first | apply Kd.R_alloc | apply Kd.R_drewN | apply Kd.R_drew)); exact HO_1518001.out) (Kd.R_base ho23) hb)
              have n2_ := Aside0.mk (Kd.R_lower (Kd.R_new' (Kd.R_new' ho23 (Kd.R_lt (by (with_reducible repeat (first | apply Kd.R_alloc | apply Kd.R_drewN | apply Kd.R_drew)); exact HO_7.out))) (Kd.R_lt (by (with_reducible repeat (first | apply Kd.R_alloc | apply Kd.R_drewN | apply Kd.R_drew)); exact HO_1518001.out))) (below_size (by repeat (first | (with_reducible first | exact HB.out | apply below_alloc | apply pw_below_drewN | apply below_drew1 | refine below_set ?_ GE1517.out | refine below_set ?_ GE1525.out) | exact HB.out))))
              have n3_ := Aside0.mk (blk_below (g := gb1517) (o := .cells #[.int .u64 t1513, .slice Ao12 t1514.length co12] 45 (0, 0)) (by (with_reducible repeat (first | refine blk_drewN ?_ _ | refine blk_drew ?_ | refine blk_alloc ?_ _)); exact BK1517.out) hb)
              have n4_ := Aside0.mk (blk_below (g := gb1525) (o := .cells #[.int .u64 0, .slice none 0 0] 45 (0, 0)) (by (with_reducible repeat (first | refine blk_drewN ?_ _ | refine blk_drew ?_ | refine blk_alloc ?_ _)); exact BK1525.out) hb)
              have n5_ := Aside0.mk (below_step (by repeat (first | (with_reducible first | exact HB.out | apply below_alloc | apply pw_below_drewN | apply below_drew1 | refine below_set ?_ GE1517.out | refine below_set ?_ GE1525.out) | exact HB.out)) hb)
              clear HO_7 HO_1518001 BK1517 BK1525 HB
              have HO_7 := n0_
              have HO_1518001 := n1_
              have HO1521 := n2_
              have BK1517 := n3_
              have BK1525 := n4_
              have HB := n5_
              clear n0_ n1_ n2_ n3_ n4_ n5_ hb ho23
              refine hK.out _ _ ⟨(blk_cell BK1517.out 0).trans rfl, (blk_cell BK1517.out 1).trans rfl⟩ (fun hHeld => ?_)
              clear hK K
              refine norm_ (a' := ?_) ?_ ?_
              rotate_left
              ·
               show Act.put _ (some 56) _ = _
               simp only [Act.put, List.setIfInBounds_toArray, List.set_cons_zero, List.set_cons_succ, i64_w, i32_w]
               rfl
              refine one_ (i := 10) (N := some 59) #[T, T, T, T, T, T, T, T, T, T, T, F, T, F] rfl rfl (one_of HT_.out (by kernel_rfl)) (by decide) (fun K hK => ?_)
              refine Kd.R_append_rows_step (Kd.int .u8) (w0 := w) w.heap.size (by rfl) (.tmp 56) (.tmp 58) 22 5 (.int .u8 0) 1 rfl Try.underlying22 info5 rfl (by decide) (by omega) v1520 y1519 t1514 _ _ _ (fun k_ => some k_ ≠ (u7 : Value).ownBlock ∧ some k_ ≠ (.slice Ao12 t1514.length co12 : Value).ownBlock) (fun _ => False) rfl rfl ?aO ?aR (fun _ _ h => h) (fun _ h => h.elim) ?aF ?aB ?aS ?aL ?_
              (case aR => repeat (first | exact (Kd.R_reads' HO_1518001.out).2.2 | (with_reducible refine Kd.C_alloc ?_ _) | (with_reducible refine Kd.C_drewN ?_ _) | (with_reducible refine Kd.C_drew ?_)))
              (case aB => exact (by repeat (first | (with_reducible first | exact HB.out | apply below_alloc | apply pw_below_drewN | apply below_drew1 | refine below_set ?_ GE1517.out | refine below_set ?_ GE1525.out) | exact HB.out)))
              (case aF => exact (fun k_ hk => ⟨Kd.fresh' (Kd.R_lt (by (with_reducible repeat (first | apply Kd.R_alloc | apply Kd.R_drewN | apply Kd.R_drew)); exact HO_7.out)) k_ hk, Kd.fresh' (Kd.R_lt (by (with_reducible repeat (first | apply Kd.R_alloc | apply Kd.R_drewN | apply Kd.R_drew)); exact HO_1518001.out)) k_ hk⟩))
              (case aO => exact (by (with_reducible repeat (first | apply Kd.R_alloc | apply Kd.R_drewN | apply Kd.R_drew)); exact Kd.R_mono HO1521.out (fun _ hk => ⟨hk.1.2, hk.2⟩)))
              (case aS => exact (below_size (by repeat (first | (with_reducible first | exact HB.out | apply below_alloc | apply pw_below_drewN | apply below_drew1 | refine below_set ?_ GE1517.out | refine below_set ?_ GE1525.out) | exact HB.out))))
              (case aL => have := LMc18.out; omega)
              intro v1523 w24 ho hb hg hat
              rw [← Ny1522.out] at ho
              have n0_ := Aside0.mk (Kd.R_after (ok := (fun k_ => some k_ ≠ (.slice Ao12 t1514.length co12 : Value).ownBlock)) (by (with_reducible repeat (first | apply Kd.R_alloc | apply Kd.R_drewN | apply Kd.R_drew)); exact HO_7.out) hg hat)
              have n1_ := Aside0.mk (Kd.R_after (ok := (fun k_ => some k_ ≠ (u7 : Value).ownBlock)) (by (with_reducible repeat (first | apply Kd.R_alloc | apply Kd.R_drewN | apply Kd.R_drew)); exact HO_1518001.out) hg hat)
              have n2_ := Aside0.mk (blk_grown (g := gb1517) (o := .cells #[.int .u64 t1513, .slice Ao12 t1514.length co12] 45 (0, 0)) (by (with_reducible repeat (first | refine blk_drewN ?_ _ | refine blk_drew ?_ | refine blk_alloc ?_ _)); exact BK1517.out) hg (Kd.R_ne HO1521.out BK1517.out (by decide)))
              have n3_ := Aside0.mk (blk_grown (g := gb1525) (o := .cells #[.int .u64 0, .slice none 0 0] 45 (0, 0)) (by (with_reducible repeat (first | refine blk_drewN ?_ _ | refine blk_drew ?_ | refine blk_alloc ?_ _)); exact BK1525.out) hg (Kd.R_ne HO1521.out BK1525.out (by decide)))
              have n4_ := Aside0.mk (hb)
              have n5_ := Aside0.mk (ho)
              clear HO_7 HO_1518001 BK1517 BK1525 HB HO1521
              have HO_7 := n0_
              have HO_1518001 := n1_
              have BK1517 := n2_
              have BK1525 := n3_
              have HB := n4_
              have HO1524 := n5_
              clear n0_ n1_ n2_ n3_ n4_ n5_ ho hb hg hat
              obtain ⟨Ao25, co25, eo25⟩ := Kd.R_slice HO1524.out
              (first | subst eo25 | (injection eo25 with f1_ f2_ f3_; have f4_ := f1_.symm; have f5_ := f3_.symm; clear f1_ f2_ f3_; subst f4_; subst f5_))
              refine hK.out _ _ ⟨(blk_cell BK1517.out 0).trans rfl, (blk_cell BK1517.out 1).trans rfl⟩ (fun hHeld => ?_)
              clear hK K
              refine norm_ (a' := ?_) ?_ ?_
              rotate_left
              ·
               show Act.put _ (some 59) _ = _
               simp only [Act.put, List.setIfInBounds_toArray, List.set_cons_zero, List.set_cons_succ, i64_w, i32_w]
               rfl
              refine pure_ (i := 11) (N := some 60) (v := ?_) (a' := ?_) #[T, T, T, T, T, T, T, T, T, T, T, T, T, F] rfl rfl (any_of HT_.out (by kernel_rfl)) (fun _ _ _ h => h) (Or.inl ⟨by rfl, ?_⟩) ?_ ?_
              rotate_left; (intro w'; go_simp; with_reducible rfl); rotate_left; (simp only [Act.put, List.setIfInBounds_toArray, List.set_cons_zero, List.set_cons_succ, i64_w, i32_w]; rfl)
              exact norm_ (by simp only [putAll, Act.put, List.setIfInBounds_toArray, List.set_cons_zero, List.set_cons_succ]) (hCont (v1520, .slice Ao25 y1522.length co25, gb1525) _ ⟨hHeld, (by (with_reducible repeat (first | apply Kd.R_alloc | apply Kd.R_drewN | apply Kd.R_drew)); exact Kd.R_mono HO1524.out (fun _ hk => ⟨hk.2, hk.1⟩)), (by (with_reducible repeat (first | apply Kd.R_alloc | apply Kd.R_drewN | apply Kd.R_drew)); exact Kd.R_mono HO_1518001.out (fun _ hk => ⟨hk.2, hk.1⟩)), (by (with_reducible repeat (first | apply Kd.R_alloc | apply Kd.R_drewN | apply Kd.R_drew)); exact Kd.R_mono HO_7.out (fun _ hk => ⟨hk.2, hk.1⟩)), (by (with_reducible repeat (first | refine blk_drewN ?_ _ | refine blk_drew ?_ | refine blk_alloc ?_ _)); exact BK1517.out), (by (with_reducible repeat (first | refine blk_drewN ?_ _ | refine blk_drew ?_ | refine blk_alloc ?_ _)); exact BK1525.out), GW1525.out, GE1525.out, NB1517_1525.out, NB1525_1517.out, (by repeat (first | (with_reducible first | exact HB.out | apply below_alloc | apply pw_below_drewN | apply below_drew1 | refine below_set ?_ GE1517.out | refine below_set ?_ GE1525.out) | exact HB.out))⟩)
            rintro ⟨v1520, v1523, gb1525⟩ w26 ⟨hS_, h0_, h1_, h2_, h3_, h4_, h5_, h6_, h7_, h8_, h9_⟩
            have n0_ : Aside0 (Kd.R (Kd.int .u8) 5 w26 w.heap.size (fun k_ => some k_ ≠ (.slice Ao12 t1514.length co12 : Value).ownBlock ∧ some k_ ≠ (u7 : Value).ownBlock) v1523 y1522) := ⟨h0_⟩
            have n1_ : Aside0 (Kd.R (Kd.int .u8) 5 w26 w.heap.size (fun k_ => some k_ ≠ (v1523 : Value).ownBlock ∧ some k_ ≠ (u7 : Value).ownBlock) (.slice Ao12 t1514.length co12) t1514) := ⟨h1_⟩
            have n2_ : Aside0 (Kd.R (Kd.int .u8) 5 w26 w.heap.size (fun k_ => some k_ ≠ (v1523 : Value).ownBlock ∧ some k_ ≠ (.slice Ao12 t1514.length co12 : Value).ownBlock) u7 x7_3) := ⟨h2_⟩
            have n3_ : Aside0 (w26.heap[gb1517]? = some (.cells #[.int .u64 t1513, .slice Ao12 t1514.length co12] 45 (0, 0))) := ⟨h3_⟩
            have n4_ : Aside0 (w26.heap[gb1525]? = some (.cells #[.int .u64 0, .slice none 0 0] 45 (0, 0))) := ⟨h4_⟩
            have n5_ : Aside0 (w.heap.size ≤ gb1525) := ⟨h5_⟩
            have n6_ : Aside0 (w.heap.size ≤ gb1525) := ⟨h6_⟩
            have n7_ : Aside0 (gb1517 ≠ gb1525) := ⟨h7_⟩
            have n8_ : Aside0 (gb1525 ≠ gb1517) := ⟨h8_⟩
            have n9_ : Aside0 (Below w.heap.size w w26) := ⟨h9_⟩
            clear HO_7 HO_1518001 BK1517 HB h0_ h1_ h2_ h3_ h4_ h5_ h6_ h7_ h8_ h9_
            have HO1524 := n0_
            have HO_1518001 := n1_
            have HO_7 := n2_
            have BK1517 := n3_
            have BK1525 := n4_
            have GW1525 := n5_
            have GE1525 := n6_
            have NB1517_1525 := n7_
            have NB1525_1517 := n8_
            have HB := n9_
            clear n0_ n1_ n2_ n3_ n4_ n5_ n6_ n7_ n8_ n9_
            have hHeld : w26.cell? ⟨gb1517, 0, none⟩ = some (.int .u64 t1513) ∧ w26.cell? ⟨gb1517, 1, none⟩ = some (.slice Ao12 t1514.length co12) := hS_
            obtain ⟨Ao27, co27, eo27⟩ := Kd.R_slice HO1524.out
            (first | subst eo27 | (injection eo27 with f1_ f2_ f3_; have f4_ := f1_.symm; have f5_ := f3_.symm; clear f1_ f2_ f3_; subst f4_; subst f5_))
            refine norm_ (a' := ?_) ?_ ?_
            rotate_left
            ·
             simp only [putAll, Act.put, List.setIfInBounds_toArray, List.set_cons_zero, List.set_cons_succ]
             rfl
            refine one_ (i := 13) (N := none) #[T, T, T, T, T, T, T, T, T, T, T, T, T, T] rfl rfl (one_of HT_.out (by kernel_rfl)) (by decide) (fun K hK => ?_)
            have hs28 : w26.cell? ⟨gb1525, 0, none⟩ = some (.int .u64 0) := (blk_cell BK1525.out 0).trans rfl
            have hfs28 := blk_frozen BK1525.out 0
            have hns28_0 := NB1517_1525.out
            have hms28_0 := NB1525_1517.out
            have hs29 : w26.cell? ⟨gb1525, 1, none⟩ = some (.slice none 0 0) := (blk_cell BK1525.out 1).trans rfl
            have hfs29 := blk_frozen BK1525.out 1
            have hns29_0 := NB1517_1525.out
            have hms29_0 := NB1525_1517.out
            refine skip_ (w1 := ?_) (by rfl) rfl ?_ ?_
            rotate_left
            ·
             go_simp
             rfl
            refine hK.out _ _ ⟨((cell_far (p := ⟨gb1525, _, none⟩) NB1517_1525.out _).trans (((cell_far (p := ⟨gb1525, _, none⟩) NB1517_1525.out _).trans (hHeld.1)))), ((cell_far (p := ⟨gb1525, _, none⟩) NB1517_1525.out _).trans (((cell_far (p := ⟨gb1525, _, none⟩) NB1517_1525.out _).trans (hHeld.2))))⟩ (fun hHeld => ?_)
            clear hK K
            refine done_ (done_of HT_.out (by kernel_rfl)) ?_
            have hnb30 := NB1525_1517.out
            have hnc30 := NB1517_1525.out
            have hcz31_0 : w26.cell? ⟨gb1525, 0, none⟩ = some (.int .u64 0) := (blk_cell BK1525.out 0).trans rfl
            have hcz31_1 : w26.cell? ⟨gb1525, 1, none⟩ = some (.slice none 0 0) := (blk_cell BK1525.out 1).trans rfl
            have hfz31_0 := blk_frozen BK1525.out 0
            have hfz31_1 := blk_frozen BK1525.out 1
            try go_wp2
            go_ret
            exact ⟨by first | rfl | (simp [errW_none, errW_some] <;> rfl) | (simp [*, errW_none, errW_some] <;> rfl), by repeat (first | (with_reducible first | exact HB.out | apply below_alloc | apply pw_below_drewN | apply below_drew1 | refine below_set ?_ GE1517.out | refine below_set ?_ GE1525.out) | exact HB.out)⟩
           ·
            rw [if_neg c19] at H
            have c19b0 : decide (1000 < (y1522.length : Int)) = false := decide_eq_false c19
            have c19b1 : decide (1000 < y1522.length) = false := decide_eq_false (by omega)
            clear c19
            replace H := Option.bind_eq_some_iff.mp H
            obtain ⟨t1526, A320, H⟩ := H
            replace H : (if (t1526.length : Int) = (wrap64 (14 + (y1522.length : Int))) then (if x8_3 = (wrap64 (1 + (Int.tmod t1518 5))) then ((laws_take.f l1 1).bind fun t1529 => (if (t1526.length : Int) = 0 then (none) else (if 0 ≤ (Int.tmod t1529 (t1526.length : Int)) then (if (Int.tmod t1529 (t1526.length : Int)) ≤ (t1526.length : Int) then ((some (t1526.take ((Int.tmod t1529 (t1526.length : Int)) : Int).toNat : List Int)).bind fun y1530 => (if x7_3.length + y1530.length < 140737488355328 then (laws_FnLog.l0 k3 l0 l1 (wrap64 (1 + (Int.tmod t1518 5))) (x7_3 ++ y1530) (wrap64 (x8_3 + 1)) t1513 t1514) else (none))) else (none)) else (none)))) else (if x7_3.length + t1526.length < 140737488355328 then (laws_FnLog.l0 k3 l0 l1 (wrap64 (1 + (Int.tmod t1518 5))) (x7_3 ++ t1526) (wrap64 (x8_3 + 1)) t1513 t1514) else (none))) else (some false)) = some true := H
            have A32 := Aside0.mk A320
            clear A320
            by_cases c33 : (t1526.length : Int) = (wrap64 (14 + (y1522.length : Int)))
            ·
             rw [if_pos c33] at H
             have c33b0 : ((t1526.length : Int) == (wrap64 (14 + (y1522.length : Int)))) = true := beq_iff_eq.mpr c33
             have c33b1 : ((t1526.length : Int) != (wrap64 (14 + (y1522.length : Int)))) = false := bne_eq_false_iff_eq.mpr c33
             clear c33
             by_cases c34 : x8_3 = (wrap64 (1 + (Int.tmod t1518 5)))
             ·
              rw [if_pos c34] at H
              have c34b0 : (x8_3 == (wrap64 (1 + (Int.tmod t1518 5)))) = true := beq_iff_eq.mpr c34
              have c34b1 : (x8_3 != (wrap64 (1 + (Int.tmod t1518 5)))) = false := bne_eq_false_iff_eq.mpr c34
              clear c34
              replace H := Option.bind_eq_some_iff.mp H
              obtain ⟨t1529, A350, H⟩ := H
              replace H : (if (t1526.length : Int) = 0 then (none) else (if 0 ≤ (Int.tmod t1529 (t1526.length : Int)) then (if (Int.tmod t1529 (t1526.length : Int)) ≤ (t1526.length : Int) then ((some (t1526.take ((Int.tmod t1529 (t1526.length : Int)) : Int).toNat : List Int)).bind fun y1530 => (if x7_3.length + y1530.length < 140737488355328 then (laws_FnLog.l0 k3 l0 l1 (wrap64 (1 + (Int.tmod t1518 5))) (x7_3 ++ y1530) (wrap64 (x8_3 + 1)) t1513 t1514) else (none))) else (none)) else (none))) = some true := H
              have A35 := Aside0.mk A350
              clear A350
              by_cases c36 : (t1526.length : Int) = 0
              ·
               rw [if_pos c36] at H
               exact absurd H (by simp)
              ·
               rw [if_neg c36] at H
               have c36b0 : ((t1526.length : Int) == 0) = false := beq_eq_false_iff_ne.mpr c36
               have c36b1 : ((t1526.length : Int) != 0) = true := bne_iff_ne.mpr c36
               have c36b2 : ¬ (t1526 = []) := fun h_ => c36 (by rw [h_]; rfl)
               obtain ⟨ji37, hji37⟩ : ∃ j_ : Int, (Int.tmod t1529 (t1526.length : Int)) = j_ := ⟨_, rfl⟩
               replace H : (if 0 ≤ (ji37) then (if (ji37) ≤ (t1526.length : Int) then ((some (t1526.take ((ji37) : Int).toNat : List Int)).bind fun y1530 => (if x7_3.length + y1530.length < 140737488355328 then (laws_FnLog.l0 k3 l0 l1 (wrap64 (1 + (Int.tmod t1518 5))) (x7_3 ++ y1530) (wrap64 (x8_3 + 1)) t1513 t1514) else (none))) else (none)) else (none)) = some true := by first | (rw [hji37] at H; exact H) | (simp only [hji37] at H ⊢; exact H)
               (try rw [hji37] at A32)
               (try rw [hji37] at A35)
               by_cases c38 : 0 ≤ (ji37)
               ·
                rw [if_pos c38] at H
                have c38b0 := eq_true c38
                have c38b1 : decide (0 ≤ (ji37)) = true := decide_eq_true c38
                clear c38
                by_cases c39 : (ji37) ≤ (t1526.length : Int)
                ·
                 rw [if_pos c39] at H
                 have c39b0 := eq_true c39
                 have c39b1 : decide ((ji37) ≤ (t1526.length : Int)) = true := decide_eq_true c39
                 clear c39
                 obtain ⟨y1530, hy1530⟩ : ∃ y_ : List Int, y_ = (t1526.take ((ji37) : Int).toNat) := ⟨_, rfl⟩
                 replace H : (if x7_3.length + y1530.length < 140737488355328 then (laws_FnLog.l0 k3 l0 l1 (wrap64 (1 + (Int.tmod t1518 5))) (x7_3 ++ y1530) (wrap64 (x8_3 + 1)) t1513 t1514) else (none)) = some true := by first | (rw [hy1530]; with_reducible exact H) | (have H2_ := (Option.bind_some _ _).symm.trans H; rw [hy1530]; with_reducible exact H2_) | (have H2_ := (Option.bind_some _ _).symm.trans H; with_reducible exact H2_) | with_reducible exact H | (rw [hy1530]; exact H) | exact H
                 have Ny1530 := Aside0.mk hy1530
                 clear hy1530
                 by_cases c40 : x7_3.length + y1530.length < 140737488355328
                 ·
                  rw [if_pos c40] at H
                  have LMc40 := Aside0.mk c40
                  clear c40
                  obtain ⟨y1533, hy1533⟩ : ∃ y_ : List Int, y_ = (x7_3 ++ y1530) := ⟨_, rfl⟩
                  replace H : (laws_FnLog.l0 k3 l0 l1 (wrap64 (1 + (Int.tmod t1518 5))) y1533 (wrap64 (x8_3 + 1)) t1513 t1514) = some true := by first | (rw [hy1533]; with_reducible exact H) | (have H2_ := (Option.bind_some _ _).symm.trans H; rw [hy1533]; with_reducible exact H2_) | (have H2_ := (Option.bind_some _ _).symm.trans H; with_reducible exact H2_) | with_reducible exact H | (rw [hy1533]; exact H) | exact H
                  have Ny1533 := Aside0.mk hy1533
                  clear hy1533
                  have H' := Aside0.mk H
                  clear H
                  try go_wp2
                  have n0_ := Aside0.mk (Kd.R_drew HO_7.out)
                  have n1_ := Aside0.mk (Kd.R_drew HO_1518001.out)
                  have n2_ := Aside0.mk (blk_drew BK1517.out)
                  have n3_ := Aside0.mk (below_drew1 HB.out)
                  clear HO_7 HO_1518001 BK1517 HB
                  have HO_7 := n0_
                  have HO_1518001 := n1_
                  have BK1517 := n2_
                  have HB := n3_
                  clear n0_ n1_ n2_ n3_
                  refine start_ (n := 14) (S := fun w' => w'.cell? ⟨gb1517, 0, none⟩ = some (.int .u64 t1513) ∧ w'.cell? ⟨gb1517, 1, none⟩ = some (.slice Ao12 t1514.length co12)) (ds := []) #[F, F, F, F, F, F, F, F, F, F, F, F, F, F] (by kernel_rfl) rfl rfl ⟨(blk_cell BK1517.out 0).trans rfl, (blk_cell BK1517.out 1).trans rfl⟩ (fun hHeld => ?_); refine with_tabW laws_FnLog.tab11 laws_FnLog.bits11 (fun HT_ HW_ => ?_)
                  generalize wr.drew = w41 at HO_7 HO_1518001 BK1517 HB hHeld ⊢
                  refine pure_ (i := 0) (N := some 49) (v := ?_) (a' := ?_) #[T, F, F, F, F, F, F, F, F, F, F, F, F, F] rfl rfl (any_of HT_.out (by kernel_rfl)) (fun _ _ _ h => h) (Or.inl ⟨by rfl, ?_⟩) ?_ ?_
                  rotate_left; (intro w'; go_simp; with_reducible rfl); rotate_left; (simp only [Act.put, List.setIfInBounds_toArray, List.set_cons_zero, List.set_cons_succ, i64_w, i32_w]; rfl)
                  refine pure_ (i := 2) (N := some 51) (v := ?_) (a' := ?_) #[T, F, T, F, F, F, F, F, F, F, F, F, F, F] rfl rfl (any_of HT_.out (by kernel_rfl)) (fun _ _ _ h => h) (Or.inl ⟨by rfl, ?_⟩) ?_ ?_
                  rotate_left; (intro w'; go_simp; with_reducible rfl); rotate_left; (simp only [Act.put, List.setIfInBounds_toArray, List.set_cons_zero, List.set_cons_succ, i64_w, i32_w]; rfl)
                  refine pure_ (i := 3) (N := some 52) (v := ?_) (a' := ?_) #[T, F, T, T, F, F, F, F, F, F, F, F, F, F] rfl rfl (any_of HT_.out (by kernel_rfl)) (fun _ _ _ h => h) (Or.inl ⟨by rfl, ?_⟩) ?_ ?_
                  rotate_left; (intro w'; go_simp; with_reducible rfl); rotate_left; (simp only [Act.put, List.setIfInBounds_toArray, List.set_cons_zero, List.set_cons_succ, i64_w, i32_w]; rfl)
                  refine pure_ (i := 5) (N := some 54) (v := ?_) (a' := ?_) #[T, F, T, T, F, T, F, F, F, F, F, F, F, F] rfl rfl (any_of HT_.out (by kernel_rfl)) (fun _ _ _ h => h) (Or.inl ⟨by rfl, ?_⟩) ?_ ?_
                  rotate_left; (intro w'; go_simp; with_reducible rfl); rotate_left; (simp only [Act.put, List.setIfInBounds_toArray, List.set_cons_zero, List.set_cons_succ, i64_w, i32_w]; rfl)
                  refine pure_ (i := 6) (N := some 55) (v := ?_) (a' := ?_) #[T, F, T, T, F, T, T, F, F, F, F, F, F, F] rfl rfl (any_of HT_.out (by kernel_rfl)) (fun _ _ _ h => h) (Or.inl ⟨by rfl, ?_⟩) ?_ ?_
                  rotate_left; (intro w'; go_simp; with_reducible rfl); rotate_left; (simp only [Act.put, List.setIfInBounds_toArray, List.set_cons_zero, List.set_cons_succ, i64_w, i32_w]; rfl)
                  refine pure_ (i := 8) (N := some 57) (v := ?_) (a' := ?_) #[T, F, T, T, F, T, T, F, T, F, F, F, F, F] rfl rfl (any_of HT_.out (by kernel_rfl)) (fun _ _ _ h => h) (Or.inl ⟨by rfl, ?_⟩) ?_ ?_
                  rotate_left; (intro w'; go_simp; with_reducible rfl); rotate_left; (simp only [Act.put, List.setIfInBounds_toArray, List.set_cons_zero, List.set_cons_succ, i64_w, i32_w]; rfl)
                  refine take_ (i := 1) (N := some 50) (v := ?_) (a' := ?_) #[T, T, T, T, F, T, T, F, T, F, F, F, F, F] rfl rfl (take_ofW HT_.out HW_.out (by kernel_rfl)) (fun _ _ _ h => h) (Or.inl ⟨by rfl, ?_⟩) hHeld ?_ ?_
                  rotate_left; (rintro w' ⟨s0, s1⟩; go_simp; with_reducible rfl); rotate_left; (simp only [Act.put, List.setIfInBounds_toArray, List.set_cons_zero, List.set_cons_succ, i64_w, i32_w]; rfl)
                  refine pure_ (i := 4) (N := some 53) (v := ?_) (a' := ?_) #[T, T, T, T, T, T, T, F, T, F, F, F, F, F] rfl rfl (any_of HT_.out (by kernel_rfl)) (fun _ _ _ h => h) (Or.inl ⟨by rfl, ?_⟩) ?_ ?_
                  rotate_left; (intro w'; go_simp; with_reducible rfl); rotate_left; (simp only [Act.put, List.setIfInBounds_toArray, List.set_cons_zero, List.set_cons_succ, i64_w, i32_w]; rfl)
                  refine take_ (i := 9) (N := some 58) (v := ?_) (a' := ?_) #[T, T, T, T, T, T, T, F, T, T, F, F, F, F] rfl rfl (take_ofW HT_.out HW_.out (by kernel_rfl)) (fun _ _ _ h => h) (Or.inl ⟨by rfl, ?_⟩) hHeld ?_ ?_
                  rotate_left; (rintro w' ⟨s0, s1⟩; go_simp; with_reducible rfl); rotate_left; (simp only [Act.put, List.setIfInBounds_toArray, List.set_cons_zero, List.set_cons_succ, i64_w, i32_w]; rfl)
                  refine join_ (σ := Value × Value × Nat) 1 #[T, T, T, T, T, T, T, T, T, T, T, T, T, F] (fun s_ => [(56, s_.1), (59, s_.2.1), (9, .pointer (some ⟨s_.2.2, 0, none⟩)), (60, .agg #[.int .u64 (IntKind.u64.wrap (t1513 + (IntKind.u64.wrap (x8_3)))), s_.2.1])]) (fun s_ w' => (w'.cell? ⟨gb1517, 0, none⟩ = some (.int .u64 t1513) ∧ w'.cell? ⟨gb1517, 1, none⟩ = some (.slice Ao12 t1514.length co12)) ∧ (Kd.R (Kd.int .u8) 5 w' w.heap.size (fun k_ => some k_ ≠ (.slice Ao12 t1514.length co12 : Value).ownBlock ∧ some k_ ≠ (u7 : Value).ownBlock) s_.2.1 y1522) ∧ (Kd.R (Kd.int .u8) 5 w' w.heap.size (fun k_ => some k_ ≠ (s_.2.1 : Value).ownBlock ∧ some k_ ≠ (u7 : Value).ownBlock) (.slice Ao12 t1514.length co12) t1514) ∧ (Kd.R (Kd.int .u8) 5 w' w.heap.size (fun k_ => some k_ ≠ (s_.2.1 : Value).ownBlock ∧ some k_ ≠ (.slice Ao12 t1514.length co12 : Value).ownBlock) u7 x7_3) ∧ (w'.heap[gb1517]? = some (.cells #[.int .u64 t1513, .slice Ao12 t1514.length co12] 45 (0, 0))) ∧ (w'.heap[s_.2.2]? = some (.cells #[.int .u64 0, .slice none 0 0] 45 (0, 0))) ∧ (w.heap.size ≤ s_.2.2) ∧ (w.heap.size ≤ s_.2.2) ∧ (gb1517 ≠ s_.2.2) ∧ (s_.2.2 ≠ gb1517) ∧ (Below w.heap.size w w')) ?_ ?_
                  rotate_left
                  ·
                   intro hCont
                   refine two_ (i := 7) (j := 12) (Ni := some 56) (Nj := some 9) #[T, T, T, T, T, T, T, T, T, T, F, F, F, F] #[T, T, T, T, T, T, T, F, T, T, F, F, T, F] rfl rfl rfl rfl (two_of HT_.out (by kernel_rfl)) (by decide) (by decide) (fun K hK => ?_) (fun K hK => ?_)
                   ·
                    skip
                    refine Kd.R_lit_step (Kd.int .u8) _ 5 ?hg (N := 56) ?hd (xs := ([(x8_3) % 256] : List Int)) (inner := [.int .u8 ((x8_3) % 256)]) (ok := fun _ => True) (okp := fun _ => True) ?hr ?hp (fun _ hk => hk) trivial (Below.refl _ _) (Nat.le_refl _) (by simp) ?_; (case hd => rfl); (case hg => rfl); (case hr => first | (go_simp; done) | (go_simp; rfl)); (case hp => exact (Reps.one (show Kd.M (Kd.int .u8) _ _ _ ((x8_3) % 256) [.int .u8 ((x8_3) % 256)] from rfl) (Reps.none _ _)))
                    intro v1520 w42 ho43 hb hg_ hnew_
                    clear hg_ hnew_
                    (first | rw [← Ny1519.out] at ho43 | (simp only [Int.reduceToNat] at ho43; rw [← Ny1519.out] at ho43))
                    have n0_ := Aside0.mk (Kd.R_elder' (by (with_reducible repeat (first | apply Kd.R_alloc | apply Kd.R_drewN | apply Kd.R_drew)); exact HO_7.out) (Kd.R_base ho43) hb)
                    have n1_ := Aside0.mk (Kd.R_elder' (by (with_reducible repeat (first | apply Kd.R_alloc | apply Kd.R_drewN | apply Kd.R_drew)); exact HO_1518001.out) (Kd.R_base ho43) hb)
                    have n2_ := Aside0.mk (Kd.R_lower (Kd.R_new' (Kd.R_new' ho43 (Kd.R_lt (by (with_reducible repeat (first | apply Kd.R_alloc | apply Kd.R_drewN | apply Kd.R_drew)); exact HO_7.out))) (Kd.R_lt (by (with_reducible repeat (first | apply Kd.R_alloc | apply Kd.R_drewN | apply Kd.R_drew)); exact HO_1518001.out))) (below_size (by repeat (first | (with_reducible first | exact HB.out | apply below_alloc | apply pw_below_drewN | apply below_drew1 | refine below_set ?_ GE1517.out) | exact HB.out))))
                    have n3_ := Aside0.mk (blk_below (g := gb1517) (o := .cells #[.int .u64 t1513, .slice Ao12 t1514.length co12] 45 (0, 0)) (by (with_reducible repeat (first | refine blk_drewN ?_ _ | refine blk_drew ?_ | refine blk_alloc ?_ _)); exact BK1517.out) hb)
                    have n4_ := Aside0.mk (below_step (by repeat (first | (with_reducible first | exact HB.out | apply below_alloc | apply pw_below_drewN | apply below_drew1 | refine below_set ?_ GE1517.out) | exact HB.out)) hb)
                    clear HO_7 HO_1518001 BK1517 HB
                    have HO_7 := n0_
                    have HO_1518001 := n1_
                    have HO1521 := n2_
                    have BK1517 := n3_
                    have HB := n4_
                    clear n0_ n1_ n2_ n3_ n4_ hb ho43
                    refine hK.out _ _ ⟨(blk_cell BK1517.out 0).trans rfl, (blk_cell BK1517.out 1).trans rfl⟩ (fun hHeld => ?_)
                    clear hK K
                    refine norm_ (a' := ?_) ?_ ?_
                    rotate_left
                    ·
                     show Act.put _ (some 56) _ = _
                     simp only [Act.put, List.setIfInBounds_toArray, List.set_cons_zero, List.set_cons_succ, i64_w, i32_w]
                     rfl
                    refine two_ (i := 10) (j := 12) (Ni := some 59) (Nj := some 9) #[T, T, T, T, T, T, T, T, T, T, T, F, F, F] #[T, T, T, T, T, T, T, T, T, T, F, F, T, F] rfl rfl rfl rfl (two_of HT_.out (by kernel_rfl)) (by decide) (by decide) (fun K hK => ?_) (fun K hK => ?_)
                    ·
                     skip
                     refine Kd.R_append_rows_step (Kd.int .u8) (w0 := w) w.heap.size (by rfl) (.tmp 56) (.tmp 58) 22 5 (.int .u8 0) 1 rfl Try.underlying22 info5 rfl (by decide) (by omega) v1520 y1519 t1514 _ _ _ (fun k_ => some k_ ≠ (u7 : Value).ownBlock ∧ some k_ ≠ (.slice Ao12 t1514.length co12 : Value).ownBlock) (fun _ => False) rfl rfl ?aO ?aR (fun _ _ h => h) (fun _ h => h.elim) ?aF ?aB ?aS ?aL ?_
                     (case aR => repeat (first | exact (Kd.R_reads' HO_1518001.out).2.2 | (with_reducible refine Kd.C_alloc ?_ _) | (with_reducible refine Kd.C_drewN ?_ _) | (with_reducible refine Kd.C_drew ?_)))
                     (case aB => exact (by repeat (first | (with_reducible first | exact HB.out | apply below_alloc | apply pw_below_drewN | apply below_drew1 | refine below_set ?_ GE1517.out) | exact HB.out)))
                     (case aF => exact (fun k_ hk => ⟨Kd.fresh' (Kd.R_lt (by (with_reducible repeat (first | apply Kd.R_alloc | apply Kd.R_drewN | apply Kd.R_drew)); exact HO_7.out)) k_ hk, Kd.fresh' (Kd.R_lt (by (with_reducible repeat (first | apply Kd.R_alloc | apply Kd.R_drewN | apply Kd.R_drew)); exact HO_1518001.out)) k_ hk⟩))
                     (case aO => exact (by (with_reducible repeat (first | apply Kd.R_alloc | apply Kd.R_drewN | apply Kd.R_drew)); exact Kd.R_mono HO1521.out (fun _ hk => ⟨hk.1.2, hk.2⟩)))
                     (case aS => exact (below_size (by repeat (first | (with_reducible first | exact HB.out | apply below_alloc | apply pw_below_drewN | apply below_drew1 | refine below_set ?_ GE1517.out) | exact HB.out))))
                     (case aL => have := LMc18.out; omega)
                     intro v1523 w44 ho hb hg hat
                     rw [← Ny1522.out] at ho
                     have n0_ := Aside0.mk (Kd.R_after (ok := (fun k_ => some k_ ≠ (.slice Ao12 t1514.length co12 : Value).ownBlock)) (by (with_reducible repeat (first | apply Kd.R_alloc | apply Kd.R_drewN | apply Kd.R_drew)); exact HO_7.out) hg hat)
                     have n1_ := Aside0.mk (Kd.R_after (ok := (fun k_ => some k_ ≠ (u7 : Value).ownBlock)) (by (with_reducible repeat (first | apply Kd.R_alloc | apply Kd.R_drewN | apply Kd.R_drew)); exact HO_1518001.out) hg hat)
                     have n2_ := Aside0.mk (blk_grown (g := gb1517) (o := .cells #[.int .u64 t1513, .slice Ao12 t1514.length co12] 45 (0, 0)) (by (with_reducible repeat (first | refine blk_drewN ?_ _ | refine blk_drew ?_ | refine blk_alloc ?_ _)); exact BK1517.out) hg (Kd.R_ne HO1521.out BK1517.out (by decide)))
                     have n3_ := Aside0.mk (hb)
                     have n4_ := Aside0.mk (ho)
                     clear HO_7 HO_1518001 BK1517 HB HO1521
                     have HO_7 := n0_
                     have HO_1518001 := n1_
                     have BK1517 := n2_
                     have HB := n3_
                     have HO1524 := n4_
                     clear n0_ n1_ n2_ n3_ n4_ ho hb hg hat
                     obtain ⟨Ao45, co45, eo45⟩ := Kd.R_slice HO1524.out
                     (first | subst eo45 | (injection eo45 with f1_ f2_ f3_; have f4_ := f1_.symm; have f5_ := f3_.symm; clear f1_ f2_ f3_; subst f4_; subst f5_))
                     refine hK.out _ _ ⟨(blk_cell BK1517.out 0).trans rfl, (blk_cell BK1517.out 1).trans rfl⟩ (fun hHeld => ?_)
                     clear hK K
                     refine norm_ (a' := ?_) ?_ ?_
                     rotate_left
                     ·
                      show Act.put _ (some 59) _ = _
                      simp only [Act.put, List.setIfInBounds_toArray, List.set_cons_zero, List.set_cons_succ, i64_w, i32_w]
                      rfl
                     refine pure_ (i := 11) (N := some 60) (v := ?_) (a' := ?_) #[T, T, T, T, T, T, T, T, T, T, T, T, F, F] rfl rfl (any_of HT_.out (by kernel_rfl)) (fun _ _ _ h => h) (Or.inl ⟨by rfl, ?_⟩) ?_ ?_
                     rotate_left; (intro w'; go_simp; with_reducible rfl); rotate_left; (simp only [Act.put, List.setIfInBounds_toArray, List.set_cons_zero, List.set_cons_succ, i64_w, i32_w]; rfl)
                     refine one_ (i := 12) (N := some 9) #[T, T, T, T, T, T, T, T, T, T, T, T, T, F] rfl rfl (one_of HT_.out (by kernel_rfl)) (by decide) (fun K hK => ?_)
                     refine box_step ?hg (N := 9) ?hd (cs := #[.int .u64 0, .slice none 0 0]) (t := 45) ?hr ?_; (case hd => rfl); (case hg => rfl); (case hr => first | (go_simp; done) | (go_simp; rfl))
                     intro gb1525 hg w46 hbox hb
                     have n0_ := Aside0.mk (Kd.R_below (by (with_reducible repeat (first | apply Kd.R_alloc | apply Kd.R_drewN | apply Kd.R_drew)); exact HO_7.out) hb)
                     have n1_ := Aside0.mk (Kd.R_below (by (with_reducible repeat (first | apply Kd.R_alloc | apply Kd.R_drewN | apply Kd.R_drew)); exact HO_1518001.out) hb)
                     have n2_ := Aside0.mk (Kd.R_below (by (with_reducible repeat (first | apply Kd.R_alloc | apply Kd.R_drewN | apply Kd.R_drew)); exact HO1524.out) hb)
                     have n3_ := Aside0.mk (blk_below (g := gb1517) (o := .cells #[.int .u64 t1513, .slice Ao12 t1514.length co12] 45 (0, 0)) (by (with_reducible repeat (first | refine blk_drewN ?_ _ | refine blk_drew ?_ | refine blk_alloc ?_ _)); exact BK1517.out) hb)
                     have n4_ := Aside0.mk (below_step (by repeat (first | (with_reducible first | exact HB.out | apply below_alloc | apply pw_below_drewN | apply below_drew1 | refine below_set ?_ GE1517.out) | exact HB.out)) hb)
                     have n5_ := Aside0.mk (hbox)
                     have n6_ := Aside0.mk ((by rw [hg]; exact (below_size (by repeat (first | (with_reducible first | exact HB.out | apply below_alloc | apply pw_below_drewN | apply below_drew1 | refine below_set ?_ GE1517.out) | exact HB.out))) : w.heap.size ≤ gb1525))
                     have n7_ := Aside0.mk ((by rw [hg]; exact (below_size (by repeat (first | (with_reducible first | exact HB.out | apply below_alloc | apply pw_below_drewN | apply below_drew1 | refine below_set ?_ GE1517.out) | exact HB.out))) : w.heap.size ≤ gb1525))
                     have n8_ := Aside0.mk ((by rw [hg]; exact Nat.ne_of_lt (blk_lt (g := gb1517) (o := .cells #[.int .u64 t1513, .slice Ao12 t1514.length co12] 45 (0, 0)) (by (with_reducible repeat (first | refine blk_drewN ?_ _ | refine blk_drew ?_ | refine blk_alloc ?_ _)); exact BK1517.out)) : gb1517 ≠ gb1525))
                     have n9_ := Aside0.mk ((by rw [hg]; exact Nat.ne_of_gt (blk_lt (g := gb1517) (o := .cells #[.int .u64 t1513, .slice Ao12 t1514.length co12] 45 (0, 0)) (by (with_reducible repeat (first | refine blk_drewN ?_ _ | refine blk_drew ?_ | refine blk_alloc ?_ _)); exact BK1517.out)) : gb1525 ≠ gb1517))
                     clear HO_7 HO_1518001 HO1524 BK1517 HB
                     have HO_7 := n0_
                     have HO_1518001 := n1_
                     have HO1524 := n2_
                     have BK1517 := n3_
                     have HB := n4_
                     have BK1525 := n5_
                     have GW1525 := n6_
                     have GE1525 := n7_
                     have NB1517_1525 := n8_
                     have NB1525_1517 := n9_
                     clear n0_ n1_ n2_ n3_ n4_ n5_ n6_ n7_ n8_ n9_ hb hbox hg
                     refine hK.out _ _ ⟨(blk_cell BK1517.out 0).trans rfl, (blk_cell BK1517.out 1).trans rfl⟩ (fun hHeld => ?_)
                     clear hK K
                     refine norm_ (a' := ?_) ?_ ?_
                     rotate_left
                     ·
                      show Act.put _ (some 9) _ = _
                      simp only [Act.put, List.setIfInBounds_toArray, List.set_cons_zero, List.set_cons_succ, i64_w, i32_w]
                      rfl
                     exact norm_ (by simp only [putAll, Act.put, List.setIfInBounds_toArray, List.set_cons_zero, List.set_cons_succ]) (hCont (v1520, .slice Ao45 y1522.length co45, gb1525) _ ⟨hHeld, (by (with_reducible repeat (first | apply Kd.R_alloc | apply Kd.R_drewN | apply Kd.R_drew)); exact Kd.R_mono HO1524.out (fun _ hk => ⟨hk.2, hk.1⟩)), (by (with_reducible repeat (first | apply Kd.R_alloc | apply Kd.R_drewN | apply Kd.R_drew)); exact Kd.R_mono HO_1518001.out (fun _ hk => ⟨hk.2, hk.1⟩)), (by (with_reducible repeat (first | apply Kd.R_alloc | apply Kd.R_drewN | apply Kd.R_drew)); exact Kd.R_mono HO_7.out (fun _ hk => ⟨hk.2, hk.1⟩)), (by (with_reducible repeat (first | refine blk_drewN ?_ _ | refine blk_drew ?_ | refine blk_alloc ?_ _)); exact BK1517.out), (by (with_reducible repeat (first | refine blk_drewN ?_ _ | refine blk_drew ?_ | refine blk_alloc ?_ _)); exact BK1525.out), GW1525.out, GE1525.out, NB1517_1525.out, NB1525_1517.out, (by repeat (first | (with_reducible first | exact HB.out | apply below_alloc | apply pw_below_drewN | apply below_drew1 | refine below_set ?_ GE1517.out | refine below_set ?_ GE1525.out) | exact HB.out))⟩)
                    ·
                     skip
                     refine box_step ?hg (N := 9) ?hd (cs := #[.int .u64 0, .slice none 0 0]) (t := 45) ?hr ?_; (case hd => rfl); (case hg => rfl); (case hr => first | (go_simp; done) | (go_simp; rfl))
                     intro gb1525 hg w44 hbox hb
                     have n0_ := Aside0.mk (Kd.R_below (by (with_reducible repeat (first | apply Kd.R_alloc | apply Kd.R_drewN | apply Kd.R_drew)); exact HO_7.out) hb)
                     have n1_ := Aside0.mk (Kd.R_below (by (with_reducible repeat (first | apply Kd.R_alloc | apply Kd.R_drewN | apply Kd.R_drew)); exact HO_1518001.out) hb)
                     have n2_ := Aside0.mk (Kd.R_below (by (with_reducible repeat (first | apply Kd.R_alloc | apply Kd.R_drewN | apply Kd.R_drew)); exact HO1521.out) hb)
                     have n3_ := Aside0.mk (blk_below (g := gb1517) (o := .cells #[.int .u64 t1513, .slice Ao12 t1514.length co12] 45 (0, 0)) (by (with_reducible repeat (first | refine blk_drewN ?_ _ | refine blk_drew ?_ | refine blk_alloc ?_ _)); exact BK1517.out) hb)
                     have n4_ := Aside0.mk (below_step (by repeat (first | (with_reducible first | exact HB.out | apply below_alloc | apply pw_below_drewN | apply below_drew1 | refine below_set ?_ GE1517.out) | exact HB.out)) hb)
                     have n5_ := Aside0.mk (hbox)
                     have n6_ := Aside0.mk ((by rw [hg]; exact (below_size (by repeat (first | (with_reducible first | exact HB.out | apply below_alloc | apply pw_below_drewN | apply below_drew1 | refine below_set ?_ GE1517.out) | exact HB.out))) : w.heap.size ≤ gb1525))
                     have n7_ := Aside0.mk ((by rw [hg]; exact (below_size (by repeat (first | (with_reducible first | exact HB.out | apply below_alloc | apply pw_below_drewN | apply below_drew1 | refine below_set ?_ GE1517.out) | exact HB.out))) : w.heap.size ≤ gb1525))
                     have n8_ := Aside0.mk ((by rw [hg]; exact Nat.ne_of_lt (blk_lt (g := gb1517) (o := .cells #[.int .u64 t1513, .slice Ao12 t1514.length co12] 45 (0, 0)) (by (with_reducible repeat (first | refine blk_drewN ?_ _ | refine blk_drew ?_ | refine blk_alloc ?_ _)); exact BK1517.out)) : gb1517 ≠ gb1525))
                     have n9_ := Aside0.mk ((by rw [hg]; exact Nat.ne_of_gt (blk_lt (g := gb1517) (o := .cells #[.int .u64 t1513, .slice Ao12 t1514.length co12] 45 (0, 0)) (by (with_reducible repeat (first | refine blk_drewN ?_ _ | refine blk_drew ?_ | refine blk_alloc ?_ _)); exact BK1517.out)) : gb1525 ≠ gb1517))
                     clear HO_7 HO_1518001 HO1521 BK1517 HB
                     have HO_7 := n0_
                     have HO_1518001 := n1_
                     have HO1521 := n2_
                     have BK1517 := n3_
                     have HB := n4_
                     have BK1525 := n5_
                     have GW1525 := n6_
                     have GE1525 := n7_
                     have NB1517_1525 := n8_
                     have NB1525_1517 := n9_
                     clear n0_ n1_ n2_ n3_ n4_ n5_ n6_ n7_ n8_ n9_ hb hbox hg
                     refine hK.out _ _ ⟨(blk_cell BK1517.out 0).trans rfl, (blk_cell BK1517.out 1).trans rfl⟩ (fun hHeld => ?_)
                     clear hK K
                     refine norm_ (a' := ?_) ?_ ?_
                     rotate_left
                     ·
                      show Act.put _ (some 9) _ = _
                      simp only [Act.put, List.setIfInBounds_toArray, List.set_cons_zero, List.set_cons_succ, i64_w, i32_w]
                      rfl
                     refine one_ (i := 10) (N := some 59) #[T, T, T, T, T, T, T, T, T, T, T, F, T, F] rfl rfl (one_of HT_.out (by kernel_rfl)) (by decide) (fun K hK => ?_)
                     refine Kd.R_append_rows_step (Kd.int .u8) (w0 := w) w.heap.size (by rfl) (.tmp 56) (.tmp 58) 22 5 (.int .u8 0) 1 rfl Try.underlying22 info5 rfl (by decide) (by omega) v1520 y1519 t1514 _ _ _ (fun k_ => some k_ ≠ (u7 : Value).ownBlock ∧ some k_ ≠ (.slice Ao12 t1514.length co12 : Value).ownBlock) (fun _ => False) rfl rfl ?aO ?aR (fun _ _ h => h) (fun _ h => h.elim) ?aF ?aB ?aS ?aL ?_
                     (case aR => repeat (first | exact (Kd.R_reads' HO_1518001.out).2.2 | (with_reducible refine Kd.C_alloc ?_ _) | (with_reducible refine Kd.C_drewN ?_ _) | (with_reducible refine Kd.C_drew ?_)))
                     (case aB => exact (by repeat (first | (with_reducible first | exact HB.out | apply below_alloc | apply pw_below_drewN | apply below_drew1 | refine below_set ?_ GE1517.out | refine below_set ?_ GE1525.out) | exact HB.out)))
                     (case aF => exact (fun k_ hk => ⟨Kd.fresh' (Kd.R_lt (by (with_reducible repeat (first | apply Kd.R_alloc | apply Kd.R_drewN | apply Kd.R_drew)); exact HO_7.out)) k_ hk, Kd.fresh' (Kd.R_lt (by (with_reducible repeat (first | apply Kd.R_alloc | apply Kd.R_drewN | apply Kd.R_drew)); exact HO_1518001.out)) k_ hk⟩))
                     (case aO => exact (by (with_reducible repeat (first | apply Kd.R_alloc | apply Kd.R_drewN | apply Kd.R_drew)); exact Kd.R_mono HO1521.out (fun _ hk => ⟨hk.1.2, hk.2⟩)))
                     (case aS => exact (below_size (by repeat (first | (with_reducible first | exact HB.out | apply below_alloc | apply pw_below_drewN | apply below_drew1 | refine below_set ?_ GE1517.out | refine below_set ?_ GE1525.out) | exact HB.out))))
                     (case aL => have := LMc18.out; omega)
                     intro v1523 w45 ho hb hg hat
                     rw [← Ny1522.out] at ho
                     have n0_ := Aside0.mk (Kd.R_after (ok := (fun k_ => some k_ ≠ (.slice Ao12 t1514.length co12 : Value).ownBlock)) (by (with_reducible repeat (first | apply Kd.R_alloc | apply Kd.R_drewN | apply Kd.R_drew)); exact HO_7.out) hg hat)
                     have n1_ := Aside0.mk (Kd.R_after (ok := (fun k_ => some k_ ≠ (u7 : Value).ownBlock)) (by (with_reducible repeat (first | apply Kd.R_alloc | apply Kd.R_drewN | apply Kd.R_drew)); exact HO_1518001.out) hg hat)
                     have n2_ := Aside0.mk (blk_grown (g := gb1517) (o := .cells #[.int .u64 t1513, .slice Ao12 t1514.length co12] 45 (0, 0)) (by (with_reducible repeat (first | refine blk_drewN ?_ _ | refine blk_drew ?_ | refine blk_alloc ?_ _)); exact BK1517.out) hg (Kd.R_ne HO1521.out BK1517.out (by decide)))
                     have n3_ := Aside0.mk (blk_grown (g := gb1525) (o := .cells #[.int .u64 0, .slice none 0 0] 45 (0, 0)) (by (with_reducible repeat (first | refine blk_drewN ?_ _ | refine blk_drew ?_ | refine blk_alloc ?_ _)); exact BK1525.out) hg (Kd.R_ne HO1521.out BK1525.out (by decide)))
                     have n4_ := Aside0.mk (hb)
                     have n5_ := Aside0.mk (ho)
                     clear HO_7 HO_1518001 BK1517 BK1525 HB HO1521
                     have HO_7 := n0_
                     have HO_1518001 := n1_
                     have BK1517 := n2_
                     have BK1525 := n3_
                     have HB := n4_
                     have HO1524 := n5_
                     clear n0_ n1_ n2_ n3_ n4_ n5_ ho hb hg hat
                     obtain ⟨Ao46, co46, eo46⟩ := Kd.R_slice HO1524.out
                     (first | subst eo46 | (injection eo46 with f1_ f2_ f3_; have f4_ := f1_.symm; have f5_ := f3_.symm; clear f1_ f2_ f3_; subst f4_; subst f5_))
                     refine hK.out _ _ ⟨(blk_cell BK1517.out 0).trans rfl, (blk_cell BK1517.out 1).trans rfl⟩ (fun hHeld => ?_)
                     clear hK K
                     refine norm_ (a' := ?_) ?_ ?_
                     rotate_left
                     ·
                      show Act.put _ (some 59) _ = _
                      simp only [Act.put, List.setIfInBounds_toArray, List.set_cons_zero, List.set_cons_succ, i64_w, i32_w]
                      rfl
                     refine pure_ (i := 11) (N := some 60) (v := ?_) (a' := ?_) #[T, T, T, T, T, T, T, T, T, T, T, T, T, F] rfl rfl (any_of HT_.out (by kernel_rfl)) (fun _ _ _ h => h) (Or.inl ⟨by rfl, ?_⟩) ?_ ?_
                     rotate_left; (intro w'; go_simp; with_reducible rfl); rotate_left; (simp only [Act.put, List.setIfInBounds_toArray, List.set_cons_zero, List.set_cons_succ, i64_w, i32_w]; rfl)
                     exact norm_ (by simp only [putAll, Act.put, List.setIfInBounds_toArray, List.set_cons_zero, List.set_cons_succ]) (hCont (v1520, .slice Ao46 y1522.length co46, gb1525) _ ⟨hHeld, (by (with_reducible repeat (first | apply Kd.R_alloc | apply Kd.R_drewN | apply Kd.R_drew)); exact Kd.R_mono HO1524.out (fun _ hk => ⟨hk.2, hk.1⟩)), (by (with_reducible repeat (first | apply Kd.R_alloc | apply Kd.R_drewN | apply Kd.R_drew)); exact Kd.R_mono HO_1518001.out (fun _ hk => ⟨hk.2, hk.1⟩)), (by (with_reducible repeat (first | apply Kd.R_alloc | apply Kd.R_drewN | apply Kd.R_drew)); exact Kd.R_mono HO_7.out (fun _ hk => ⟨hk.2, hk.1⟩)), (by (with_reducible repeat (first | refine blk_drewN ?_ _ | refine blk_drew ?_ | refine blk_alloc ?_ _)); exact BK1517.out), (by (with_reducible repeat (first | refine blk_drewN ?_ _ | refine blk_drew ?_ | refine blk_alloc ?_ _)); exact BK1525.out), GW1525.out, GE1525.out, NB1517_1525.out, NB1525_1517.out, (by repeat (first | (with_reducible first | exact HB.out | apply below_alloc | apply pw_below_drewN | apply below_drew1 | refine below_set ?_ GE1517.out | refine below_set ?_ GE1525.out) | exact HB.out))⟩)
                   ·
                    skip
                    refine box_step ?hg (N := 9) ?hd (cs := #[.int .u64 0, .slice none 0 0]) (t := 45) ?hr ?_; (case hd => rfl); (case hg => rfl); (case hr => first | (go_simp; done) | (go_simp; rfl))
                    intro gb1525 hg w42 hbox hb
                    have n0_ := Aside0.mk (Kd.R_below (by (with_reducible repeat (first | apply Kd.R_alloc | apply Kd.R_drewN | apply Kd.R_drew)); exact HO_7.out) hb)
                    have n1_ := Aside0.mk (Kd.R_below (by (with_reducible repeat (first | apply Kd.R_alloc | apply Kd.R_drewN | apply Kd.R_drew)); exact HO_1518001.out) hb)
                    have n2_ := Aside0.mk (blk_below (g := gb1517) (o := .cells #[.int .u64 t1513, .slice Ao12 t1514.length co12] 45 (0, 0)) (by (with_reducible repeat (first | refine blk_drewN ?_ _ | refine blk_drew ?_ | refine blk_alloc ?_ _)); exact BK1517.out) hb)
                    have n3_ := Aside0.mk (below_step (by repeat (first | (with_reducible first | exact HB.out | apply below_alloc | apply pw_below_drewN | apply below_drew1 | refine below_set ?_ GE1517.out) | exact HB.out)) hb)
                    have n4_ := Aside0.mk (hbox)
                    have n5_ := Aside0.mk ((by rw [hg]; exact (below_size (by repeat (first | (with_reducible first | exact HB.out | apply below_alloc | apply pw_below_drewN | apply below_drew1 | refine below_set ?_ GE1517.out) | exact HB.out))) : w.heap.size ≤ gb1525))
                    have n6_ := Aside0.mk ((by rw [hg]; exact (below_size (by repeat (first | (with_reducible first | exact HB.out | apply below_alloc | apply pw_below_drewN | apply below_drew1 | refine below_set ?_ GE1517.out) | exact HB.out))) : w.heap.size ≤ gb1525))
                    have n7_ := Aside0.mk ((by rw [hg]; exact Nat.ne_of_lt (blk_lt (g := gb1517) (o := .cells #[.int .u64 t1513, .slice Ao12 t1514.length co12] 45 (0, 0)) (by (with_reducible repeat (first | refine blk_drewN ?_ _ | refine blk_drew ?_ | refine blk_alloc ?_ _)); exact BK1517.out)) : gb1517 ≠ gb1525))
                    have n8_ := Aside0.mk ((by rw [hg]; exact Nat.ne_of_gt (blk_lt (g := gb1517) (o := .cells #[.int .u64 t1513, .slice Ao12 t1514.length co12] 45 (0, 0)) (by (with_reducible repeat (first | refine blk_drewN ?_ _ | refine blk_drew ?_ | refine blk_alloc ?_ _)); exact BK1517.out)) : gb1525 ≠ gb1517))
                    clear HO_7 HO_1518001 BK1517 HB
                    have HO_7 := n0_
                    have HO_1518001 := n1_
                    have BK1517 := n2_
                    have HB := n3_
                    have BK1525 := n4_
                    have GW1525 := n5_
                    have GE1525 := n6_
                    have NB1517_1525 := n7_
                    have NB1525_1517 := n8_
                    clear n0_ n1_ n2_ n3_ n4_ n5_ n6_ n7_ n8_ hb hbox hg
                    refine hK.out _ _ ⟨(blk_cell BK1517.out 0).trans rfl, (blk_cell BK1517.out 1).trans rfl⟩ (fun hHeld => ?_)
                    clear hK K
                    refine norm_ (a' := ?_) ?_ ?_
                    rotate_left
                    ·
                     show Act.put _ (some 9) _ = _
                     simp only [Act.put, List.setIfInBounds_toArray, List.set_cons_zero, List.set_cons_succ, i64_w, i32_w]
                     rfl
                    refine one_ (i := 7) (N := some 56) #[T, T, T, T, T, T, T, T, T, T, F, F, T, F] rfl rfl (one_of HT_.out (by kernel_rfl)) (by decide) (fun K hK => ?_)
                    refine Kd.R_lit_step (Kd.int .u8) _ 5 ?hg (N := 56) ?hd (xs := ([(x8_3) % 256] : List Int)) (inner := [.int .u8 ((x8_3) % 256)]) (ok := fun _ => True) (okp := fun _ => True) ?hr ?hp (fun _ hk => hk) trivial (Below.refl _ _) (Nat.le_refl _) (by simp) ?_; (case hd => rfl); (case hg => rfl); (case hr => first | (go_simp; done) | (go_simp; rfl)); (case hp => exact (Reps.one (show Kd.M (Kd.int .u8) _ _ _ ((x8_3) % 256) [.int .u8 ((x8_3) % 256)] from rfl) (Reps.none _ _)))
                    intro v1520 w43 ho44 hb hg_ hnew_
                    clear hg_ hnew_
                    (first | rw [← Ny1519.out] at ho44 | (simp only [Int.reduceToNat] at ho44; rw [← Ny1519.out] at ho44))
                    have n0_ := Aside0.mk (Kd.R_elder' (by (with_reducible repeat (first | apply Kd.R_alloc | apply Kd.R_drewN | apply Kd.R_drew)); exact HO_7.out) (Kd.R_base ho44) hb)
                    have n1_ := Aside0.mk (Kd.R_elder' (by (with_reducible repeat (first | apply Kd.R_alloc | apply Kd.R_drewN | apply Kd.R_drew)); exact HO_1518001.out) (Kd.R_base ho44) hb)
                    have n2_ := Aside0.mk (Kd.R_lower (Kd.R_new' (Kd.R_new' ho44 (Kd.R_lt (by (with_reducible repeat (first | apply Kd.R_alloc | apply Kd.R_drewN | apply Kd.R_drew)); exact HO_7.out))) (Kd.R_lt (by (with_reducible repeat (first | apply Kd.R_alloc | apply Kd.R_drewN | apply Kd.R_drew)); exact HO_1518001.out))) (below_size (by repeat (first | (with_reducible first | exact HB.out | apply below_alloc | apply pw_below_drewN | apply below_drew1 | refine below_set ?_ GE1517.out | refine below_set ?_ GE1525.out) | exact HB.out))))
                    have n3_ := Aside0.mk (blk_below (g := gb1517) (o := .cells #[.int .u64 t1513, .slice Ao12 t1514.length co12] 45 (0, 0)) (by (with_reducible repeat (first | refine blk_drewN ?_ _ | refine blk_drew ?_ | refine blk_alloc ?_ _)); exact BK1517.out) hb)
                    have n4_ := Aside0.mk (blk_below (g := gb1525) (o := .cells #[.int .u64 0, .slice none 0 0] 45 (0, 0)) (by (with_reducible repeat (first | refine blk_drewN ?_ _ | refine blk_drew ?_ | refine blk_alloc ?_ _)); exact BK1525.out) hb)
                    have n5_ := Aside0.mk (below_step (by repeat (first | (with_reducible first | exact HB.out | apply below_alloc | apply pw_below_drewN | apply below_drew1 | refine below_set ?_ GE1517.out | refine below_set ?_ GE1525.out) | exact HB.out)) hb)
                    clear HO_7 HO_1518001 BK1517 BK1525 HB
                    have HO_7 := n0_
                    have HO_1518001 := n1_
                    have HO1521 := n2_
                    have BK1517 := n3_
                    have BK1525 := n4_
                    have HB := n5_
                    clear n0_ n1_ n2_ n3_ n4_ n5_ hb ho44
                    refine hK.out _ _ ⟨(blk_cell BK1517.out 0).trans rfl, (blk_cell BK1517.out 1).trans rfl⟩ (fun hHeld => ?_)
                    clear hK K
                    refine norm_ (a' := ?_) ?_ ?_
                    rotate_left
                    ·
                     show Act.put _ (some 56) _ = _
                     simp only [Act.put, List.setIfInBounds_toArray, List.set_cons_zero, List.set_cons_succ, i64_w, i32_w]
                     rfl
                    refine one_ (i := 10) (N := some 59) #[T, T, T, T, T, T, T, T, T, T, T, F, T, F] rfl rfl (one_of HT_.out (by kernel_rfl)) (by decide) (fun K hK => ?_)
                    refine Kd.R_append_rows_step (Kd.int .u8) (w0 := w) w.heap.size (by rfl) (.tmp 56) (.tmp 58) 22 5 (.int .u8 0) 1 rfl Try.underlying22 info5 rfl (by decide) (by omega) v1520 y1519 t1514 _ _ _ (fun k_ => some k_ ≠ (u7 : Value).ownBlock ∧ some k_ ≠ (.slice Ao12 t1514.length co12 : Value).ownBlock) (fun _ => False) rfl rfl ?aO ?aR (fun _ _ h => h) (fun _ h => h.elim) ?aF ?aB ?aS ?aL ?_
                    (case aR => repeat (first | exact (Kd.R_reads' HO_1518001.out).2.2 | (with_reducible refine Kd.C_alloc ?_ _) | (with_reducible refine Kd.C_drewN ?_ _) | (with_reducible refine Kd.C_drew ?_)))
                    (case aB => exact (by repeat (first | (with_reducible first | exact HB.out | apply below_alloc | apply pw_below_drewN | apply below_drew1 | refine below_set ?_ GE1517.out | refine below_set ?_ GE1525.out) | exact HB.out)))
                    (case aF => exact (fun k_ hk => ⟨Kd.fresh' (Kd.R_lt (by (with_reducible repeat (first | apply Kd.R_alloc | apply Kd.R_drewN | apply Kd.R_drew)); exact HO_7.out)) k_ hk, Kd.fresh' (Kd.R_lt (by (with_reducible repeat (first | apply Kd.R_alloc | apply Kd.R_drewN | apply Kd.R_drew)); exact HO_1518001.out)) k_ hk⟩))
                    (case aO => exact (by (with_reducible repeat (first | apply Kd.R_alloc | apply Kd.R_drewN | apply Kd.R_drew)); exact Kd.R_mono HO1521.out (fun _ hk => ⟨hk.1.2, hk.2⟩)))
                    (case aS => exact (below_size (by repeat (first | (with_reducible first | exact HB.out | apply below_alloc | apply pw_below_drewN | apply below_drew1 | refine below_set ?_ GE1517.out | refine below_set ?_ GE1525.out) | exact HB.out))))
                    (case aL => have := LMc18.out; omega)
                    intro v1523 w45 ho hb hg hat
                    rw [← Ny1522.out] at ho
                    have n0_ := Aside0.mk (Kd.R_after (ok := (fun k_ => some k_ ≠ (.slice Ao12 t1514.length co12 : Value).ownBlock)) (by (with_reducible repeat (first | apply Kd.R_alloc | apply Kd.R_drewN | apply Kd.R_drew)); exact HO_7.out) hg hat)
                    have n1_ := Aside0.mk (Kd.R_after (ok := (fun k_ => some k_ ≠ (u7 : Value).ownBlock)) (by (with_reducible repeat (first | apply Kd.R_alloc | apply Kd.R_drewN | apply Kd.R_drew)); exact HO_1518001.out) hg hat)
                    have n2_ := Aside0.mk (blk_grown (g := gb1517) (o := .cells #[.int .u64 t1513, .slice Ao12 t1514.length co12] 45 (0, 0)) (by (with_reducible repeat (first | refine blk_drewN ?_ _ | refine blk_drew ?_ | refine blk_alloc ?_ _)); exact BK1517.out) hg (Kd.R_ne HO1521.out BK1517.out (by decide)))
                    have n3_ := Aside0.mk (blk_grown (g := gb1525) (o := .cells #[.int .u64 0, .slice none 0 0] 45 (0, 0)) (by (with_reducible repeat (first | refine blk_drewN ?_ _ | refine blk_drew ?_ | refine blk_alloc ?_ _)); exact BK1525.out) hg (Kd.R_ne HO1521.out BK1525.out (by decide)))
                    have n4_ := Aside0.mk (hb)
                    have n5_ := Aside0.mk (ho)
                    clear HO_7 HO_1518001 BK1517 BK1525 HB HO1521
                    have HO_7 := n0_
                    have HO_1518001 := n1_
                    have BK1517 := n2_
                    have BK1525 := n3_
                    have HB := n4_
                    have HO1524 := n5_
                    clear n0_ n1_ n2_ n3_ n4_ n5_ ho hb hg hat
                    obtain ⟨Ao46, co46, eo46⟩ := Kd.R_slice HO1524.out
                    (first | subst eo46 | (injection eo46 with f1_ f2_ f3_; have f4_ := f1_.symm; have f5_ := f3_.symm; clear f1_ f2_ f3_; subst f4_; subst f5_))
                    refine hK.out _ _ ⟨(blk_cell BK1517.out 0).trans rfl, (blk_cell BK1517.out 1).trans rfl⟩ (fun hHeld => ?_)
                    clear hK K
                    refine norm_ (a' := ?_) ?_ ?_
                    rotate_left
                    ·
                     show Act.put _ (some 59) _ = _
                     simp only [Act.put, List.setIfInBounds_toArray, List.set_cons_zero, List.set_cons_succ, i64_w, i32_w]
                     rfl
                    refine pure_ (i := 11) (N := some 60) (v := ?_) (a' := ?_) #[T, T, T, T, T, T, T, T, T, T, T, T, T, F] rfl rfl (any_of HT_.out (by kernel_rfl)) (fun _ _ _ h => h) (Or.inl ⟨by rfl, ?_⟩) ?_ ?_
                    rotate_left; (intro w'; go_simp; with_reducible rfl); rotate_left; (simp only [Act.put, List.setIfInBounds_toArray, List.set_cons_zero, List.set_cons_succ, i64_w, i32_w]; rfl)
                    exact norm_ (by simp only [putAll, Act.put, List.setIfInBounds_toArray, List.set_cons_zero, List.set_cons_succ]) (hCont (v1520, .slice Ao46 y1522.length co46, gb1525) _ ⟨hHeld, (by (with_reducible repeat (first | apply Kd.R_alloc | apply Kd.R_drewN | apply Kd.R_drew)); exact Kd.R_mono HO1524.out (fun _ hk => ⟨hk.2, hk.1⟩)), (by (with_reducible repeat (first | apply Kd.R_alloc | apply Kd.R_drewN | apply Kd.R_drew)); exact Kd.R_mono HO_1518001.out (fun _ hk => ⟨hk.2, hk.1⟩)), (by (with_reducible repeat (first | apply Kd.R_alloc | apply Kd.R_drewN | apply Kd.R_drew)); exact Kd.R_mono HO_7.out (fun _ hk => ⟨hk.2, hk.1⟩)), (by (with_reducible repeat (first | refine blk_drewN ?_ _ | refine blk_drew ?_ | refine blk_alloc ?_ _)); exact BK1517.out), (by (with_reducible repeat (first | refine blk_drewN ?_ _ | refine blk_drew ?_ | refine blk_alloc ?_ _)); exact BK1525.out), GW1525.out, GE1525.out, NB1517_1525.out, NB1525_1517.out, (by repeat (first | (with_reducible first | exact HB.out | apply below_alloc | apply pw_below_drewN | apply below_drew1 | refine below_set ?_ GE1517.out | refine below_set ?_ GE1525.out) | exact HB.out))⟩)
                  rintro ⟨v1520, v1523, gb1525⟩ w47 ⟨hS_, h0_, h1_, h2_, h3_, h4_, h5_, h6_, h7_, h8_, h9_⟩
                  have n0_ : Aside0 (Kd.R (Kd.int .u8) 5 w47 w.heap.size (fun k_ => some k_ ≠ (.slice Ao12 t1514.length co12 : Value).ownBlock ∧ some k_ ≠ (u7 : Value).ownBlock) v1523 y1522) := ⟨h0_⟩
                  have n1_ : Aside0 (Kd.R (Kd.int .u8) 5 w47 w.heap.size (fun k_ => some k_ ≠ (v1523 : Value).ownBlock ∧ some k_ ≠ (u7 : Value).ownBlock) (.slice Ao12 t1514.length co12) t1514) := ⟨h1_⟩
                  have n2_ : Aside0 (Kd.R (Kd.int .u8) 5 w47 w.heap.size (fun k_ => some k_ ≠ (v1523 : Value).ownBlock ∧ some k_ ≠ (.slice Ao12 t1514.length co12 : Value).ownBlock) u7 x7_3) := ⟨h2_⟩
                  have n3_ : Aside0 (w47.heap[gb1517]? = some (.cells #[.int .u64 t1513, .slice Ao12 t1514.length co12] 45 (0, 0))) := ⟨h3_⟩
                  have n4_ : Aside0 (w47.heap[gb1525]? = some (.cells #[.int .u64 0, .slice none 0 0] 45 (0, 0))) := ⟨h4_⟩
                  have n5_ : Aside0 (w.heap.size ≤ gb1525) := ⟨h5_⟩
                  have n6_ : Aside0 (w.heap.size ≤ gb1525) := ⟨h6_⟩
                  have n7_ : Aside0 (gb1517 ≠ gb1525) := ⟨h7_⟩
                  have n8_ : Aside0 (gb1525 ≠ gb1517) := ⟨h8_⟩
                  have n9_ : Aside0 (Below w.heap.size w w47) := ⟨h9_⟩
                  clear HO_7 HO_1518001 BK1517 HB h0_ h1_ h2_ h3_ h4_ h5_ h6_ h7_ h8_ h9_
                  have HO1524 := n0_
                  have HO_1518001 := n1_
                  have HO_7 := n2_
                  have BK1517 := n3_
                  have BK1525 := n4_
                  have GW1525 := n5_
                  have GE1525 := n6_
                  have NB1517_1525 := n7_
                  have NB1525_1517 := n8_
                  have HB := n9_
                  clear n0_ n1_ n2_ n3_ n4_ n5_ n6_ n7_ n8_ n9_
                  have hHeld : w47.cell? ⟨gb1517, 0, none⟩ = some (.int .u64 t1513) ∧ w47.cell? ⟨gb1517, 1, none⟩ = some (.slice Ao12 t1514.length co12) := hS_
                  obtain ⟨Ao48, co48, eo48⟩ := Kd.R_slice HO1524.out
                  (first | subst eo48 | (injection eo48 with f1_ f2_ f3_; have f4_ := f1_.symm; have f5_ := f3_.symm; clear f1_ f2_ f3_; subst f4_; subst f5_))
                  refine norm_ (a' := ?_) ?_ ?_
                  rotate_left
                  ·
                   simp only [putAll, Act.put, List.setIfInBounds_toArray, List.set_cons_zero, List.set_cons_succ]
                   rfl
                  refine one_ (i := 13) (N := none) #[T, T, T, T, T, T, T, T, T, T, T, T, T, T] rfl rfl (one_of HT_.out (by kernel_rfl)) (by decide) (fun K hK => ?_)
                  have hs49 : w47.cell? ⟨gb1525, 0, none⟩ = some (.int .u64 0) := (blk_cell BK1525.out 0).trans rfl
                  have hfs49 := blk_frozen BK1525.out 0
                  have hns49_0 := NB1517_1525.out
                  have hms49_0 := NB1525_1517.out
                  have hs50 : w47.cell? ⟨gb1525, 1, none⟩ = some (.slice none 0 0) := (blk_cell BK1525.out 1).trans rfl
                  have hfs50 := blk_frozen BK1525.out 1
                  have hns50_0 := NB1517_1525.out
                  have hms50_0 := NB1525_1517.out
                  refine skip_ (w1 := ?_) (by rfl) rfl ?_ ?_
                  rotate_left
                  ·
                   go_simp
                   rfl
                  refine hK.out _ _ ⟨((cell_far (p := ⟨gb1525, _, none⟩) NB1517_1525.out _).trans (((cell_far (p := ⟨gb1525, _, none⟩) NB1517_1525.out _).trans (hHeld.1)))), ((cell_far (p := ⟨gb1525, _, none⟩) NB1517_1525.out _).trans (((cell_far (p := ⟨gb1525, _, none⟩) NB1517_1525.out _).trans (hHeld.2))))⟩ (fun hHeld => ?_)
                  clear hK K
                  refine done_ (done_of HT_.out (by kernel_rfl)) ?_
                  have n0_ : Aside0 (Kd.R (Kd.int .u8) 5 ((w47.setCell ⟨gb1525, 0, none⟩ (.int .u64 (IntKind.u64.wrap (t1513 + (IntKind.u64.wrap (x8_3)))))).setCell ⟨gb1525, 1, none⟩ (.slice Ao48 y1522.length co48)) w.heap.size (fun k_ => some k_ ≠ (.slice Ao12 t1514.length co12 : Value).ownBlock ∧ some k_ ≠ (.slice Ao48 y1522.length co48 : Value).ownBlock) u7 x7_3) := ⟨by (with_reducible repeat (first | apply Kd.R_alloc | apply Kd.R_drewN | apply Kd.R_drew)); exact Kd.R_mono (Kd.R_far (p := ⟨gb1525, 1, none⟩) (Kd.R_far (p := ⟨gb1525, 0, none⟩) (Kd.R_types HO_7.out BK1525.out (by decide)) (fun _ hk => hk.2) (.int .u64 (IntKind.u64.wrap (t1513 + (IntKind.u64.wrap (x8_3)))))) (fun _ hk => hk.2) (.slice Ao48 y1522.length co48)) (fun _ hk => ⟨hk.1.2, hk.1.1⟩)⟩
                  have n1_ : Aside0 (Kd.R (Kd.int .u8) 5 ((w47.setCell ⟨gb1525, 0, none⟩ (.int .u64 (IntKind.u64.wrap (t1513 + (IntKind.u64.wrap (x8_3)))))).setCell ⟨gb1525, 1, none⟩ (.slice Ao48 y1522.length co48)) w.heap.size (fun k_ => some k_ ≠ (u7 : Value).ownBlock ∧ some k_ ≠ (.slice Ao48 y1522.length co48 : Value).ownBlock) (.slice Ao12 t1514.length co12) t1514) := ⟨by (with_reducible repeat (first | apply Kd.R_alloc | apply Kd.R_drewN | apply Kd.R_drew)); exact Kd.R_mono (Kd.R_far (p := ⟨gb1525, 1, none⟩) (Kd.R_far (p := ⟨gb1525, 0, none⟩) (Kd.R_types HO_1518001.out BK1525.out (by decide)) (fun _ hk => hk.2) (.int .u64 (IntKind.u64.wrap (t1513 + (IntKind.u64.wrap (x8_3)))))) (fun _ hk => hk.2) (.slice Ao48 y1522.length co48)) (fun _ hk => ⟨hk.1.2, hk.1.1⟩)⟩
                  have n2_ : Aside0 (Kd.R (Kd.int .u8) 5 ((w47.setCell ⟨gb1525, 0, none⟩ (.int .u64 (IntKind.u64.wrap (t1513 + (IntKind.u64.wrap (x8_3)))))).setCell ⟨gb1525, 1, none⟩ (.slice Ao48 y1522.length co48)) w.heap.size (fun k_ => some k_ ≠ (u7 : Value).ownBlock ∧ some k_ ≠ (.slice Ao12 t1514.length co12 : Value).ownBlock) (.slice Ao48 y1522.length co48) y1522) := ⟨by (with_reducible repeat (first | apply Kd.R_alloc | apply Kd.R_drewN | apply Kd.R_drew)); exact Kd.R_mono (Kd.R_far (p := ⟨gb1525, 1, none⟩) (Kd.R_far (p := ⟨gb1525, 0, none⟩) (Kd.R_types HO1524.out BK1525.out (by decide)) (fun _ hk => hk.2) (.int .u64 (IntKind.u64.wrap (t1513 + (IntKind.u64.wrap (x8_3)))))) (fun _ hk => hk.2) (.slice Ao48 y1522.length co48)) (fun _ hk => ⟨hk.1.2, hk.1.1⟩)⟩
                  have n3_ : Aside0 (((w47.setCell ⟨gb1525, 0, none⟩ (.int .u64 (IntKind.u64.wrap (t1513 + (IntKind.u64.wrap (x8_3)))))).setCell ⟨gb1525, 1, none⟩ (.slice Ao48 y1522.length co48)).heap[gb1517]? = some (.cells #[.int .u64 t1513, .slice Ao12 t1514.length co12] 45 (0, 0))) := ⟨by (with_reducible repeat (first | refine blk_drewN ?_ _ | refine blk_drew ?_ | refine blk_alloc ?_ _)); refine blk_far ?_ NB1517_1525.out _; (with_reducible repeat (first | refine blk_drewN ?_ _ | refine blk_drew ?_ | refine blk_alloc ?_ _)); refine blk_far ?_ NB1517_1525.out _; (with_reducible repeat (first | refine blk_drewN ?_ _ | refine blk_drew ?_ | refine blk_alloc ?_ _)); exact BK1517.out⟩
                  have n4_ : Aside0 (((w47.setCell ⟨gb1525, 0, none⟩ (.int .u64 (IntKind.u64.wrap (t1513 + (IntKind.u64.wrap (x8_3)))))).setCell ⟨gb1525, 1, none⟩ (.slice Ao48 y1522.length co48)).heap[gb1525]? = some (.cells #[.int .u64 (IntKind.u64.wrap (t1513 + (IntKind.u64.wrap (x8_3)))), .slice Ao48 y1522.length co48] 45 (0, 0))) := ⟨by (with_reducible repeat (first | refine blk_drewN ?_ _ | refine blk_drew ?_ | refine blk_alloc ?_ _)); refine blk_put (cs := #[.int .u64 (IntKind.u64.wrap (t1513 + (IntKind.u64.wrap (x8_3)))), .slice none 0 0]) ?_ 1 _ rfl; (with_reducible repeat (first | refine blk_drewN ?_ _ | refine blk_drew ?_ | refine blk_alloc ?_ _)); refine blk_put (cs := #[.int .u64 0, .slice none 0 0]) ?_ 0 _ rfl; (with_reducible repeat (first | refine blk_drewN ?_ _ | refine blk_drew ?_ | refine blk_alloc ?_ _)); exact BK1525.out⟩
                  have n5_ : Aside0 (Below w.heap.size w ((w47.setCell ⟨gb1525, 0, none⟩ (.int .u64 (IntKind.u64.wrap (t1513 + (IntKind.u64.wrap (x8_3)))))).setCell ⟨gb1525, 1, none⟩ (.slice Ao48 y1522.length co48))) := ⟨by repeat (first | (with_reducible first | exact HB.out | apply below_alloc | apply pw_below_drewN | apply below_drew1 | refine below_set ?_ GE1517.out | refine below_set ?_ GE1525.out) | exact HB.out)⟩
                  (try clear HO_7)
                  (try clear HO_1518001)
                  (try clear HO1524)
                  (try clear BK1517)
                  (try clear BK1525)
                  (try clear HB)
                  generalize ((w47.setCell ⟨gb1525, 0, none⟩ (.int .u64 (IntKind.u64.wrap (t1513 + (IntKind.u64.wrap (x8_3)))))).setCell ⟨gb1525, 1, none⟩ (.slice Ao48 y1522.length co48)) = w51 at n0_ n1_ n2_ n3_ n4_ n5_ ⊢
                  have HO_7 := n0_
                  have HO_1518001 := n1_
                  have HO1524 := n2_
                  have BK1517 := n3_
                  have BK1525 := n4_
                  have HB := n5_
                  clear n0_ n1_ n2_ n3_ n4_ n5_
                  have hnb52 := NB1525_1517.out
                  have hnc52 := NB1517_1525.out
                  have hcz53_0 : w51.cell? ⟨gb1525, 0, none⟩ = some (.int .u64 (IntKind.u64.wrap (t1513 + (IntKind.u64.wrap (x8_3))))) := (blk_cell BK1525.out 0).trans rfl
                  have hcz53_1 : w51.cell? ⟨gb1525, 1, none⟩ = some (.slice Ao48 y1522.length co48) := (blk_cell BK1525.out 1).trans rfl
                  have hfz53_0 := blk_frozen BK1525.out 0
                  have hfz53_1 := blk_frozen BK1525.out 1
                  try go_wp2_with (first | ((with_reducible refine gate_callee (f := 29) rfl ?_); refine goesL_ (some 66) rfl rfl Try.func29 (by kernel_rfl) rfl #[.agg #[.int .u64 (IntKind.u64.wrap (t1513 + (IntKind.u64.wrap (x8_3)))), .slice Ao48 y1522.length co48]] rfl (by (try simp only [List.map_toArray, List.map_cons, List.map_nil]); first | done | rfl | (simp only [List.length_drop, List.length_take]; rfl)) ?_; (with_reducible refine (impl_EncodeRecord.calls k3 (IntKind.u64.wrap (t1513 + (IntKind.u64.wrap (x8_3)))) (fun k_ => some k_ = (.slice Ao48 y1522.length co48 : Value).ownBlock) _ _ y1522 t1526 _ ?side1 A32.out).mono ?_); (case side1 => exact Kd.R_V (Kd.R_tight rfl (Kd.R_types (Kd.R_types (HO1524.out) BK1517.out (by decide)) BK1525.out (by decide)))); rintro e w54 ⟨v1527, rfl, ho0, hb⟩; refine ⟨_, rfl, ?_⟩; have n0_ := Aside0.mk (Kd.R_elder' (by (with_reducible repeat (first | apply Kd.R_alloc | apply Kd.R_drewN | apply Kd.R_drew)); exact HO_7.out) (Kd.R_base ho0) hb); have n1_ := Aside0.mk (Kd.R_elder' (by (with_reducible repeat (first | apply Kd.R_alloc | apply Kd.R_drewN | apply Kd.R_drew)); exact HO_1518001.out) (Kd.R_base ho0) hb); have n2_ := Aside0.mk (Kd.R_elder' (by (with_reducible repeat (first | apply Kd.R_alloc | apply Kd.R_drewN | apply Kd.R_drew)); exact HO1524.out) (Kd.R_base ho0) hb); have n3_ := Aside0.mk (Kd.R_lower (Kd.R_new' (Kd.R_new' (Kd.R_new' (Kd.R_mono (ok' := fun k_ => True) ho0 (fun _ hk_ => trivial)) (Kd.R_lt (by (with_reducible repeat (first | apply Kd.R_alloc | apply Kd.R_drewN | apply Kd.R_drew)); exact HO_7.out))) (Kd.R_lt (by (with_reducible repeat (first | apply Kd.R_alloc | apply Kd.R_drewN | apply Kd.R_drew)); exact HO_1518001.out))) (Kd.R_lt (by (with_reducible repeat (first | apply Kd.R_alloc | apply Kd.R_drewN | apply Kd.R_drew)); exact HO1524.out))) (below_size (by repeat (first | (with_reducible first | exact HB.out | apply below_alloc | apply pw_below_drewN | apply below_drew1 | refine below_set ?_ GE1517.out | refine below_set ?_ GE1525.out) | exact HB.out)))); have n4_ := Aside0.mk (blk_below (g := gb1517) (o := .cells #[.int .u64 t1513, .slice Ao12 t1514.length co12] 45 (0, 0)) (by (with_reducible repeat (first | refine blk_drewN ?_ _ | refine blk_drew ?_ | refine blk_alloc ?_ _)); exact BK1517.out) hb); have n5_ := Aside0.mk (blk_below (g := gb1525) (o := .cells #[.int .u64 (IntKind.u64.wrap (t1513 + (IntKind.u64.wrap (x8_3)))), .slice Ao48 y1522.length co48] 45 (0, 0)) (by (with_reducible repeat (first | refine blk_drewN ?_ _ | refine blk_drew ?_ | refine blk_alloc ?_ _)); exact BK1525.out) hb); have n6_ := Aside0.mk (below_step (by repeat (first | (with_reducible first | exact HB.out | apply below_alloc | apply pw_below_drewN | apply below_drew1 | refine below_set ?_ GE1517.out | refine below_set ?_ GE1525.out) | exact HB.out)) hb); clear HO_7; clear HO_1518001; clear HO1524; clear BK1517; clear BK1525; clear HB; have HO_7 := n0_; have HO_1518001 := n1_; have HO1524 := n2_; have HO1528 := n3_; have BK1517 := n4_; have BK1525 := n5_; have HB := n6_; clear n0_ n1_ n2_ n3_ n4_ n5_ n6_; (try clear hb); (try clear hb2); (try clear hk); (try clear hi); (try clear ho0); obtain ⟨Ao55, co55, eo55⟩ := Kd.R_slice HO1528.out; subst eo55; have hcz56_0 : w54.cell? ⟨gb1525, 0, none⟩ = some (.int .u64 (IntKind.u64.wrap (t1513 + (IntKind.u64.wrap (x8_3))))) := (blk_cell BK1525.out 0).trans rfl; have hcz56_1 : w54.cell? ⟨gb1525, 1, none⟩ = some (.slice Ao48 y1522.length co48) := (blk_cell BK1525.out 1).trans rfl; have hfz56_0 := blk_frozen BK1525.out 0; have hfz56_1 := blk_frozen BK1525.out 1) | ((with_reducible refine gate_callee (f := 52) rfl ?_); refine goesL_ (some 79) rfl rfl Try.func52 (by kernel_rfl) rfl #[.slice A1 l1.length c1, .int .i64 1] rfl (by (try simp only [List.map_toArray, List.map_cons, List.map_nil]); first | done | rfl | (simp only [List.length_drop, List.length_take]; rfl)) ?_; (with_reducible refine (laws_take.calls _ _ l1 1 t1529 _ ?side1 ?side2 A35.out).mono ?_); (case side1 => repeat (first | exact (Kd.C_below HR1.out HB.out) | (with_reducible refine Kd.C_alloc ?_ _) | (with_reducible refine Kd.C_drewN ?_ _) | (with_reducible refine Kd.C_drew ?_))); (case side2 => exact HC1.out); rintro e w' ⟨rfl, ⟨nd, rfl⟩⟩; refine ⟨_, rfl, ?_⟩; have q57 : ((ji37) : Int) ≤ ((t1526.length : Int) : Int) := of_decide_eq_true (by first | (with_reducible assumption) | assumption); obtain ⟨i057, hi057, _, hsz57, _⟩ := info_parts info5; have hcut57 := cut_to (P := Try.prog) 22 5 .i64 Try.underlying22 hi057 Ao55 t1526.length co55 (ji37) (of_decide_eq_true (by first | (with_reducible assumption) | assumption)) q57 (Kd.R_reads' HO1528.out).2.1; have hr57 := Kd.R_take (m := ((ji37) : Int).toNat) HO1528.out (by omega); have hy57 : y1530.length = ((ji37) : Int).toNat := (by rw [Ny1530.out, List.length_take]; omega); rw [← Ny1530.out] at hr57; rw [← hy57] at hr57 hcut57; clear hy57 hi057 hsz57 HO1528; have HO1532 := Aside0.mk hr57; clear hr57; replace q57 := eq_true q57; have eow := (by cases Ao55 <;> rfl : (Value.slice Ao55 t1526.length co55).ownBlock = (Value.slice Ao55 y1530.length co55).ownBlock); simp only [eow] at HO_7 HO_1518001 HO1524; clear eow) | ((with_reducible refine gate_builtin (b := .append) (xs := #[.tmp 84, .tmp 85]) rfl ?_); (try (refine gate_guard (by rfl) ?_; dsimp only)); at_builtin; refine Kd.R_append_rows (Kd.int .u8) (w0 := w) w.heap.size rfl (.tmp 84) (.tmp 85) 22 5 (.int .u8 0) 1 rfl Try.underlying22 info5 rfl (by decide) (by omega) u7 x7_3 y1530 _ _ _ (fun k_ => some k_ ≠ (.slice Ao12 t1514.length co12 : Value).ownBlock ∧ some k_ ≠ (.slice Ao48 y1522.length co48 : Value).ownBlock ∧ some k_ ≠ (.slice Ao55 y1530.length co55 : Value).ownBlock) (fun _ => False) rfl rfl ?aO ?aR (fun _ _ h => h) (fun _ h => h.elim) ?aF ?aB ?aS ?aL ?_; (case aR => repeat (first | exact (Kd.R_reads' HO1532.out).2.2 | (with_reducible refine Kd.C_alloc ?_ _) | (with_reducible refine Kd.C_drewN ?_ _) | (with_reducible refine Kd.C_drew ?_))); (case aB => exact (by repeat (first | (with_reducible first | exact HB.out | apply below_alloc | apply pw_below_drewN | apply below_drew1 | refine below_set ?_ GE1517.out | refine below_set ?_ GE1525.out) | exact HB.out))); (case aF => exact (fun k_ hk => ⟨Kd.fresh' (Kd.R_lt (by (with_reducible repeat (first | apply Kd.R_alloc | apply Kd.R_drewN | apply Kd.R_drew)); exact HO_1518001.out)) k_ hk, Kd.fresh' (Kd.R_lt (by (with_reducible repeat (first | apply Kd.R_alloc | apply Kd.R_drewN | apply Kd.R_drew)); exact HO1524.out)) k_ hk, Kd.fresh' (Kd.R_lt (by (with_reducible repeat (first | apply Kd.R_alloc | apply Kd.R_drewN | apply Kd.R_drew)); exact HO1532.out)) k_ hk⟩)); (case aO => exact (by (with_reducible repeat (first | apply Kd.R_alloc | apply Kd.R_drewN | apply Kd.R_drew)); exact Kd.R_mono HO_7.out (fun _ hk => ⟨hk.1.1, ⟨hk.1.2, hk.2⟩⟩))); (case aS => exact (below_size (by repeat (first | (with_reducible first | exact HB.out | apply below_alloc | apply pw_below_drewN | apply below_drew1 | refine below_set ?_ GE1517.out | refine below_set ?_ GE1525.out) | exact HB.out)))); (case aL => have := LMc40.out; omega); intro v1534 w58 ho hb hg hat; rw [← Ny1533.out] at ho; have n0_ := Aside0.mk (Kd.R_after (ok := (fun k_ => some k_ ≠ (.slice Ao48 y1522.length co48 : Value).ownBlock ∧ some k_ ≠ (.slice Ao55 y1530.length co55 : Value).ownBlock)) (by (with_reducible repeat (first | apply Kd.R_alloc | apply Kd.R_drewN | apply Kd.R_drew)); exact Kd.R_mono HO_1518001.out (fun _ hk => ⟨⟨hk.1.2, hk.2⟩, hk.1.1⟩)) hg hat); have n1_ := Aside0.mk (blk_grown (g := gb1517) (o := .cells #[.int .u64 t1513, .slice Ao12 t1514.length co12] 45 (0, 0)) (by (with_reducible repeat (first | refine blk_drewN ?_ _ | refine blk_drew ?_ | refine blk_alloc ?_ _)); exact BK1517.out) hg (Kd.R_ne HO_7.out BK1517.out (by decide))); have n2_ := Aside0.mk (Kd.R_after (ok := (fun k_ => some k_ ≠ (.slice Ao12 t1514.length co12 : Value).ownBlock ∧ some k_ ≠ (.slice Ao55 y1530.length co55 : Value).ownBlock)) (by (with_reducible repeat (first | apply Kd.R_alloc | apply Kd.R_drewN | apply Kd.R_drew)); exact Kd.R_mono HO1524.out (fun _ hk => ⟨⟨hk.1.2, hk.2⟩, hk.1.1⟩)) hg hat); have n3_ := Aside0.mk (blk_grown (g := gb1525) (o := .cells #[.int .u64 (IntKind.u64.wrap (t1513 + (IntKind.u64.wrap (x8_3)))), .slice Ao48 y1522.length co48] 45 (0, 0)) (by (with_reducible repeat (first | refine blk_drewN ?_ _ | refine blk_drew ?_ | refine blk_alloc ?_ _)); exact BK1525.out) hg (Kd.R_ne HO_7.out BK1525.out (by decide))); have n4_ := Aside0.mk (Kd.R_after (ok := (fun k_ => some k_ ≠ (.slice Ao12 t1514.length co12 : Value).ownBlock ∧ some k_ ≠ (.slice Ao48 y1522.length co48 : Value).ownBlock)) (by (with_reducible repeat (first | apply Kd.R_alloc | apply Kd.R_drewN | apply Kd.R_drew)); exact Kd.R_mono HO1532.out (fun _ hk => ⟨⟨hk.1.2, hk.2⟩, hk.1.1.2⟩)) hg hat); have n5_ := Aside0.mk (hb); have n6_ := Aside0.mk (ho); clear HO_1518001; clear BK1517; clear HO1524; clear BK1525; clear HO1532; clear HB; clear HO_7; have HO_1518001 := n0_; have BK1517 := n1_; have HO1524 := n2_; have BK1525 := n3_; have HO1532 := n4_; have HB := n5_; have HO1535 := n6_; clear n0_ n1_ n2_ n3_ n4_ n5_ n6_; clear ho hb hg hat))
                  go_roundg k3
                  case measure => have := HJ2.out; have := HJ7.out; have := HK3.out; omega
                  case rel => exact ⟨(y1533), (wrap64 (x8_3 + 1)), (by first | rfl | (simp; done) | (simp [*]; done)), H', ⟨by have := HJ2.out; have := HJ7.out; have := HK3.out; omega⟩, ⟨by (with_reducible repeat (first | apply Kd.R_alloc | apply Kd.R_drewN | apply Kd.R_drew)); exact Kd.R_mono HO1535.out (fun _ hk => hk.1)⟩, ⟨by (with_reducible repeat (first | apply Kd.R_alloc | apply Kd.R_drewN | apply Kd.R_drew)); exact Kd.R_mono HO_1518001.out (fun _ hk => hk.2)⟩, ⟨by (with_reducible repeat (first | refine blk_drewN ?_ _ | refine blk_drew ?_ | refine blk_alloc ?_ _)); exact BK1517.out⟩, ⟨by repeat (first | (with_reducible first | exact HB.out | apply below_alloc | apply pw_below_drewN | apply below_drew1 | refine below_set ?_ GE1517.out | refine below_set ?_ GE1525.out) | exact HB.out)⟩⟩
                 ·
                  rw [if_neg c40] at H
                  exact absurd H (by simp)
                ·
                 rw [if_neg c39] at H
                 exact absurd H (by simp)
               ·
                rw [if_neg c38] at H
                exact absurd H (by simp)
             ·
              rw [if_neg c34] at H
              have c34b0 : (x8_3 == (wrap64 (1 + (Int.tmod t1518 5)))) = false := beq_eq_false_iff_ne.mpr c34
              have c34b1 : (x8_3 != (wrap64 (1 + (Int.tmod t1518 5)))) = true := bne_iff_ne.mpr c34
              by_cases c59 : x7_3.length + t1526.length < 140737488355328
              ·
               rw [if_pos c59] at H
               have LMc59 := Aside0.mk c59
               clear c59
               obtain ⟨y1536, hy1536⟩ : ∃ y_ : List Int, y_ = (x7_3 ++ t1526) := ⟨_, rfl⟩
               replace H : (laws_FnLog.l0 k3 l0 l1 (wrap64 (1 + (Int.tmod t1518 5))) y1536 (wrap64 (x8_3 + 1)) t1513 t1514) = some true := by first | (rw [hy1536]; with_reducible exact H) | (have H2_ := (Option.bind_some _ _).symm.trans H; rw [hy1536]; with_reducible exact H2_) | (have H2_ := (Option.bind_some _ _).symm.trans H; with_reducible exact H2_) | with_reducible exact H | (rw [hy1536]; exact H) | exact H
               have Ny1536 := Aside0.mk hy1536
               clear hy1536
               have H' := Aside0.mk H
               clear H
               try go_wp2
               have n0_ := Aside0.mk (Kd.R_drew HO_7.out)
               have n1_ := Aside0.mk (Kd.R_drew HO_1518001.out)
               have n2_ := Aside0.mk (blk_drew BK1517.out)
               have n3_ := Aside0.mk (below_drew1 HB.out)
               clear HO_7 HO_1518001 BK1517 HB
               have HO_7 := n0_
               have HO_1518001 := n1_
               have BK1517 := n2_
               have HB := n3_
               clear n0_ n1_ n2_ n3_
               refine start_ (n := 14) (S := fun w' => w'.cell? ⟨gb1517, 0, none⟩ = some (.int .u64 t1513) ∧ w'.cell? ⟨gb1517, 1, none⟩ = some (.slice Ao12 t1514.length co12)) (ds := []) #[F, F, F, F, F, F, F, F, F, F, F, F, F, F] (by kernel_rfl) rfl rfl ⟨(blk_cell BK1517.out 0).trans rfl, (blk_cell BK1517.out 1).trans rfl⟩ (fun hHeld => ?_); refine with_tabW laws_FnLog.tab11 laws_FnLog.bits11 (fun HT_ HW_ => ?_)
               generalize wr.drew = w60 at HO_7 HO_1518001 BK1517 HB hHeld ⊢
               refine pure_ (i := 0) (N := some 49) (v := ?_) (a' := ?_) #[T, F, F, F, F, F, F, F, F, F, F, F, F, F] rfl rfl (any_of HT_.out (by kernel_rfl)) (fun _ _ _ h => h) (Or.inl ⟨by rfl, ?_⟩) ?_ ?_
               rotate_left; (intro w'; go_simp; with_reducible rfl); rotate_left; (simp only [Act.put, List.setIfInBounds_toArray, List.set_cons_zero, List.set_cons_succ, i64_w, i32_w]; rfl)
               refine pure_ (i := 2) (N := some 51) (v := ?_) (a' := ?_) #[T, F, T, F, F, F, F, F, F, F, F, F, F, F] rfl rfl (any_of HT_.out (by kernel_rfl)) (fun _ _ _ h => h) (Or.inl ⟨by rfl, ?_⟩) ?_ ?_
               rotate_left; (intro w'; go_simp; with_reducible rfl); rotate_left; (simp only [Act.put, List.setIfInBounds_toArray, List.set_cons_zero, List.set_cons_succ, i64_w, i32_w]; rfl)
               refine pure_ (i := 3) (N := some 52) (v := ?_) (a' := ?_) #[T, F, T, T, F, F, F, F, F, F, F, F, F, F] rfl rfl (any_of HT_.out (by kernel_rfl)) (fun _ _ _ h => h) (Or.inl ⟨by rfl, ?_⟩) ?_ ?_
               rotate_left; (intro w'; go_simp; with_reducible rfl); rotate_left; (simp only [Act.put, List.setIfInBounds_toArray, List.set_cons_zero, List.set_cons_succ, i64_w, i32_w]; rfl)
               refine pure_ (i := 5) (N := some 54) (v := ?_) (a' := ?_) #[T, F, T, T, F, T, F, F, F, F, F, F, F, F] rfl rfl (any_of HT_.out (by kernel_rfl)) (fun _ _ _ h => h) (Or.inl ⟨by rfl, ?_⟩) ?_ ?_
               rotate_left; (intro w'; go_simp; with_reducible rfl); rotate_left; (simp only [Act.put, List.setIfInBounds_toArray, List.set_cons_zero, List.set_cons_succ, i64_w, i32_w]; rfl)
               refine pure_ (i := 6) (N := some 55) (v := ?_) (a' := ?_) #[T, F, T, T, F, T, T, F, F, F, F, F, F, F] rfl rfl (any_of HT_.out (by kernel_rfl)) (fun _ _ _ h => h) (Or.inl ⟨by rfl, ?_⟩) ?_ ?_
               rotate_left; (intro w'; go_simp; with_reducible rfl); rotate_left; (simp only [Act.put, List.setIfInBounds_toArray, List.set_cons_zero, List.set_cons_succ, i64_w, i32_w]; rfl)
               refine pure_ (i := 8) (N := some 57) (v := ?_) (a' := ?_) #[T, F, T, T, F, T, T, F, T, F, F, F, F, F] rfl rfl (any_of HT_.out (by kernel_rfl)) (fun _ _ _ h => h) (Or.inl ⟨by rfl, ?_⟩) ?_ ?_
               rotate_left; (intro w'; go_simp; with_reducible rfl); rotate_left; (simp only [Act.put, List.setIfInBounds_toArray, List.set_cons_zero, List.set_cons_succ, i64_w, i32_w]; rfl)
               refine take_ (i := 1) (N := some 50) (v := ?_) (a' := ?_) #[T, T, T, T, F, T, T, F, T, F, F, F, F, F] rfl rfl (take_ofW HT_.out HW_.out (by kernel_rfl)) (fun _ _ _ h => h) (Or.inl ⟨by rfl, ?_⟩) hHeld ?_ ?_
               rotate_left; (rintro w' ⟨s0, s1⟩; go_simp; with_reducible rfl); rotate_left; (simp only [Act.put, List.setIfInBounds_toArray, List.set_cons_zero, List.set_cons_succ, i64_w, i32_w]; rfl)
               refine pure_ (i := 4) (N := some 53) (v := ?_) (a' := ?_) #[T, T, T, T, T, T, T, F, T, F, F, F, F, F] rfl rfl (any_of HT_.out (by kernel_rfl)) (fun _ _ _ h => h) (Or.inl ⟨by rfl, ?_⟩) ?_ ?_
               rotate_left; (intro w'; go_simp; with_reducible rfl); rotate_left; (simp only [Act.put, List.setIfInBounds_toArray, List.set_cons_zero, List.set_cons_succ, i64_w, i32_w]; rfl)
               refine take_ (i := 9) (N := some 58) (v := ?_) (a' := ?_) #[T, T, T, T, T, T, T, F, T, T, F, F, F, F] rfl rfl (take_ofW HT_.out HW_.out (by kernel_rfl)) (fun _ _ _ h => h) (Or.inl ⟨by rfl, ?_⟩) hHeld ?_ ?_
               rotate_left; (rintro w' ⟨s0, s1⟩; go_simp; with_reducible rfl); rotate_left; (simp only [Act.put, List.setIfInBounds_toArray, List.set_cons_zero, List.set_cons_succ, i64_w, i32_w]; rfl)
               refine join_ (σ := Value × Value × Nat) 1 #[T, T, T, T, T, T, T, T, T, T, T, T, T, F] (fun s_ => [(56, s_.1), (59, s_.2.1), (9, .pointer (some ⟨s_.2.2, 0, none⟩)), (60, .agg #[.int .u64 (IntKind.u64.wrap (t1513 + (IntKind.u64.wrap (x8_3)))), s_.2.1])]) (fun s_ w' => (w'.cell? ⟨gb1517, 0, none⟩ = some (.int .u64 t1513) ∧ w'.cell? ⟨gb1517, 1, none⟩ = some (.slice Ao12 t1514.length co12)) ∧ (Kd.R (Kd.int .u8) 5 w' w.heap.size (fun k_ => some k_ ≠ (.slice Ao12 t1514.length co12 : Value).ownBlock ∧ some k_ ≠ (u7 : Value).ownBlock) s_.2.1 y1522) ∧ (Kd.R (Kd.int .u8) 5 w' w.heap.size (fun k_ => some k_ ≠ (s_.2.1 : Value).ownBlock ∧ some k_ ≠ (u7 : Value).ownBlock) (.slice Ao12 t1514.length co12) t1514) ∧ (Kd.R (Kd.int .u8) 5 w' w.heap.size (fun k_ => some k_ ≠ (s_.2.1 : Value).ownBlock ∧ some k_ ≠ (.slice Ao12 t1514.length co12 : Value).ownBlock) u7 x7_3) ∧ (w'.heap[gb1517]? = some (.cells #[.int .u64 t1513, .slice Ao12 t1514.length co12] 45 (0, 0))) ∧ (w'.heap[s_.2.2]? = some (.cells #[.int .u64 0, .slice none 0 0] 45 (0, 0))) ∧ (w.heap.size ≤ s_.2.2) ∧ (w.heap.size ≤ s_.2.2) ∧ (gb1517 ≠ s_.2.2) ∧ (s_.2.2 ≠ gb1517) ∧ (Below w.heap.size w w')) ?_ ?_
               rotate_left
               ·
                intro hCont
                refine two_ (i := 7) (j := 12) (Ni := some 56) (Nj := some 9) #[T, T, T, T, T, T, T, T, T, T, F, F, F, F] #[T, T, T, T, T, T, T, F, T, T, F, F, T, F] rfl rfl rfl rfl (two_of HT_.out (by kernel_rfl)) (by decide) (by decide) (fun K hK => ?_) (fun K hK => ?_)
                ·
                 skip
                 refine Kd.R_lit_step (Kd.int .u8) _ 5 ?hg (N := 56) ?hd (xs := ([(x8_3) % 256] : List Int)) (inner := [.int .u8 ((x8_3) % 256)]) (ok := fun _ => True) (okp := fun _ => True) ?hr ?hp (fun _ hk => hk) trivial (Below.refl _ _) (Nat.le_refl _) (by simp) ?_; (case hd => rfl); (case hg => rfl); (case hr => first | (go_simp; done) | (go_simp; rfl)); (case hp => exact (Reps.one (show Kd.M (Kd.int .u8) _ _ _ ((x8_3) % 256) [.int .u8 ((x8_3) % 256)] from rfl) (Reps.none _ _)))
                 intro v1520 w61 ho62 hb hg_ hnew_
                 clear hg_ hnew_
                 (first | rw [← Ny1519.out] at ho62 | (simp only [Int.reduceToNat] at ho62; rw [← Ny1519.out] at ho62))
                 have n0_ := Aside0.mk (Kd.R_elder' (by (with_reducible repeat (first | apply Kd.R_alloc | apply Kd.R_drewN | apply Kd.R_drew)); exact HO_7.out) (Kd.R_base ho62) hb)
                 have n1_ := Aside0.mk (Kd.R_elder' (by (with_reducible repeat (first | apply Kd.R_alloc | apply Kd.R_drewN | apply Kd.R_drew)); exact HO_1518001.out) (Kd.R_base ho62) hb)
                 have n2_ := Aside0.mk (Kd.R_lower (Kd.R_new' (Kd.R_new' ho62 (Kd.R_lt (by (with_reducible repeat (first | apply Kd.R_alloc | apply Kd.R_drewN | apply Kd.R_drew)); exact HO_7.out))) (Kd.R_lt (by (with_reducible repeat (first | apply Kd.R_alloc | apply Kd.R_drewN | apply Kd.R_drew)); exact HO_1518001.out))) (below_size (by repeat (first | (with_reducible first | exact HB.out | apply below_alloc | apply pw_below_drewN | apply below_drew1 | refine below_set ?_ GE1517.out) | exact HB.out))))
                 have n3_ := Aside0.mk (blk_below (g := gb1517) (o := .cells #[.int .u64 t1513, .slice Ao12 t1514.length co12] 45 (0, 0)) (by (with_reducible repeat (first | refine blk_drewN ?_ _ | refine blk_drew ?_ | refine blk_alloc ?_ _)); exact BK1517.out) hb)
                 have n4_ := Aside0.mk (below_step (by repeat (first | (with_reducible first | exact HB.out | apply below_alloc | apply pw_below_drewN | apply below_drew1 | refine below_set ?_ GE1517.out) | exact HB.out)) hb)
                 clear HO_7 HO_1518001 BK1517 HB
                 have HO_7 := n0_
                 have HO_1518001 := n1_
                 have HO1521 := n2_
                 have BK1517 := n3_
                 have HB := n4_
                 clear n0_ n1_ n2_ n3_ n4_ hb ho62
                 refine hK.out _ _ ⟨(blk_cell BK1517.out 0).trans rfl, (blk_cell BK1517.out 1).trans rfl⟩ (fun hHeld => ?_)
                 clear hK K
                 refine norm_ (a' := ?_) ?_ ?_
                 rotate_left
                 ·
                  show Act.put _ (some 56) _ = _
                  simp only [Act.put, List.setIfInBounds_toArray, List.set_cons_zero, List.set_cons_succ, i64_w, i32_w]
                  rfl
                 refine two_ (i := 10) (j := 12) (Ni := some 59) (Nj := some 9) #[T, T, T, T, T, T, T, T, T, T, T, F, F, F] #[T, T, T, T, T, T, T, T, T, T, F, F, T, F] rfl rfl rfl rfl (two_of HT_.out (by kernel_rfl)) (by decide) (by decide) (fun K hK => ?_) (fun K hK => ?_)
                 ·
                  skip
                  refine Kd.R_append_rows_step (Kd.int .u8) (w0 := w) w.heap.size (by rfl) (.tmp 56) (.tmp 58) 22 5 (.int .u8 0) 1 rfl Try.underlying22 info5 rfl (by decide) (by omega) v1520 y1519 t1514 _ _ _ (fun k_ => some k_ ≠ (u7 : Value).ownBlock ∧ some k_ ≠ (.slice Ao12 t1514.length co12 : Value).ownBlock) (fun _ => False) rfl rfl ?aO ?aR (fun _ _ h => h) (fun _ h => h.elim) ?aF ?aB ?aS ?aL ?_
                  (case aR => repeat (first | exact (Kd.R_reads' HO_1518001.out).2.2 | (with_reducible refine Kd.C_alloc ?_ _) | (with_reducible refine Kd.C_drewN ?_ _) | (with_reducible refine Kd.C_drew ?_)))
                  (case aB => exact (by repeat (first | (with_reducible first | exact HB.out | apply below_alloc | apply pw_below_drewN | apply below_drew1 | refine below_set ?_ GE1517.out) | exact HB.out)))
                  (case aF => exact (fun k_ hk => ⟨Kd.fresh' (Kd.R_lt (by (with_reducible repeat (first | apply Kd.R_alloc | apply Kd.R_drewN | apply Kd.R_drew)); exact HO_7.out)) k_ hk, Kd.fresh' (Kd.R_lt (by (with_reducible repeat (first | apply Kd.R_alloc | apply Kd.R_drewN | apply Kd.R_drew)); exact HO_1518001.out)) k_ hk⟩))
                  (case aO => exact (by (with_reducible repeat (first | apply Kd.R_alloc | apply Kd.R_drewN | apply Kd.R_drew)); exact Kd.R_mono HO1521.out (fun _ hk => ⟨hk.1.2, hk.2⟩)))
                  (case aS => exact (below_size (by repeat (first | (with_reducible first | exact HB.out | apply below_alloc | apply pw_below_drewN | apply below_drew1 | refine below_set ?_ GE1517.out) | exact HB.out))))
                  (case aL => have := LMc18.out; omega)
                  intro v1523 w63 ho hb hg hat
                  rw [← Ny1522.out] at ho
                  have n0_ := Aside0.mk (Kd.R_after (ok := (fun k_ => some k_ ≠ (.slice Ao12 t1514.length co12 : Value).ownBlock)) (by (with_reducible repeat (first | apply Kd.R_alloc | apply Kd.R_drewN | apply Kd.R_drew)); exact HO_7.out) hg hat)
                  have n1_ := Aside0.mk (Kd.R_after (ok := (fun k_ => some k_ ≠ (u7 : Value).ownBlock)) (by (with_reducible repeat (first | apply Kd.R_alloc | apply Kd.R_drewN | apply Kd.R_drew)); exact HO_1518001.out) hg hat)
                  have n2_ := Aside0.mk (blk_grown (g := gb1517) (o := .cells #[.int .u64 t1513, .slice Ao12 t1514.length co12] 45 (0, 0)) (by (with_reducible repeat (first | refine blk_drewN ?_ _ | refine blk_drew ?_ | refine blk_alloc ?_ _)); exact BK1517.out) hg (Kd.R_ne HO1521.out BK1517.out (by decide)))
                  have n3_ := Aside0.mk (hb)
                  have n4_ := Aside0.mk (ho)
                  clear HO_7 HO_1518001 BK1517 HB HO1521
                  have HO_7 := n0_
                  have HO_1518001 := n1_
                  have BK1517 := n2_
                  have HB := n3_
                  have HO1524 := n4_
                  clear n0_ n1_ n2_ n3_ n4_ ho hb hg hat
                  obtain ⟨Ao64, co64, eo64⟩ := Kd.R_slice HO1524.out
                  (first | subst eo64 | (injection eo64 with f1_ f2_ f3_; have f4_ := f1_.symm; have f5_ := f3_.symm; clear f1_ f2_ f3_; subst f4_; subst f5_))
                  refine hK.out _ _ ⟨(blk_cell BK1517.out 0).trans rfl, (blk_cell BK1517.out 1).trans rfl⟩ (fun hHeld => ?_)
                  clear hK K
                  refine norm_ (a' := ?_) ?_ ?_
                  rotate_left
                  ·
                   show Act.put _ (some 59) _ = _
                   simp only [Act.put, List.setIfInBounds_toArray, List.set_cons_zero, List.set_cons_succ, i64_w, i32_w]
                   rfl
                  refine pure_ (i := 11) (N := some 60) (v := ?_) (a' := ?_) #[T, T, T, T, T, T, T, T, T, T, T, T, F, F] rfl rfl (any_of HT_.out (by kernel_rfl)) (fun _ _ _ h => h) (Or.inl ⟨by rfl, ?_⟩) ?_ ?_
                  rotate_left; (intro w'; go_simp; with_reducible rfl); rotate_left; (simp only [Act.put, List.setIfInBounds_toArray, List.set_cons_zero, List.set_cons_succ, i64_w, i32_w]; rfl)
                  refine one_ (i := 12) (N := some 9) #[T, T, T, T, T, T, T, T, T, T, T, T, T, F] rfl rfl (one_of HT_.out (by kernel_rfl)) (by decide) (fun K hK => ?_)
                  refine box_step ?hg (N := 9) ?hd (cs := #[.int .u64 0, .slice none 0 0]) (t := 45) ?hr ?_; (case hd => rfl); (case hg => rfl); (case hr => first | (go_simp; done) | (go_simp; rfl))
                  intro gb1525 hg w65 hbox hb
                  have n0_ := Aside0.mk (Kd.R_below (by (with_reducible repeat (first | apply Kd.R_alloc | apply Kd.R_drewN | apply Kd.R_drew)); exact HO_7.out) hb)
                  have n1_ := Aside0.mk (Kd.R_below (by (with_reducible repeat (first | apply Kd.R_alloc | apply Kd.R_drewN | apply Kd.R_drew)); exact HO_1518001.out) hb)
                  have n2_ := Aside0.mk (Kd.R_below (by (with_reducible repeat (first | apply Kd.R_alloc | apply Kd.R_drewN | apply Kd.R_drew)); exact HO1524.out) hb)
                  have n3_ := Aside0.mk (blk_below (g := gb1517) (o := .cells #[.int .u64 t1513, .slice Ao12 t1514.length co12] 45 (0, 0)) (by (with_reducible repeat (first | refine blk_drewN ?_ _ | refine blk_drew ?_ | refine blk_alloc ?_ _)); exact BK1517.out) hb)
                  have n4_ := Aside0.mk (below_step (by repeat (first | (with_reducible first | exact HB.out | apply below_alloc | apply pw_below_drewN | apply below_drew1 | refine below_set ?_ GE1517.out) | exact HB.out)) hb)
                  have n5_ := Aside0.mk (hbox)
                  have n6_ := Aside0.mk ((by rw [hg]; exact (below_size (by repeat (first | (with_reducible first | exact HB.out | apply below_alloc | apply pw_below_drewN | apply below_drew1 | refine below_set ?_ GE1517.out) | exact HB.out))) : w.heap.size ≤ gb1525))
                  have n7_ := Aside0.mk ((by rw [hg]; exact (below_size (by repeat (first | (with_reducible first | exact HB.out | apply below_alloc | apply pw_below_drewN | apply below_drew1 | refine below_set ?_ GE1517.out) | exact HB.out))) : w.heap.size ≤ gb1525))
                  have n8_ := Aside0.mk ((by rw [hg]; exact Nat.ne_of_lt (blk_lt (g := gb1517) (o := .cells #[.int .u64 t1513, .slice Ao12 t1514.length co12] 45 (0, 0)) (by (with_reducible repeat (first | refine blk_drewN ?_ _ | refine blk_drew ?_ | refine blk_alloc ?_ _)); exact BK1517.out)) : gb1517 ≠ gb1525))
                  have n9_ := Aside0.mk ((by rw [hg]; exact Nat.ne_of_gt (blk_lt (g := gb1517) (o := .cells #[.int .u64 t1513, .slice Ao12 t1514.length co12] 45 (0, 0)) (by (with_reducible repeat (first | refine blk_drewN ?_ _ | refine blk_drew ?_ | refine blk_alloc ?_ _)); exact BK1517.out)) : gb1525 ≠ gb1517))
                  clear HO_7 HO_1518001 HO1524 BK1517 HB
                  have HO_7 := n0_
                  have HO_1518001 := n1_
                  have HO1524 := n2_
                  have BK1517 := n3_
                  have HB := n4_
                  have BK1525 := n5_
                  have GW1525 := n6_
                  have GE1525 := n7_
                  have NB1517_1525 := n8_
                  have NB1525_1517 := n9_
                  clear n0_ n1_ n2_ n3_ n4_ n5_ n6_ n7_ n8_ n9_ hb hbox hg
                  refine hK.out _ _ ⟨(blk_cell BK1517.out 0).trans rfl, (blk_cell BK1517.out 1).trans rfl⟩ (fun hHeld => ?_)
                  clear hK K
                  refine norm_ (a' := ?_) ?_ ?_
                  rotate_left
                  ·
                   show Act.put _ (some 9) _ = _
                   simp only [Act.put, List.setIfInBounds_toArray, List.set_cons_zero, List.set_cons_succ, i64_w, i32_w]
                   rfl
                  exact norm_ (by simp only [putAll, Act.put, List.setIfInBounds_toArray, List.set_cons_zero, List.set_cons_succ]) (hCont (v1520, .slice Ao64 y1522.length co64, gb1525) _ ⟨hHeld, (by (with_reducible repeat (first | apply Kd.R_alloc | apply Kd.R_drewN | apply Kd.R_drew)); exact Kd.R_mono HO1524.out (fun _ hk => ⟨hk.2, hk.1⟩)), (by (with_reducible repeat (first | apply Kd.R_alloc | apply Kd.R_drewN | apply Kd.R_drew)); exact Kd.R_mono HO_1518001.out (fun _ hk => ⟨hk.2, hk.1⟩)), (by (with_reducible repeat (first | apply Kd.R_alloc | apply Kd.R_drewN | apply Kd.R_drew)); exact Kd.R_mono HO_7.out (fun _ hk => ⟨hk.2, hk.1⟩)), (by (with_reducible repeat (first | refine blk_drewN ?_ _ | refine blk_drew ?_ | refine blk_alloc ?_ _)); exact BK1517.out), (by (with_reducible repeat (first | refine blk_drewN ?_ _ | refine blk_drew ?_ | refine blk_alloc ?_ _)); exact BK1525.out), GW1525.out, GE1525.out, NB1517_1525.out, NB1525_1517.out, (by repeat (first | (with_reducible first | exact HB.out | apply below_alloc | apply pw_below_drewN | apply below_drew1 | refine below_set ?_ GE1517.out | refine below_set ?_ GE1525.out) | exact HB.out))⟩)
                 ·
                  skip
                  refine box_step ?hg (N := 9) ?hd (cs := #[.int .u64 0, .slice none 0 0]) (t := 45) ?hr ?_; (case hd => rfl); (case hg => rfl); (case hr => first | (go_simp; done) | (go_simp; rfl))
                  intro gb1525 hg w63 hbox hb
                  have n0_ := Aside0.mk (Kd.R_below (by (with_reducible repeat (first | apply Kd.R_alloc | apply Kd.R_drewN | apply Kd.R_drew)); exact HO_7.out) hb)
                  have n1_ := Aside0.mk (Kd.R_below (by (with_reducible repeat (first | apply Kd.R_alloc | apply Kd.R_drewN | apply Kd.R_drew)); exact HO_1518001.out) hb)
                  have n2_ := Aside0.mk (Kd.R_below (by (with_reducible repeat (first | apply Kd.R_alloc | apply Kd.R_drewN | apply Kd.R_drew)); exact HO1521.out) hb)
                  have n3_ := Aside0.mk (blk_below (g := gb1517) (o := .cells #[.int .u64 t1513, .slice Ao12 t1514.length co12] 45 (0, 0)) (by (with_reducible repeat (first | refine blk_drewN ?_ _ | refine blk_drew ?_ | refine blk_alloc ?_ _)); exact BK1517.out) hb)
                  have n4_ := Aside0.mk (below_step (by repeat (first | (with_reducible first | exact HB.out | apply below_alloc | apply pw_below_drewN | apply below_drew1 | refine below_set ?_ GE1517.out) | exact HB.out)) hb)
                  have n5_ := Aside0.mk (hbox)
                  have n6_ := Aside0.mk ((by rw [hg]; exact (below_size (by repeat (first | (with_reducible first | exact HB.out | apply below_alloc | apply pw_below_drewN | apply below_drew1 | refine below_set ?_ GE1517.out) | exact HB.out))) : w.heap.size ≤ gb1525))
                  have n7_ := Aside0.mk ((by rw [hg]; exact (below_size (by repeat (first | (with_reducible first | exact HB.out | apply below_alloc | apply pw_below_drewN | apply below_drew1 | refine below_set ?_ GE1517.out) | exact HB.out))) : w.heap.size ≤ gb1525))
                  have n8_ := Aside0.mk ((by rw [hg]; exact Nat.ne_of_lt (blk_lt (g := gb1517) (o := .cells #[.int .u64 t1513, .slice Ao12 t1514.length co12] 45 (0, 0)) (by (with_reducible repeat (first | refine blk_drewN ?_ _ | refine blk_drew ?_ | refine blk_alloc ?_ _)); exact BK1517.out)) : gb1517 ≠ gb1525))
                  have n9_ := Aside0.mk ((by rw [hg]; exact Nat.ne_of_gt (blk_lt (g := gb1517) (o := .cells #[.int .u64 t1513, .slice Ao12 t1514.length co12] 45 (0, 0)) (by (with_reducible repeat (first | refine blk_drewN ?_ _ | refine blk_drew ?_ | refine blk_alloc ?_ _)); exact BK1517.out)) : gb1525 ≠ gb1517))
                  clear HO_7 HO_1518001 HO1521 BK1517 HB
                  have HO_7 := n0_
                  have HO_1518001 := n1_
                  have HO1521 := n2_
                  have BK1517 := n3_
                  have HB := n4_
                  have BK1525 := n5_
                  have GW1525 := n6_
                  have GE1525 := n7_
                  have NB1517_1525 := n8_
                  have NB1525_1517 := n9_
                  clear n0_ n1_ n2_ n3_ n4_ n5_ n6_ n7_ n8_ n9_ hb hbox hg
                  refine hK.out _ _ ⟨(blk_cell BK1517.out 0).trans rfl, (blk_cell BK1517.out 1).trans rfl⟩ (fun hHeld => ?_)
                  clear hK K
                  refine norm_ (a' := ?_) ?_ ?_
                  rotate_left
                  ·
                   show Act.put _ (some 9) _ = _
                   simp only [Act.put, List.setIfInBounds_toArray, List.set_cons_zero, List.set_cons_succ, i64_w, i32_w]
                   rfl
                  refine one_ (i := 10) (N := some 59) #[T, T, T, T, T, T, T, T, T, T, T, F, T, F] rfl rfl (one_of HT_.out (by kernel_rfl)) (by decide) (fun K hK => ?_)
                  refine Kd.R_append_rows_step (Kd.int .u8) (w0 := w) w.heap.size (by rfl) (.tmp 56) (.tmp 58) 22 5 (.int .u8 0) 1 rfl Try.underlying22 info5 rfl (by decide) (by omega) v1520 y1519 t1514 _ _ _ (fun k_ => some k_ ≠ (u7 : Value).ownBlock ∧ some k_ ≠ (.slice Ao12 t1514.length co12 : Value).ownBlock) (fun _ => False) rfl rfl ?aO ?aR (fun _ _ h => h) (fun _ h => h.elim) ?aF ?aB ?aS ?aL ?_
                  (case aR => repeat (first | exact (Kd.R_reads' HO_1518001.out).2.2 | (with_reducible refine Kd.C_alloc ?_ _) | (with_reducible refine Kd.C_drewN ?_ _) | (with_reducible refine Kd.C_drew ?_)))
                  (case aB => exact (by repeat (first | (with_reducible first | exact HB.out | apply below_alloc | apply pw_below_drewN | apply below_drew1 | refine below_set ?_ GE1517.out | refine below_set ?_ GE1525.out) | exact HB.out)))
                  (case aF => exact (fun k_ hk => ⟨Kd.fresh' (Kd.R_lt (by (with_reducible repeat (first | apply Kd.R_alloc | apply Kd.R_drewN | apply Kd.R_drew)); exact HO_7.out)) k_ hk, Kd.fresh' (Kd.R_lt (by (with_reducible repeat (first | apply Kd.R_alloc | apply Kd.R_drewN | apply Kd.R_drew)); exact HO_1518001.out)) k_ hk⟩))
                  (case aO => exact (by (with_reducible repeat (first | apply Kd.R_alloc | apply Kd.R_drewN | apply Kd.R_drew)); exact Kd.R_mono HO1521.out (fun _ hk => ⟨hk.1.2, hk.2⟩)))
                  (case aS => exact (below_size (by repeat (first | (with_reducible first | exact HB.out | apply below_alloc | apply pw_below_drewN | apply below_drew1 | refine below_set ?_ GE1517.out | refine below_set ?_ GE1525.out) | exact HB.out))))
                  (case aL => have := LMc18.out; omega)
                  intro v1523 w64 ho hb hg hat
                  rw [← Ny1522.out] at ho
                  have n0_ := Aside0.mk (Kd.R_after (ok := (fun k_ => some k_ ≠ (.slice Ao12 t1514.length co12 : Value).ownBlock)) (by (with_reducible repeat (first | apply Kd.R_alloc | apply Kd.R_drewN | apply Kd.R_drew)); exact HO_7.out) hg hat)
                  have n1_ := Aside0.mk (Kd.R_after (ok := (fun k_ => some k_ ≠ (u7 : Value).ownBlock)) (by (with_reducible repeat (first | apply Kd.R_alloc | apply Kd.R_drewN | apply Kd.R_drew)); exact HO_1518001.out) hg hat)
                  have n2_ := Aside0.mk (blk_grown (g := gb1517) (o := .cells #[.int .u64 t1513, .slice Ao12 t1514.length co12] 45 (0, 0)) (by (with_reducible repeat (first | refine blk_drewN ?_ _ | refine blk_drew ?_ | refine blk_alloc ?_ _)); exact BK1517.out) hg (Kd.R_ne HO1521.out BK1517.out (by decide)))
                  have n3_ := Aside0.mk (blk_grown (g := gb1525) (o := .cells #[.int .u64 0, .slice none 0 0] 45 (0, 0)) (by (with_reducible repeat (first | refine blk_drewN ?_ _ | refine blk_drew ?_ | refine blk_alloc ?_ _)); exact BK1525.out) hg (Kd.R_ne HO1521.out BK1525.out (by decide)))
                  have n4_ := Aside0.mk (hb)
                  have n5_ := Aside0.mk (ho)
                  clear HO_7 HO_1518001 BK1517 BK1525 HB HO1521
                  have HO_7 := n0_
                  have HO_1518001 := n1_
                  have BK1517 := n2_
                  have BK1525 := n3_
                  have HB := n4_
                  have HO1524 := n5_
                  clear n0_ n1_ n2_ n3_ n4_ n5_ ho hb hg hat
                  obtain ⟨Ao65, co65, eo65⟩ := Kd.R_slice HO1524.out
                  (first | subst eo65 | (injection eo65 with f1_ f2_ f3_; have f4_ := f1_.symm; have f5_ := f3_.symm; clear f1_ f2_ f3_; subst f4_; subst f5_))
                  refine hK.out _ _ ⟨(blk_cell BK1517.out 0).trans rfl, (blk_cell BK1517.out 1).trans rfl⟩ (fun hHeld => ?_)
                  clear hK K
                  refine norm_ (a' := ?_) ?_ ?_
                  rotate_left
                  ·
                   show Act.put _ (some 59) _ = _
                   simp only [Act.put, List.setIfInBounds_toArray, List.set_cons_zero, List.set_cons_succ, i64_w, i32_w]
                   rfl
                  refine pure_ (i := 11) (N := some 60) (v := ?_) (a' := ?_) #[T, T, T, T, T, T, T, T, T, T, T, T, T, F] rfl rfl (any_of HT_.out (by kernel_rfl)) (fun _ _ _ h => h) (Or.inl ⟨by rfl, ?_⟩) ?_ ?_
                  rotate_left; (intro w'; go_simp; with_reducible rfl); rotate_left; (simp only [Act.put, List.setIfInBounds_toArray, List.set_cons_zero, List.set_cons_succ, i64_w, i32_w]; rfl)
                  exact norm_ (by simp only [putAll, Act.put, List.setIfInBounds_toArray, List.set_cons_zero, List.set_cons_succ]) (hCont (v1520, .slice Ao65 y1522.length co65, gb1525) _ ⟨hHeld, (by (with_reducible repeat (first | apply Kd.R_alloc | apply Kd.R_drewN | apply Kd.R_drew)); exact Kd.R_mono HO1524.out (fun _ hk => ⟨hk.2, hk.1⟩)), (by (with_reducible repeat (first | apply Kd.R_alloc | apply Kd.R_drewN | apply Kd.R_drew)); exact Kd.R_mono HO_1518001.out (fun _ hk => ⟨hk.2, hk.1⟩)), (by (with_reducible repeat (first | apply Kd.R_alloc | apply Kd.R_drewN | apply Kd.R_drew)); exact Kd.R_mono HO_7.out (fun _ hk => ⟨hk.2, hk.1⟩)), (by (with_reducible repeat (first | refine blk_drewN ?_ _ | refine blk_drew ?_ | refine blk_alloc ?_ _)); exact BK1517.out), (by (with_reducible repeat (first | refine blk_drewN ?_ _ | refine blk_drew ?_ | refine blk_alloc ?_ _)); exact BK1525.out), GW1525.out, GE1525.out, NB1517_1525.out, NB1525_1517.out, (by repeat (first | (with_reducible first | exact HB.out | apply below_alloc | apply pw_below_drewN | apply below_drew1 | refine below_set ?_ GE1517.out | refine below_set ?_ GE1525.out) | exact HB.out))⟩)
                ·
                 skip
                 refine box_step ?hg (N := 9) ?hd (cs := #[.int .u64 0, .slice none 0 0]) (t := 45) ?hr ?_; (case hd => rfl); (case hg => rfl); (case hr => first | (go_simp; done) | (go_simp; rfl))
                 intro gb1525 hg w61 hbox hb
                 have n0_ := Aside0.mk (Kd.R_below (by (with_reducible repeat (first | apply Kd.R_alloc | apply Kd.R_drewN | apply Kd.R_drew)); exact HO_7.out) hb)
                 have n1_ := Aside0.mk (Kd.R_below (by (with_reducible repeat (first | apply Kd.R_alloc | apply Kd.R_drewN | apply Kd.R_drew)); exact HO_1518001.out) hb)
                 have n2_ := Aside0.mk (blk_below (g := gb1517) (o := .cells #[.int .u64 t1513, .slice Ao12 t1514.length co12] 45 (0, 0)) (by (with_reducible repeat (first | refine blk_drewN ?_ _ | refine blk_drew ?_ | refine blk_alloc ?_ _)); exact BK1517.out) hb)
                 have n3_ := Aside0.mk (below_step (by repeat (first | (with_reducible first | exact HB.out | apply below_alloc | apply pw_below_drewN | apply below_drew1 | refine below_set ?_ GE1517.out) | exact HB.out)) hb)
                 have n4_ := Aside0.mk (hbox)
                 have n5_ := Aside0.mk ((by rw [hg]; exact (below_size (by repeat (first | (with_reducible first | exact HB.out | apply below_alloc | apply pw_below_drewN | apply below_drew1 | refine below_set ?_ GE1517.out) | exact HB.out))) : w.heap.size ≤ gb1525))
                 have n6_ := Aside0.mk ((by rw [hg]; exact (below_size (by repeat (first | (with_reducible first | exact HB.out | apply below_alloc | apply pw_below_drewN | apply below_drew1 | refine below_set ?_ GE1517.out) | exact HB.out))) : w.heap.size ≤ gb1525))
                 have n7_ := Aside0.mk ((by rw [hg]; exact Nat.ne_of_lt (blk_lt (g := gb1517) (o := .cells #[.int .u64 t1513, .slice Ao12 t1514.length co12] 45 (0, 0)) (by (with_reducible repeat (first | refine blk_drewN ?_ _ | refine blk_drew ?_ | refine blk_alloc ?_ _)); exact BK1517.out)) : gb1517 ≠ gb1525))
                 have n8_ := Aside0.mk ((by rw [hg]; exact Nat.ne_of_gt (blk_lt (g := gb1517) (o := .cells #[.int .u64 t1513, .slice Ao12 t1514.length co12] 45 (0, 0)) (by (with_reducible repeat (first | refine blk_drewN ?_ _ | refine blk_drew ?_ | refine blk_alloc ?_ _)); exact BK1517.out)) : gb1525 ≠ gb1517))
                 clear HO_7 HO_1518001 BK1517 HB
                 have HO_7 := n0_
                 have HO_1518001 := n1_
                 have BK1517 := n2_
                 have HB := n3_
                 have BK1525 := n4_
                 have GW1525 := n5_
                 have GE1525 := n6_
                 have NB1517_1525 := n7_
                 have NB1525_1517 := n8_
                 clear n0_ n1_ n2_ n3_ n4_ n5_ n6_ n7_ n8_ hb hbox hg
                 refine hK.out _ _ ⟨(blk_cell BK1517.out 0).trans rfl, (blk_cell BK1517.out 1).trans rfl⟩ (fun hHeld => ?_)
                 clear hK K
                 refine norm_ (a' := ?_) ?_ ?_
                 rotate_left
                 ·
                  show Act.put _ (some 9) _ = _
                  simp only [Act.put, List.setIfInBounds_toArray, List.set_cons_zero, List.set_cons_succ, i64_w, i32_w]
                  rfl
                 refine one_ (i := 7) (N := some 56) #[T, T, T, T, T, T, T, T, T, T, F, F, T, F] rfl rfl (one_of HT_.out (by kernel_rfl)) (by decide) (fun K hK => ?_)
                 refine Kd.R_lit_step (Kd.int .u8) _ 5 ?hg (N := 56) ?hd (xs := ([(x8_3) % 256] : List Int)) (inner := [.int .u8 ((x8_3) % 256)]) (ok := fun _ => True) (okp := fun _ => True) ?hr ?hp (fun _ hk => hk) trivial (Below.refl _ _) (Nat.le_refl _) (by simp) ?_; (case hd => rfl); (case hg => rfl); (case hr => first | (go_simp; done) | (go_simp; rfl)); (case hp => exact (Reps.one (show Kd.M (Kd.int .u8) _ _ _ ((x8_3) % 256) [.int .u8 ((x8_3) % 256)] from rfl) (Reps.none _ _)))
                 intro v1520 w62 ho63 hb hg_ hnew_
                 clear hg_ hnew_
                 (first | rw [← Ny1519.out] at ho63 | (simp only [Int.reduceToNat] at ho63; rw [← Ny1519.out] at ho63))
                 have n0_ := Aside0.mk (Kd.R_elder' (by (with_reducible repeat (first | apply Kd.R_alloc | apply Kd.R_drewN | apply Kd.R_drew)); exact HO_7.out) (Kd.R_base ho63) hb)
                 have n1_ := Aside0.mk (Kd.R_elder' (by (with_reducible repeat (first | apply Kd.R_alloc | apply Kd.R_drewN | apply Kd.R_drew)); exact HO_1518001.out) (Kd.R_base ho63) hb)
                 have n2_ := Aside0.mk (Kd.R_lower (Kd.R_new' (Kd.R_new' ho63 (Kd.R_lt (by (with_reducible repeat (first | apply Kd.R_alloc | apply Kd.R_drewN | apply Kd.R_drew)); exact HO_7.out))) (Kd.R_lt (by (with_reducible repeat (first | apply Kd.R_alloc | apply Kd.R_drewN | apply Kd.R_drew)); exact HO_1518001.out))) (below_size (by repeat (first | (with_reducible first | exact HB.out | apply below_alloc | apply pw_below_drewN | apply below_drew1 | refine below_set ?_ GE1517.out | refine below_set ?_ GE1525.out) | exact HB.out))))
                 have n3_ := Aside0.mk (blk_below (g := gb1517) (o := .cells #[.int .u64 t1513, .slice Ao12 t1514.length co12] 45 (0, 0)) (by (with_reducible repeat (first | refine blk_drewN ?_ _ | refine blk_drew ?_ | refine blk_alloc ?_ _)); exact BK1517.out) hb)
                 have n4_ := Aside0.mk (blk_below (g := gb1525) (o := .cells #[.int .u64 0, .slice none 0 0] 45 (0, 0)) (by (with_reducible repeat (first | refine blk_drewN ?_ _ | refine blk_drew ?_ | refine blk_alloc ?_ _)); exact BK1525.out) hb)
                 have n5_ := Aside0.mk (below_step (by repeat (first | (with_reducible first | exact HB.out | apply below_alloc | apply pw_below_drewN | apply below_drew1 | refine below_set ?_ GE1517.out | refine below_set ?_ GE1525.out) | exact HB.out)) hb)
                 clear HO_7 HO_1518001 BK1517 BK1525 HB
                 have HO_7 := n0_
                 have HO_1518001 := n1_
                 have HO1521 := n2_
                 have BK1517 := n3_
                 have BK1525 := n4_
                 have HB := n5_
                 clear n0_ n1_ n2_ n3_ n4_ n5_ hb ho63
                 refine hK.out _ _ ⟨(blk_cell BK1517.out 0).trans rfl, (blk_cell BK1517.out 1).trans rfl⟩ (fun hHeld => ?_)
                 clear hK K
                 refine norm_ (a' := ?_) ?_ ?_
                 rotate_left
                 ·
                  show Act.put _ (some 56) _ = _
                  simp only [Act.put, List.setIfInBounds_toArray, List.set_cons_zero, List.set_cons_succ, i64_w, i32_w]
                  rfl
                 refine one_ (i := 10) (N := some 59) #[T, T, T, T, T, T, T, T, T, T, T, F, T, F] rfl rfl (one_of HT_.out (by kernel_rfl)) (by decide) (fun K hK => ?_)
                 refine Kd.R_append_rows_step (Kd.int .u8) (w0 := w) w.heap.size (by rfl) (.tmp 56) (.tmp 58) 22 5 (.int .u8 0) 1 rfl Try.underlying22 info5 rfl (by decide) (by omega) v1520 y1519 t1514 _ _ _ (fun k_ => some k_ ≠ (u7 : Value).ownBlock ∧ some k_ ≠ (.slice Ao12 t1514.length co12 : Value).ownBlock) (fun _ => False) rfl rfl ?aO ?aR (fun _ _ h => h) (fun _ h => h.elim) ?aF ?aB ?aS ?aL ?_
                 (case aR => repeat (first | exact (Kd.R_reads' HO_1518001.out).2.2 | (with_reducible refine Kd.C_alloc ?_ _) | (with_reducible refine Kd.C_drewN ?_ _) | (with_reducible refine Kd.C_drew ?_)))
                 (case aB => exact (by repeat (first | (with_reducible first | exact HB.out | apply below_alloc | apply pw_below_drewN | apply below_drew1 | refine below_set ?_ GE1517.out | refine below_set ?_ GE1525.out) | exact HB.out)))
                 (case aF => exact (fun k_ hk => ⟨Kd.fresh' (Kd.R_lt (by (with_reducible repeat (first | apply Kd.R_alloc | apply Kd.R_drewN | apply Kd.R_drew)); exact HO_7.out)) k_ hk, Kd.fresh' (Kd.R_lt (by (with_reducible repeat (first | apply Kd.R_alloc | apply Kd.R_drewN | apply Kd.R_drew)); exact HO_1518001.out)) k_ hk⟩))
                 (case aO => exact (by (with_reducible repeat (first | apply Kd.R_alloc | apply Kd.R_drewN | apply Kd.R_drew)); exact Kd.R_mono HO1521.out (fun _ hk => ⟨hk.1.2, hk.2⟩)))
                 (case aS => exact (below_size (by repeat (first | (with_reducible first | exact HB.out | apply below_alloc | apply pw_below_drewN | apply below_drew1 | refine below_set ?_ GE1517.out | refine below_set ?_ GE1525.out) | exact HB.out))))
                 (case aL => have := LMc18.out; omega)
                 intro v1523 w64 ho hb hg hat
                 rw [← Ny1522.out] at ho
                 have n0_ := Aside0.mk (Kd.R_after (ok := (fun k_ => some k_ ≠ (.slice Ao12 t1514.length co12 : Value).ownBlock)) (by (with_reducible repeat (first | apply Kd.R_alloc | apply Kd.R_drewN | apply Kd.R_drew)); exact HO_7.out) hg hat)
                 have n1_ := Aside0.mk (Kd.R_after (ok := (fun k_ => some k_ ≠ (u7 : Value).ownBlock)) (by (with_reducible repeat (first | apply Kd.R_alloc | apply Kd.R_drewN | apply Kd.R_drew)); exact HO_1518001.out) hg hat)
                 have n2_ := Aside0.mk (blk_grown (g := gb1517) (o := .cells #[.int .u64 t1513, .slice Ao12 t1514.length co12] 45 (0, 0)) (by (with_reducible repeat (first | refine blk_drewN ?_ _ | refine blk_drew ?_ | refine blk_alloc ?_ _)); exact BK1517.out) hg (Kd.R_ne HO1521.out BK1517.out (by decide)))
                 have n3_ := Aside0.mk (blk_grown (g := gb1525) (o := .cells #[.int .u64 0, .slice none 0 0] 45 (0, 0)) (by (with_reducible repeat (first | refine blk_drewN ?_ _ | refine blk_drew ?_ | refine blk_alloc ?_ _)); exact BK1525.out) hg (Kd.R_ne HO1521.out BK1525.out (by decide)))
                 have n4_ := Aside0.mk (hb)
                 have n5_ := Aside0.mk (ho)
                 clear HO_7 HO_1518001 BK1517 BK1525 HB HO1521
                 have HO_7 := n0_
                 have HO_1518001 := n1_
                 have BK1517 := n2_
                 have BK1525 := n3_
                 have HB := n4_
                 have HO1524 := n5_
                 clear n0_ n1_ n2_ n3_ n4_ n5_ ho hb hg hat
                 obtain ⟨Ao65, co65, eo65⟩ := Kd.R_slice HO1524.out
                 (first | subst eo65 | (injection eo65 with f1_ f2_ f3_; have f4_ := f1_.symm; have f5_ := f3_.symm; clear f1_ f2_ f3_; subst f4_; subst f5_))
                 refine hK.out _ _ ⟨(blk_cell BK1517.out 0).trans rfl, (blk_cell BK1517.out 1).trans rfl⟩ (fun hHeld => ?_)
                 clear hK K
                 refine norm_ (a' := ?_) ?_ ?_
                 rotate_left
                 ·
                  show Act.put _ (some 59) _ = _
                  simp only [Act.put, List.setIfInBounds_toArray, List.set_cons_zero, List.set_cons_succ, i64_w, i32_w]
                  rfl
                 refine pure_ (i := 11) (N := some 60) (v := ?_) (a' := ?_) #[T, T, T, T, T, T, T, T, T, T, T, T, T, F] rfl rfl (any_of HT_.out (by kernel_rfl)) (fun _ _ _ h => h) (Or.inl ⟨by rfl, ?_⟩) ?_ ?_
                 rotate_left; (intro w'; go_simp; with_reducible rfl); rotate_left; (simp only [Act.put, List.setIfInBounds_toArray, List.set_cons_zero, List.set_cons_succ, i64_w, i32_w]; rfl)
                 exact norm_ (by simp only [putAll, Act.put, List.setIfInBounds_toArray, List.set_cons_zero, List.set_cons_succ]) (hCont (v1520, .slice Ao65 y1522.length co65, gb1525) _ ⟨hHeld, (by (with_reducible repeat (first | apply Kd.R_alloc | apply Kd.R_drewN | apply Kd.R_drew)); exact Kd.R_mono HO1524.out (fun _ hk => ⟨hk.2, hk.1⟩)), (by (with_reducible repeat (first | apply Kd.R_alloc | apply Kd.R_drewN | apply Kd.R_drew)); exact Kd.R_mono HO_1518001.out (fun _ hk => ⟨hk.2, hk.1⟩)), (by (with_reducible repeat (first | apply Kd.R_alloc | apply Kd.R_drewN | apply Kd.R_drew)); exact Kd.R_mono HO_7.out (fun _ hk => ⟨hk.2, hk.1⟩)), (by (with_reducible repeat (first | refine blk_drewN ?_ _ | refine blk_drew ?_ | refine blk_alloc ?_ _)); exact BK1517.out), (by (with_reducible repeat (first | refine blk_drewN ?_ _ | refine blk_drew ?_ | refine blk_alloc ?_ _)); exact BK1525.out), GW1525.out, GE1525.out, NB1517_1525.out, NB1525_1517.out, (by repeat (first | (with_reducible first | exact HB.out | apply below_alloc | apply pw_below_drewN | apply below_drew1 | refine below_set ?_ GE1517.out | refine below_set ?_ GE1525.out) | exact HB.out))⟩)
               rintro ⟨v1520, v1523, gb1525⟩ w66 ⟨hS_, h0_, h1_, h2_, h3_, h4_, h5_, h6_, h7_, h8_, h9_⟩
               have n0_ : Aside0 (Kd.R (Kd.int .u8) 5 w66 w.heap.size (fun k_ => some k_ ≠ (.slice Ao12 t1514.length co12 : Value).ownBlock ∧ some k_ ≠ (u7 : Value).ownBlock) v1523 y1522) := ⟨h0_⟩
               have n1_ : Aside0 (Kd.R (Kd.int .u8) 5 w66 w.heap.size (fun k_ => some k_ ≠ (v1523 : Value).ownBlock ∧ some k_ ≠ (u7 : Value).ownBlock) (.slice Ao12 t1514.length co12) t1514) := ⟨h1_⟩
               have n2_ : Aside0 (Kd.R (Kd.int .u8) 5 w66 w.heap.size (fun k_ => some k_ ≠ (v1523 : Value).ownBlock ∧ some k_ ≠ (.slice Ao12 t1514.length co12 : Value).ownBlock) u7 x7_3) := ⟨h2_⟩
               have n3_ : Aside0 (w66.heap[gb1517]? = some (.cells #[.int .u64 t1513, .slice Ao12 t1514.length co12] 45 (0, 0))) := ⟨h3_⟩
               have n4_ : Aside0 (w66.heap[gb1525]? = some (.cells #[.int .u64 0, .slice none 0 0] 45 (0, 0))) := ⟨h4_⟩
               have n5_ : Aside0 (w.heap.size ≤ gb1525) := ⟨h5_⟩
               have n6_ : Aside0 (w.heap.size ≤ gb1525) := ⟨h6_⟩
               have n7_ : Aside0 (gb1517 ≠ gb1525) := ⟨h7_⟩
               have n8_ : Aside0 (gb1525 ≠ gb1517) := ⟨h8_⟩
               have n9_ : Aside0 (Below w.heap.size w w66) := ⟨h9_⟩
               clear HO_7 HO_1518001 BK1517 HB h0_ h1_ h2_ h3_ h4_ h5_ h6_ h7_ h8_ h9_
               have HO1524 := n0_
               have HO_1518001 := n1_
               have HO_7 := n2_
               have BK1517 := n3_
               have BK1525 := n4_
               have GW1525 := n5_
               have GE1525 := n6_
               have NB1517_1525 := n7_
               have NB1525_1517 := n8_
               have HB := n9_
               clear n0_ n1_ n2_ n3_ n4_ n5_ n6_ n7_ n8_ n9_
               have hHeld : w66.cell? ⟨gb1517, 0, none⟩ = some (.int .u64 t1513) ∧ w66.cell? ⟨gb1517, 1, none⟩ = some (.slice Ao12 t1514.length co12) := hS_
               obtain ⟨Ao67, co67, eo67⟩ := Kd.R_slice HO1524.out
               (first | subst eo67 | (injection eo67 with f1_ f2_ f3_; have f4_ := f1_.symm; have f5_ := f3_.symm; clear f1_ f2_ f3_; subst f4_; subst f5_))
               refine norm_ (a' := ?_) ?_ ?_
               rotate_left
               ·
                simp only [putAll, Act.put, List.setIfInBounds_toArray, List.set_cons_zero, List.set_cons_succ]
                rfl
               refine one_ (i := 13) (N := none) #[T, T, T, T, T, T, T, T, T, T, T, T, T, T] rfl rfl (one_of HT_.out (by kernel_rfl)) (by decide) (fun K hK => ?_)
               have hs68 : w66.cell? ⟨gb1525, 0, none⟩ = some (.int .u64 0) := (blk_cell BK1525.out 0).trans rfl
               have hfs68 := blk_frozen BK1525.out 0
               have hns68_0 := NB1517_1525.out
               have hms68_0 := NB1525_1517.out
               have hs69 : w66.cell? ⟨gb1525, 1, none⟩ = some (.slice none 0 0) := (blk_cell BK1525.out 1).trans rfl
               have hfs69 := blk_frozen BK1525.out 1
               have hns69_0 := NB1517_1525.out
               have hms69_0 := NB1525_1517.out
               refine skip_ (w1 := ?_) (by rfl) rfl ?_ ?_
               rotate_left
               ·
                go_simp
                rfl
               refine hK.out _ _ ⟨((cell_far (p := ⟨gb1525, _, none⟩) NB1517_1525.out _).trans (((cell_far (p := ⟨gb1525, _, none⟩) NB1517_1525.out _).trans (hHeld.1)))), ((cell_far (p := ⟨gb1525, _, none⟩) NB1517_1525.out _).trans (((cell_far (p := ⟨gb1525, _, none⟩) NB1517_1525.out _).trans (hHeld.2))))⟩ (fun hHeld => ?_)
               clear hK K
               refine done_ (done_of HT_.out (by kernel_rfl)) ?_
               have n0_ : Aside0 (Kd.R (Kd.int .u8) 5 ((w66.setCell ⟨gb1525, 0, none⟩ (.int .u64 (IntKind.u64.wrap (t1513 + (IntKind.u64.wrap (x8_3)))))).setCell ⟨gb1525, 1, none⟩ (.slice Ao67 y1522.length co67)) w.heap.size (fun k_ => some k_ ≠ (.slice Ao12 t1514.length co12 : Value).ownBlock ∧ some k_ ≠ (.slice Ao67 y1522.length co67 : Value).ownBlock) u7 x7_3) := ⟨by (with_reducible repeat (first | apply Kd.R_alloc | apply Kd.R_drewN | apply Kd.R_drew)); exact Kd.R_mono (Kd.R_far (p := ⟨gb1525, 1, none⟩) (Kd.R_far (p := ⟨gb1525, 0, none⟩) (Kd.R_types HO_7.out BK1525.out (by decide)) (fun _ hk => hk.2) (.int .u64 (IntKind.u64.wrap (t1513 + (IntKind.u64.wrap (x8_3)))))) (fun _ hk => hk.2) (.slice Ao67 y1522.length co67)) (fun _ hk => ⟨hk.1.2, hk.1.1⟩)⟩
               have n1_ : Aside0 (Kd.R (Kd.int .u8) 5 ((w66.setCell ⟨gb1525, 0, none⟩ (.int .u64 (IntKind.u64.wrap (t1513 + (IntKind.u64.wrap (x8_3)))))).setCell ⟨gb1525, 1, none⟩ (.slice Ao67 y1522.length co67)) w.heap.size (fun k_ => some k_ ≠ (u7 : Value).ownBlock ∧ some k_ ≠ (.slice Ao67 y1522.length co67 : Value).ownBlock) (.slice Ao12 t1514.length co12) t1514) := ⟨by (with_reducible repeat (first | apply Kd.R_alloc | apply Kd.R_drewN | apply Kd.R_drew)); exact Kd.R_mono (Kd.R_far (p := ⟨gb1525, 1, none⟩) (Kd.R_far (p := ⟨gb1525, 0, none⟩) (Kd.R_types HO_1518001.out BK1525.out (by decide)) (fun _ hk => hk.2) (.int .u64 (IntKind.u64.wrap (t1513 + (IntKind.u64.wrap (x8_3)))))) (fun _ hk => hk.2) (.slice Ao67 y1522.length co67)) (fun _ hk => ⟨hk.1.2, hk.1.1⟩)⟩
               have n2_ : Aside0 (Kd.R (Kd.int .u8) 5 ((w66.setCell ⟨gb1525, 0, none⟩ (.int .u64 (IntKind.u64.wrap (t1513 + (IntKind.u64.wrap (x8_3)))))).setCell ⟨gb1525, 1, none⟩ (.slice Ao67 y1522.length co67)) w.heap.size (fun k_ => some k_ ≠ (u7 : Value).ownBlock ∧ some k_ ≠ (.slice Ao12 t1514.length co12 : Value).ownBlock) (.slice Ao67 y1522.length co67) y1522) := ⟨by (with_reducible repeat (first | apply Kd.R_alloc | apply Kd.R_drewN | apply Kd.R_drew)); exact Kd.R_mono (Kd.R_far (p := ⟨gb1525, 1, none⟩) (Kd.R_far (p := ⟨gb1525, 0, none⟩) (Kd.R_types HO1524.out BK1525.out (by decide)) (fun _ hk => hk.2) (.int .u64 (IntKind.u64.wrap (t1513 + (IntKind.u64.wrap (x8_3)))))) (fun _ hk => hk.2) (.slice Ao67 y1522.length co67)) (fun _ hk => ⟨hk.1.2, hk.1.1⟩)⟩
               have n3_ : Aside0 (((w66.setCell ⟨gb1525, 0, none⟩ (.int .u64 (IntKind.u64.wrap (t1513 + (IntKind.u64.wrap (x8_3)))))).setCell ⟨gb1525, 1, none⟩ (.slice Ao67 y1522.length co67)).heap[gb1517]? = some (.cells #[.int .u64 t1513, .slice Ao12 t1514.length co12] 45 (0, 0))) := ⟨by (with_reducible repeat (first | refine blk_drewN ?_ _ | refine blk_drew ?_ | refine blk_alloc ?_ _)); refine blk_far ?_ NB1517_1525.out _; (with_reducible repeat (first | refine blk_drewN ?_ _ | refine blk_drew ?_ | refine blk_alloc ?_ _)); refine blk_far ?_ NB1517_1525.out _; (with_reducible repeat (first | refine blk_drewN ?_ _ | refine blk_drew ?_ | refine blk_alloc ?_ _)); exact BK1517.out⟩
               have n4_ : Aside0 (((w66.setCell ⟨gb1525, 0, none⟩ (.int .u64 (IntKind.u64.wrap (t1513 + (IntKind.u64.wrap (x8_3)))))).setCell ⟨gb1525, 1, none⟩ (.slice Ao67 y1522.length co67)).heap[gb1525]? = some (.cells #[.int .u64 (IntKind.u64.wrap (t1513 + (IntKind.u64.wrap (x8_3)))), .slice Ao67 y1522.length co67] 45 (0, 0))) := ⟨by (with_reducible repeat (first | refine blk_drewN ?_ _ | refine blk_drew ?_ | refine blk_alloc ?_ _)); refine blk_put (cs := #[.int .u64 (IntKind.u64.wrap (t1513 + (IntKind.u64.wrap (x8_3)))), .slice none 0 0]) ?_ 1 _ rfl; (with_reducible repeat (first | refine blk_drewN ?_ _ | refine blk_drew ?_ | refine blk_alloc ?_ _)); refine blk_put (cs := #[.int .u64 0, .slice none 0 0]) ?_ 0 _ rfl; (with_reducible repeat (first | refine blk_drewN ?_ _ | refine blk_drew ?_ | refine blk_alloc ?_ _)); exact BK1525.out⟩
               have n5_ : Aside0 (Below w.heap.size w ((w66.setCell ⟨gb1525, 0, none⟩ (.int .u64 (IntKind.u64.wrap (t1513 + (IntKind.u64.wrap (x8_3)))))).setCell ⟨gb1525, 1, none⟩ (.slice Ao67 y1522.length co67))) := ⟨by repeat (first | (with_reducible first | exact HB.out | apply below_alloc | apply pw_below_drewN | apply below_drew1 | refine below_set ?_ GE1517.out | refine below_set ?_ GE1525.out) | exact HB.out)⟩
               (try clear HO_7)
               (try clear HO_1518001)
               (try clear HO1524)
               (try clear BK1517)
               (try clear BK1525)
               (try clear HB)
               generalize ((w66.setCell ⟨gb1525, 0, none⟩ (.int .u64 (IntKind.u64.wrap (t1513 + (IntKind.u64.wrap (x8_3)))))).setCell ⟨gb1525, 1, none⟩ (.slice Ao67 y1522.length co67)) = w70 at n0_ n1_ n2_ n3_ n4_ n5_ ⊢
               have HO_7 := n0_
               have HO_1518001 := n1_
               have HO1524 := n2_
               have BK1517 := n3_
               have BK1525 := n4_
               have HB := n5_
               clear n0_ n1_ n2_ n3_ n4_ n5_
               have hnb71 := NB1525_1517.out
               have hnc71 := NB1517_1525.out
               have hcz72_0 : w70.cell? ⟨gb1525, 0, none⟩ = some (.int .u64 (IntKind.u64.wrap (t1513 + (IntKind.u64.wrap (x8_3))))) := (blk_cell BK1525.out 0).trans rfl
               have hcz72_1 : w70.cell? ⟨gb1525, 1, none⟩ = some (.slice Ao67 y1522.length co67) := (blk_cell BK1525.out 1).trans rfl
               have hfz72_0 := blk_frozen BK1525.out 0
               have hfz72_1 := blk_frozen BK1525.out 1
               try go_wp2_with (first | ((with_reducible refine gate_callee (f := 29) rfl ?_); refine goesL_ (some 66) rfl rfl Try.func29 (by kernel_rfl) rfl #[.agg #[.int .u64 (IntKind.u64.wrap (t1513 + (IntKind.u64.wrap (x8_3)))), .slice Ao67 y1522.length co67]] rfl (by (try simp only [List.map_toArray, List.map_cons, List.map_nil]); first | done | rfl | (simp only [List.length_drop, List.length_take]; rfl)) ?_; (with_reducible refine (impl_EncodeRecord.calls k3 (IntKind.u64.wrap (t1513 + (IntKind.u64.wrap (x8_3)))) (fun k_ => some k_ = (.slice Ao67 y1522.length co67 : Value).ownBlock) _ _ y1522 t1526 _ ?side1 A32.out).mono ?_); (case side1 => exact Kd.R_V (Kd.R_tight rfl (Kd.R_types (Kd.R_types (HO1524.out) BK1517.out (by decide)) BK1525.out (by decide)))); rintro e w73 ⟨v1527, rfl, ho0, hb⟩; refine ⟨_, rfl, ?_⟩; have n0_ := Aside0.mk (Kd.R_elder' (by (with_reducible repeat (first | apply Kd.R_alloc | apply Kd.R_drewN | apply Kd.R_drew)); exact HO_7.out) (Kd.R_base ho0) hb); have n1_ := Aside0.mk (Kd.R_elder' (by (with_reducible repeat (first | apply Kd.R_alloc | apply Kd.R_drewN | apply Kd.R_drew)); exact HO_1518001.out) (Kd.R_base ho0) hb); have n2_ := Aside0.mk (Kd.R_elder' (by (with_reducible repeat (first | apply Kd.R_alloc | apply Kd.R_drewN | apply Kd.R_drew)); exact HO1524.out) (Kd.R_base ho0) hb); have n3_ := Aside0.mk (Kd.R_lower (Kd.R_new' (Kd.R_new' (Kd.R_new' (Kd.R_mono (ok' := fun k_ => True) ho0 (fun _ hk_ => trivial)) (Kd.R_lt (by (with_reducible repeat (first | apply Kd.R_alloc | apply Kd.R_drewN | apply Kd.R_drew)); exact HO_7.out))) (Kd.R_lt (by (with_reducible repeat (first | apply Kd.R_alloc | apply Kd.R_drewN | apply Kd.R_drew)); exact HO_1518001.out))) (Kd.R_lt (by (with_reducible repeat (first | apply Kd.R_alloc | apply Kd.R_drewN | apply Kd.R_drew)); exact HO1524.out))) (below_size (by repeat (first | (with_reducible first | exact HB.out | apply below_alloc | apply pw_below_drewN | apply below_drew1 | refine below_set ?_ GE1517.out | refine below_set ?_ GE1525.out) | exact HB.out)))); have n4_ := Aside0.mk (blk_below (g := gb1517) (o := .cells #[.int .u64 t1513, .slice Ao12 t1514.length co12] 45 (0, 0)) (by (with_reducible repeat (first | refine blk_drewN ?_ _ | refine blk_drew ?_ | refine blk_alloc ?_ _)); exact BK1517.out) hb); have n5_ := Aside0.mk (blk_below (g := gb1525) (o := .cells #[.int .u64 (IntKind.u64.wrap (t1513 + (IntKind.u64.wrap (x8_3)))), .slice Ao67 y1522.length co67] 45 (0, 0)) (by (with_reducible repeat (first | refine blk_drewN ?_ _ | refine blk_drew ?_ | refine blk_alloc ?_ _)); exact BK1525.out) hb); have n6_ := Aside0.mk (below_step (by repeat (first | (with_reducible first | exact HB.out | apply below_alloc | apply pw_below_drewN | apply below_drew1 | refine below_set ?_ GE1517.out | refine below_set ?_ GE1525.out) | exact HB.out)) hb); clear HO_7; clear HO_1518001; clear HO1524; clear BK1517; clear BK1525; clear HB; have HO_7 := n0_; have HO_1518001 := n1_; have HO1524 := n2_; have HO1528 := n3_; have BK1517 := n4_; have BK1525 := n5_; have HB := n6_; clear n0_ n1_ n2_ n3_ n4_ n5_ n6_; (try clear hb); (try clear hb2); (try clear hk); (try clear hi); (try clear ho0); obtain ⟨Ao74, co74, eo74⟩ := Kd.R_slice HO1528.out; subst eo74; have hcz75_0 : w73.cell? ⟨gb1525, 0, none⟩ = some (.int .u64 (IntKind.u64.wrap (t1513 + (IntKind.u64.wrap (x8_3))))) := (blk_cell BK1525.out 0).trans rfl; have hcz75_1 : w73.cell? ⟨gb1525, 1, none⟩ = some (.slice Ao67 y1522.length co67) := (blk_cell BK1525.out 1).trans rfl; have hfz75_0 := blk_frozen BK1525.out 0; have hfz75_1 := blk_frozen BK1525.out 1) | ((with_reducible refine gate_builtin (b := .append) (xs := #[.tmp 84, .tmp 85]) rfl ?_); (try (refine gate_guard (by rfl) ?_; dsimp only)); at_builtin; refine Kd.R_append_rows (Kd.int .u8) (w0 := w) w.heap.size rfl (.tmp 84) (.tmp 85) 22 5 (.int .u8 0) 1 rfl Try.underlying22 info5 rfl (by decide) (by omega) u7 x7_3 t1526 _ _ _ (fun k_ => some k_ ≠ (.slice Ao12 t1514.length co12 : Value).ownBlock ∧ some k_ ≠ (.slice Ao67 y1522.length co67 : Value).ownBlock ∧ some k_ ≠ (.slice Ao74 t1526.length co74 : Value).ownBlock) (fun _ => False) rfl rfl ?aO ?aR (fun _ _ h => h) (fun _ h => h.elim) ?aF ?aB ?aS ?aL ?_; (case aR => repeat (first | exact (Kd.R_reads' HO1528.out).2.2 | (with_reducible refine Kd.C_alloc ?_ _) | (with_reducible refine Kd.C_drewN ?_ _) | (with_reducible refine Kd.C_drew ?_))); (case aB => exact (by repeat (first | (with_reducible first | exact HB.out | apply below_alloc | apply pw_below_drewN | apply below_drew1 | refine below_set ?_ GE1517.out | refine below_set ?_ GE1525.out) | exact HB.out))); (case aF => exact (fun k_ hk => ⟨Kd.fresh' (Kd.R_lt (by (with_reducible repeat (first | apply Kd.R_alloc | apply Kd.R_drewN | apply Kd.R_drew)); exact HO_1518001.out)) k_ hk, Kd.fresh' (Kd.R_lt (by (with_reducible repeat (first | apply Kd.R_alloc | apply Kd.R_drewN | apply Kd.R_drew)); exact HO1524.out)) k_ hk, Kd.fresh' (Kd.R_lt (by (with_reducible repeat (first | apply Kd.R_alloc | apply Kd.R_drewN | apply Kd.R_drew)); exact HO1528.out)) k_ hk⟩)); (case aO => exact (by (with_reducible repeat (first | apply Kd.R_alloc | apply Kd.R_drewN | apply Kd.R_drew)); exact Kd.R_mono HO_7.out (fun _ hk => ⟨hk.1.1, ⟨hk.1.2, hk.2⟩⟩))); (case aS => exact (below_size (by repeat (first | (with_reducible first | exact HB.out | apply below_alloc | apply pw_below_drewN | apply below_drew1 | refine below_set ?_ GE1517.out | refine below_set ?_ GE1525.out) | exact HB.out)))); (case aL => have := LMc59.out; omega); intro v1537 w76 ho hb hg hat; rw [← Ny1536.out] at ho; have n0_ := Aside0.mk (Kd.R_after (ok := (fun k_ => some k_ ≠ (.slice Ao67 y1522.length co67 : Value).ownBlock ∧ some k_ ≠ (.slice Ao74 t1526.length co74 : Value).ownBlock)) (by (with_reducible repeat (first | apply Kd.R_alloc | apply Kd.R_drewN | apply Kd.R_drew)); exact Kd.R_mono HO_1518001.out (fun _ hk => ⟨⟨hk.1.2, hk.2⟩, hk.1.1⟩)) hg hat); have n1_ := Aside0.mk (blk_grown (g := gb1517) (o := .cells #[.int .u64 t1513, .slice Ao12 t1514.length co12] 45 (0, 0)) (by (with_reducible repeat (first | refine blk_drewN ?_ _ | refine blk_drew ?_ | refine blk_alloc ?_ _)); exact BK1517.out) hg (Kd.R_ne HO_7.out BK1517.out (by decide))); have n2_ := Aside0.mk (Kd.R_after (ok := (fun k_ => some k_ ≠ (.slice Ao12 t1514.length co12 : Value).ownBlock ∧ some k_ ≠ (.slice Ao74 t1526.length co74 : Value).ownBlock)) (by (with_reducible repeat (first | apply Kd.R_alloc | apply Kd.R_drewN | apply Kd.R_drew)); exact Kd.R_mono HO1524.out (fun _ hk => ⟨⟨hk.1.2, hk.2⟩, hk.1.1⟩)) hg hat); have n3_ := Aside0.mk (blk_grown (g := gb1525) (o := .cells #[.int .u64 (IntKind.u64.wrap (t1513 + (IntKind.u64.wrap (x8_3)))), .slice Ao67 y1522.length co67] 45 (0, 0)) (by (with_reducible repeat (first | refine blk_drewN ?_ _ | refine blk_drew ?_ | refine blk_alloc ?_ _)); exact BK1525.out) hg (Kd.R_ne HO_7.out BK1525.out (by decide))); have n4_ := Aside0.mk (Kd.R_after (ok := (fun k_ => some k_ ≠ (.slice Ao12 t1514.length co12 : Value).ownBlock ∧ some k_ ≠ (.slice Ao67 y1522.length co67 : Value).ownBlock)) (by (with_reducible repeat (first | apply Kd.R_alloc | apply Kd.R_drewN | apply Kd.R_drew)); exact Kd.R_mono HO1528.out (fun _ hk => ⟨⟨hk.1.2, hk.2⟩, hk.1.1.2⟩)) hg hat); have n5_ := Aside0.mk (hb); have n6_ := Aside0.mk (ho); clear HO_1518001; clear BK1517; clear HO1524; clear BK1525; clear HO1528; clear HB; clear HO_7; have HO_1518001 := n0_; have BK1517 := n1_; have HO1524 := n2_; have BK1525 := n3_; have HO1528 := n4_; have HB := n5_; have HO1538 := n6_; clear n0_ n1_ n2_ n3_ n4_ n5_ n6_; clear ho hb hg hat))
               go_roundg k3
               case measure => have := HJ2.out; have := HJ7.out; have := HK3.out; omega
               case rel => exact ⟨(y1536), (wrap64 (x8_3 + 1)), (by first | rfl | (simp; done) | (simp [*]; done)), H', ⟨by have := HJ2.out; have := HJ7.out; have := HK3.out; omega⟩, ⟨by (with_reducible repeat (first | apply Kd.R_alloc | apply Kd.R_drewN | apply Kd.R_drew)); exact Kd.R_mono HO1538.out (fun _ hk => hk.1)⟩, ⟨by (with_reducible repeat (first | apply Kd.R_alloc | apply Kd.R_drewN | apply Kd.R_drew)); exact Kd.R_mono HO_1518001.out (fun _ hk => hk.2)⟩, ⟨by (with_reducible repeat (first | refine blk_drewN ?_ _ | refine blk_drew ?_ | refine blk_alloc ?_ _)); exact BK1517.out⟩, ⟨by repeat (first | (with_reducible first | exact HB.out | apply below_alloc | apply pw_below_drewN | apply below_drew1 | refine below_set ?_ GE1517.out | refine below_set ?_ GE1525.out) | exact HB.out)⟩⟩
              ·
               rw [if_neg c59] at H
               exact absurd H (by simp)
            ·
             rw [if_neg c33] at H
             have c33b0 : ((t1526.length : Int) == (wrap64 (14 + (y1522.length : Int)))) = false := beq_eq_false_iff_ne.mpr c33
             have c33b1 : ((t1526.length : Int) != (wrap64 (14 + (y1522.length : Int)))) = true := bne_iff_ne.mpr c33
             exact absurd H (by simp)
          ·
           rw [if_neg c18] at H
           exact absurd H (by simp)
         ·
          rw [if_neg c17] at H
          have c17b0 : decide (x8_3 ≤ (wrap64 (1 + (Int.tmod t1518 5)))) = false := decide_eq_false c17
          clear c17
          replace H := Option.bind_eq_some_iff.mp H
          obtain ⟨⟨t1539, t1540⟩, A770, H⟩ := H
          replace H : (if (t1539.length : Int) = (wrap64 (1 + (Int.tmod t1518 5))) then (laws_FnLog.j3 k3 l0 (wrap64 (1 + (Int.tmod t1518 5))) t1539 (t1540 != (wrap64 ((wrap64 (1 + (Int.tmod t1518 5))) * (wrap64 (15 + (t1514.length : Int)))))) t1513 t1514) else (laws_FnLog.j3 k3 l0 (wrap64 (1 + (Int.tmod t1518 5))) t1539 true t1513 t1514)) = some true := H
          have A77 := Aside0.mk A770
          clear A770
          have HC78 := Aside0.mk H
          clear H
          obtain ⟨Ao79, co79, eo79⟩ := Kd.R_slice HO_7.out
          subst eo79
          go_upto_region 21 with (first | ((with_reducible refine gate_callee (f := 35) rfl ?_); refine goesL_ (some 89) rfl rfl Try.func35 (by kernel_rfl) rfl #[.slice Ao79 x7_3.length co79] rfl (by (try simp only [List.map_toArray, List.map_cons, List.map_nil]); first | done | rfl | (simp only [List.length_drop, List.length_take]; rfl)) ?_; (with_reducible refine (impl_ReadLog.calls _ _ x7_3 t1539 t1540 _ ?side1 ?side2 A77.out).mono ?_); (case side1 => repeat (first | exact (Kd.R_reads' HO_7.out).2.2 | (with_reducible refine Kd.C_alloc ?_ _) | (with_reducible refine Kd.C_drewN ?_ _) | (with_reducible refine Kd.C_drew ?_))); (case side2 => exact (Kd.R_reads' HO_7.out).2.1); rintro e w80 ⟨v1541, rfl, ho0, hb⟩; refine ⟨_, rfl, ?_⟩; have n0_ := Aside0.mk (Kd.R_below (by (with_reducible repeat (first | apply Kd.R_alloc | apply Kd.R_drewN | apply Kd.R_drew)); exact HO_7.out) hb); have n1_ := Aside0.mk (Kd.R_below (by (with_reducible repeat (first | apply Kd.R_alloc | apply Kd.R_drewN | apply Kd.R_drew)); exact HO_1518001.out) hb); have n2_ := Aside0.mk (Kd.S_lower (Kd.S_newB (Kd.S_new' (Kd.S_new' ho0 (Kd.R_lt (by (with_reducible repeat (first | apply Kd.R_alloc | apply Kd.R_drewN | apply Kd.R_drew)); exact HO_7.out))) (Kd.R_lt (by (with_reducible repeat (first | apply Kd.R_alloc | apply Kd.R_drewN | apply Kd.R_drew)); exact HO_1518001.out))) (g := gb1517) (o := .cells #[.int .u64 t1513, .slice Ao12 t1514.length co12] 45 (0, 0)) (by (with_reducible repeat (first | refine blk_drewN ?_ _ | refine blk_drew ?_ | refine blk_alloc ?_ _)); exact BK1517.out)) (below_size (by repeat (first | (with_reducible first | exact HB.out | apply below_alloc | apply pw_below_drewN | apply below_drew1 | refine below_set ?_ GE1517.out) | exact HB.out)))); have n3_ := Aside0.mk (blk_below (g := gb1517) (o := .cells #[.int .u64 t1513, .slice Ao12 t1514.length co12] 45 (0, 0)) (by (with_reducible repeat (first | refine blk_drewN ?_ _ | refine blk_drew ?_ | refine blk_alloc ?_ _)); exact BK1517.out) hb); have n4_ := Aside0.mk (below_step (by repeat (first | (with_reducible first | exact HB.out | apply below_alloc | apply pw_below_drewN | apply below_drew1 | refine below_set ?_ GE1517.out) | exact HB.out)) hb); clear HO_7; clear HO_1518001; clear BK1517; clear HB; have HO_7 := n0_; have HO_1518001 := n1_; have HO1542 := n2_; have BK1517 := n3_; have HB := n4_; clear n0_ n1_ n2_ n3_ n4_; (try clear hb); (try clear hb2); (try clear hk); (try clear hi); (try clear ho0)))
          (try simp only [Act.put, List.setIfInBounds_toArray, List.set_cons_zero, List.set_cons_succ])
          go_cut [105] (fun v105 wc => ∃ (kq : Nat) (x105_77 : Bool), v105 = .bool x105_77 ∧ Aside0 (laws_FnLog.j3 kq l0 (wrap64 (1 + (Int.tmod t1518 5))) t1539 x105_77 t1513 t1514 = some true) ∧ Aside0 (kq ≤ k3) ∧ Aside0 (Kd.S k45 45 wc w.heap.size (fun k_ => some k_ ≠ ((.slice Ao12 t1514.length co12) : Value).ownBlock ∧ k_ ≠ gb1517) v1541 t1539) ∧ Aside0 (Kd.R (Kd.int .u8) 5 wc w.heap.size (fun _ => True) (.slice Ao12 t1514.length co12) t1514) ∧ Aside0 (wc.heap[gb1517]? = some (.cells #[.int .u64 t1513, (.slice Ao12 t1514.length co12)] 45 (0, 0))) ∧ Aside0 (Below w.heap.size w wc))
          case first => as_aux_lemma =>
           have H := HC78.out
           clear HC78
           by_cases c81 : (t1539.length : Int) = (wrap64 (1 + (Int.tmod t1518 5)))
           ·
            rw [if_pos c81] at H
            have c81b0 : ((t1539.length : Int) == (wrap64 (1 + (Int.tmod t1518 5)))) = true := beq_iff_eq.mpr c81
            have c81b1 : ((t1539.length : Int) != (wrap64 (1 + (Int.tmod t1518 5)))) = false := bne_eq_false_iff_eq.mpr c81
            clear c81
            (first | rw [c81b0] | (simp only [i64_w, i32_w]; rw [c81b0]) | skip)
            have H' := Aside0.mk H
            clear H
            obtain ⟨Ao82, co82, eo82⟩ := Kd.S_slice HO1542.out
            subst eo82
            have hcz83_0 : w80.cell? ⟨gb1517, 0, none⟩ = some (.int .u64 t1513) := (blk_cell BK1517.out 0).trans rfl
            have hcz83_1 : w80.cell? ⟨gb1517, 1, none⟩ = some (.slice Ao12 t1514.length co12) := (blk_cell BK1517.out 1).trans rfl
            have hfz83_0 := blk_frozen BK1517.out 0
            have hfz83_1 := blk_frozen BK1517.out 1
            go_wp2
            go_meet
            case rel => exact ⟨_, ((t1540 != (wrap64 ((wrap64 (1 + (Int.tmod t1518 5))) * (wrap64 (15 + (t1514.length : Int))))))), (by first | rfl | (simp; done) | (simp [*]; done)), H', ⟨by have := HJ2.out; have := HJ7.out; have := HK3.out; first | omega | exact Nat.le_refl _⟩, ⟨by (with_reducible repeat (first | apply Kd.S_alloc | apply Kd.S_drewN | apply Kd.S_drew)); exact Kd.S_mono HO1542.out (fun _ hk => ⟨hk.1.2, hk.2⟩)⟩, ⟨by (with_reducible repeat (first | apply Kd.R_alloc | apply Kd.R_drewN | apply Kd.R_drew)); exact Kd.R_mono HO_1518001.out (fun _ hk => trivial)⟩, ⟨by (with_reducible repeat (first | refine blk_drewN ?_ _ | refine blk_drew ?_ | refine blk_alloc ?_ _)); exact BK1517.out⟩, ⟨by repeat (first | (with_reducible first | exact HB.out | apply below_alloc | apply pw_below_drewN | apply below_drew1 | refine below_set ?_ GE1517.out) | exact HB.out)⟩⟩
           ·
            rw [if_neg c81] at H
            have c81b0 : ((t1539.length : Int) == (wrap64 (1 + (Int.tmod t1518 5)))) = false := beq_eq_false_iff_ne.mpr c81
            have c81b1 : ((t1539.length : Int) != (wrap64 (1 + (Int.tmod t1518 5)))) = true := bne_iff_ne.mpr c81
            (first | rw [c81b0] | (simp only [i64_w, i32_w]; rw [c81b0]) | skip)
            have H' := Aside0.mk H
            clear H
            obtain ⟨Ao84, co84, eo84⟩ := Kd.S_slice HO1542.out
            subst eo84
            go_wp2
            go_meet
            case rel => exact ⟨_, (true), (by first | rfl | (simp; done) | (simp [*]; done)), H', ⟨by have := HJ2.out; have := HJ7.out; have := HK3.out; first | omega | exact Nat.le_refl _⟩, ⟨by (with_reducible repeat (first | apply Kd.S_alloc | apply Kd.S_drewN | apply Kd.S_drew)); exact Kd.S_mono HO1542.out (fun _ hk => ⟨hk.1.2, hk.2⟩)⟩, ⟨by (with_reducible repeat (first | apply Kd.R_alloc | apply Kd.R_drewN | apply Kd.R_drew)); exact Kd.R_mono HO_1518001.out (fun _ hk => trivial)⟩, ⟨by (with_reducible repeat (first | refine blk_drewN ?_ _ | refine blk_drew ?_ | refine blk_alloc ?_ _)); exact BK1517.out⟩, ⟨by repeat (first | (with_reducible first | exact HB.out | apply below_alloc | apply pw_below_drewN | apply below_drew1 | refine below_set ?_ GE1517.out) | exact HB.out)⟩⟩
          case rest => as_aux_lemma =>
           clear HC78
           try clear c1
           try clear c2
           try clear p2
           try clear c3
           try clear c4
           try clear c5
           try clear q5
           try clear p6
           try clear c7
           try clear c8
           try clear c17
           try clear c17b0
           try clear c18
           try clear c29
           try clear c33
           try clear c33b0
           try clear c33b1
           try clear c34
           try clear c34b0
           try clear c34b1
           try clear c35
           try clear c38
           try clear c39
           try clear c40
           try clear c52
           try clear q57
           try clear c59
           try clear p64
           try clear c71
           try clear c81
           try clear c81b0
           try clear c81b1
           try clear hcz53_0
           try clear hcz53_1
           try clear hcz56_0
           try clear hcz56_1
           try clear hcz72_0
           try clear hcz72_1
           try clear hcz75_0
           try clear hcz75_1
           try clear hcz83_0
           try clear hcz83_1
           try clear hfz53_0
           try clear hfz53_1
           try clear hfz56_0
           try clear hfz56_1
           try clear hfz72_0
           try clear hfz72_1
           try clear hfz75_0
           try clear hfz75_1
           try clear hfz83_0
           try clear hfz83_1
           try clear q57
           obtain ⟨kq, x105_77, rfl, HA, HJ77, HO_11, HO_1518001, BK1517, HB⟩ := hcut
           cases kq with
           | zero => exact absurd HA.out (by simp [laws_FnLog.j3])
           | succ kj77 =>
            have H := HA.out
            clear HA
            simp only [laws_FnLog.j3] at H
            by_cases c85 : x105_77 = true
            ·
             subst c85
             have H1 : (some false) = some true := by first | rfl | (rw [if_pos rfl] at H; exact H)
             clear H
             have H := H1
             clear H1
             exact absurd H (by simp)
            ·
             replace c85 := Bool.eq_false_iff.mpr c85
             subst c85
             have H1 : (laws_FnLog.l1 kj77 l0 (wrap64 (1 + (Int.tmod t1518 5))) t1539 0 t1513 t1514) = some true := by first | rfl | (rw [if_neg (show ¬ (false = true) by decide)] at H; exact H)
             clear H
             have H := H1
             clear H1
             have H' := Aside0.mk H
             clear H
             go_wp2
             go_loopg [13] kj77 (fun kq v13 w' => ∃ (x13_5 : Int), v13 = .int .i64 x13_5 ∧ Aside0 (laws_FnLog.l1 kq l0 (wrap64 (1 + (Int.tmod t1518 5))) t1539 x13_5 t1513 t1514 = some true) ∧ Aside0 (kq ≤ kj77) ∧ Aside0 (Kd.S k45 45 w' w.heap.size (fun k_ => some k_ ≠ ((.slice Ao12 t1514.length co12) : Value).ownBlock ∧ k_ ≠ gb1517) v1541 t1539) ∧ Aside0 (Kd.R (Kd.int .u8) 5 w' w.heap.size (fun _ => True) (.slice Ao12 t1514.length co12) t1514) ∧ Aside0 (w'.heap[gb1517]? = some (.cells #[.int .u64 t1513, (.slice Ao12 t1514.length co12)] 45 (0, 0))) ∧ Aside0 (Below w.heap.size w w'))
             case atStart => exact ⟨(0), (by first | rfl | (simp; done) | (simp [*]; done)), H', ⟨Nat.le_refl _⟩, ⟨by (with_reducible repeat (first | apply Kd.S_alloc | apply Kd.S_drewN | apply Kd.S_drew)); exact HO_11.out⟩, ⟨by (with_reducible repeat (first | apply Kd.R_alloc | apply Kd.R_drewN | apply Kd.R_drew)); exact HO_1518001.out⟩, ⟨by (with_reducible repeat (first | refine blk_drewN ?_ _ | refine blk_drew ?_ | refine blk_alloc ?_ _)); exact BK1517.out⟩, ⟨by repeat (first | (with_reducible first | exact HB.out | apply below_alloc | apply pw_below_drewN | apply below_drew1 | refine below_set ?_ GE1517.out) | exact HB.out)⟩⟩
             case round => as_aux_lemma =>
              clear H'
              try clear c1
              try clear c2
              try clear p2
              try clear c3
              try clear c4
              try clear c5
              try clear q5
              try clear p6
              try clear c7
              try clear c8
              try clear c17
              try clear c17b0
              try clear c18
              try clear c29
              try clear c33
              try clear c33b0
              try clear c33b1
              try clear c34
              try clear c34b0
              try clear c34b1
              try clear c35
              try clear c38
              try clear c39
              try clear c40
              try clear c52
              try clear q57
              try clear c59
              try clear p64
              try clear c71
              try clear c81
              try clear c81b0
              try clear c81b1
              try clear c85
              try clear hcz53_0
              try clear hcz53_1
              try clear hcz56_0
              try clear hcz56_1
              try clear hcz72_0
              try clear hcz72_1
              try clear hcz75_0
              try clear hcz75_1
              try clear hcz83_0
              try clear hcz83_1
              try clear hfz53_0
              try clear hfz53_1
              try clear hfz56_0
              try clear hfz56_1
              try clear hfz72_0
              try clear hfz72_1
              try clear hfz75_0
              try clear hfz75_1
              try clear hfz83_0
              try clear hfz83_1
              try clear p2
              try clear p6
              try clear p64
              try clear q5
              try clear q57
              obtain ⟨x13_5, rfl, HA, HK5, HO_11, HO_1518001, BK1517, HB⟩ := hrel
              cases gk with
              | zero => exact absurd HA.out (by simp [laws_FnLog.l1])
              | succ k5 =>
               have H := HA.out
               clear HA
               simp only [laws_FnLog.l1] at H
               by_cases c86 : x13_5 < (wrap64 (1 + (Int.tmod t1518 5)))
               ·
                rw [if_pos c86] at H
                have c86b0 : decide (x13_5 < (wrap64 (1 + (Int.tmod t1518 5)))) = true := decide_eq_true c86
                clear c86
                by_cases c87 : 0 ≤ x13_5
                ·
                 rw [if_pos c87] at H
                 have c87b0 : decide (0 ≤ x13_5) = true := decide_eq_true c87
                 clear c87
                 by_cases c88 : x13_5 < (t1539.length : Int)
                 ·
                  rw [if_pos c88] at H
                  have c88b0 : decide (x13_5 < (t1539.length : Int)) = true := decide_eq_true c88
                  clear c88
                  by_cases c89 : ((rd_T45 t1539 x13_5).f0) = (IntKind.u64.wrap (t1513 + (IntKind.u64.wrap (x13_5))))
                  ·
                   rw [if_pos c89] at H
                   have c89b0 : (((rd_T45 t1539 x13_5).f0) == (IntKind.u64.wrap (t1513 + (IntKind.u64.wrap (x13_5))))) = true := beq_iff_eq.mpr c89
                   have c89b1 : (((rd_T45 t1539 x13_5).f0) != (IntKind.u64.wrap (t1513 + (IntKind.u64.wrap (x13_5))))) = false := bne_eq_false_iff_eq.mpr c89
                   clear c89
                   by_cases c90 : (((rd_T45 t1539 x13_5).f1).length : Int) = (wrap64 (1 + (t1514.length : Int)))
                   ·
                    rw [if_pos c90] at H
                    have c90b0 : ((((rd_T45 t1539 x13_5).f1).length : Int) == (wrap64 (1 + (t1514.length : Int)))) = true := beq_iff_eq.mpr c90
                    have c90b1 : ((((rd_T45 t1539 x13_5).f1).length : Int) != (wrap64 (1 + (t1514.length : Int)))) = false := bne_eq_false_iff_eq.mpr c90
                    clear c90
                    by_cases c91 : 0 < (((rd_T45 t1539 x13_5).f1).length : Int)
                    ·
                     rw [if_pos c91] at H
                     have c91b0 : decide (0 < (((rd_T45 t1539 x13_5).f1).length : Int)) = true := decide_eq_true c91
                     have c91b1 : decide (0 < ((rd_T45 t1539 x13_5).f1).length) = true := decide_eq_true (by omega)
                     clear c91
                     by_cases c92 : (rd ((rd_T45 t1539 x13_5).f1) 0) = ((x13_5) % 256)
                     ·
                      rw [if_pos c92] at H
                      have c92b0 : ((rd ((rd_T45 t1539 x13_5).f1) 0) == ((x13_5) % 256)) = true := beq_iff_eq.mpr c92
                      have c92b1 : ((rd ((rd_T45 t1539 x13_5).f1) 0) != ((x13_5) % 256)) = false := bne_eq_false_iff_eq.mpr c92
                      have c92b2 : ((rd ((rd_T45 t1539 x13_5).f1) 0) != (IntKind.u8.wrap x13_5)) = false := by rw [show IntKind.u8.wrap x13_5 = x13_5 % 256 from by simp [IntKind.wrap, IntKind.signed, IntKind.bits]]; exact c92b1
                      clear c92
                      by_cases c93 : 1 ≤ (((rd_T45 t1539 x13_5).f1).length : Int)
                      ·
                       rw [if_pos c93] at H
                       have c93b0 := eq_true c93
                       have c93b1 : decide (1 ≤ (((rd_T45 t1539 x13_5).f1).length : Int)) = true := decide_eq_true c93
                       clear c93
                       obtain ⟨y1548, hy1548⟩ : ∃ y_ : List Int, y_ = (((rd_T45 t1539 x13_5).f1).drop 1) := ⟨_, rfl⟩
                       replace H : ((laws_sameB.f k5 y1548 t1514).bind fun t1552 => (if t1552 = true then (laws_FnLog.l1 k5 l0 (wrap64 (1 + (Int.tmod t1518 5))) t1539 (wrap64 (x13_5 + 1)) t1513 t1514) else (some false))) = some true := by first | (rw [hy1548]; with_reducible exact H) | (have H2_ := (Option.bind_some _ _).symm.trans H; rw [hy1548]; with_reducible exact H2_) | (have H2_ := (Option.bind_some _ _).symm.trans H; with_reducible exact H2_) | with_reducible exact H | (rw [hy1548]; exact H) | exact H
                       have Ny1548 := Aside0.mk hy1548
                       clear hy1548
                       replace H := Option.bind_eq_some_iff.mp H
                       obtain ⟨t1552, A940, H⟩ := H
                       replace H : (if t1552 = true then (laws_FnLog.l1 k5 l0 (wrap64 (1 + (Int.tmod t1518 5))) t1539 (wrap64 (x13_5 + 1)) t1513 t1514) else (some false)) = some true := H
                       have A94 := Aside0.mk A940
                       clear A940
                       by_cases c95 : t1552 = true
                       ·
                        subst c95
                        have H1 : (laws_FnLog.l1 k5 l0 (wrap64 (1 + (Int.tmod t1518 5))) t1539 (wrap64 (x13_5 + 1)) t1513 t1514) = some true := by first | rfl | (rw [if_pos rfl] at H; exact H)
                        clear H
                        have H := H1
                        clear H1
                        have H' := Aside0.mk H
                        clear H
                        try go_wp2
                        have n0_ := Aside0.mk (Kd.S_drew HO_11.out)
                        have n1_ := Aside0.mk (Kd.R_drew HO_1518001.out)
                        have n2_ := Aside0.mk (blk_drew BK1517.out)
                        have n3_ := Aside0.mk (below_drew1 HB.out)
                        clear HO_11 HO_1518001 BK1517 HB
                        have HO_11 := n0_
                        have HO_1518001 := n1_
                        have BK1517 := n2_
                        have HB := n3_
                        clear n0_ n1_ n2_ n3_
                        obtain ⟨Ao97, co97, eo97⟩ := Kd.S_slice HO_11.out
                        (first | subst eo97 | (injection eo97 with f1_ f2_ f3_; have f4_ := f1_.symm; have f5_ := f3_.symm; clear f1_ f2_ f3_; subst f4_; subst f5_))
                        have p1543 : 0 ≤ (x13_5 : Int) := of_decide_eq_true (by first | (with_reducible assumption) | assumption)
                        have q1543 : x13_5 < (t1539.length : Int) := of_decide_eq_true (by first | (with_reducible assumption) | assumption)
                        obtain ⟨ad1543, A1543_1, c1543_1, e1543, hx1543_0, hx1543_1, hl1543_1, hi1543_1⟩ := at_T45 (Kd.S_reads' HO_11.out).2.2 x13_5 p1543 q1543
                        cases e1543
                        obtain ⟨ce1543, hce1543, hMe1543, hcc1543⟩ := Kd.S_get HO_11.out z45 x13_5 p1543 (by first | exact q1543 | exact of_decide_eq_true (by first | (with_reducible assumption) | assumption) | (have e_ := (Kd.S_reads' HO_11.out).1; omega))
                        obtain ⟨ve1543_1, rfl, ge1543_1⟩ := k45_openM hMe1543
                        have hv1543_1 := hcc1543 1 _ rfl
                        rw [add_field _ _ 1 (by omega)] at hv1543_1
                        replace hv1543_1 := Option.some.inj (hv1543_1.symm.trans hx1543_1)
                        rw [hv1543_1] at ge1543_1
                        have HL1543_1 := Aside0.mk (show Kd.R (Kd.int .u8) 5 _ _ _ _ ((rd_T45 t1539 x13_5).f1) from ge1543_1)
                        clear hv1543_1 ge1543_1 hcc1543 hce1543
                        have HR1543_1 := Aside0.mk hi1543_1
                        have HC1543_1 := Aside0.mk hl1543_1
                        clear hi1543_1 hl1543_1
                        replace p1543 := eq_true p1543
                        replace q1543 := eq_true q1543
                        have p1544 : 0 ≤ (x13_5 : Int) := of_decide_eq_true (by first | (with_reducible assumption) | assumption)
                        have q1544 : x13_5 < (t1539.length : Int) := of_decide_eq_true (by first | (with_reducible assumption) | assumption)
                        obtain ⟨ad1544, A1544_1, c1544_1, e1544, hx1544_0, hx1544_1, hl1544_1, hi1544_1⟩ := at_T45 (Kd.S_reads' HO_11.out).2.2 x13_5 p1544 q1544
                        obtain rfl : ad1543 = ad1544 := (by injection e1544)
                        obtain ⟨ce1544, hce1544, hMe1544, hcc1544⟩ := Kd.S_get HO_11.out z45 x13_5 p1544 (by first | exact q1544 | exact of_decide_eq_true (by first | (with_reducible assumption) | assumption) | (have e_ := (Kd.S_reads' HO_11.out).1; omega))
                        obtain ⟨ve1544_1, rfl, ge1544_1⟩ := k45_openM hMe1544
                        have hv1544_1 := hcc1544 1 _ rfl
                        rw [add_field _ _ 1 (by omega)] at hv1544_1
                        replace hv1544_1 := Option.some.inj (hv1544_1.symm.trans hx1544_1)
                        rw [hv1544_1] at ge1544_1
                        have HL1544_1 := Aside0.mk (show Kd.R (Kd.int .u8) 5 _ _ _ _ ((rd_T45 t1539 x13_5).f1) from ge1544_1)
                        clear hv1544_1 ge1544_1 hcc1544 hce1544
                        have HR1544_1 := Aside0.mk hi1544_1
                        have HC1544_1 := Aside0.mk hl1544_1
                        clear hi1544_1 hl1544_1
                        replace p1544 := eq_true p1544
                        replace q1544 := eq_true q1544
                        have ea_ := Option.some.inj (hx1543_1.symm.trans hx1544_1)
                        injection ea_ with ea_ en_ ec_
                        subst ea_
                        subst ec_
                        clear en_
                        have p1545 : 0 ≤ (x13_5 : Int) := of_decide_eq_true (by first | (with_reducible assumption) | assumption)
                        have q1545 : x13_5 < (t1539.length : Int) := of_decide_eq_true (by first | (with_reducible assumption) | assumption)
                        obtain ⟨ad1545, A1545_1, c1545_1, e1545, hx1545_0, hx1545_1, hl1545_1, hi1545_1⟩ := at_T45 (Kd.S_reads' HO_11.out).2.2 x13_5 p1545 q1545
                        obtain rfl : ad1543 = ad1545 := (by injection e1545)
                        obtain ⟨ce1545, hce1545, hMe1545, hcc1545⟩ := Kd.S_get HO_11.out z45 x13_5 p1545 (by first | exact q1545 | exact of_decide_eq_true (by first | (with_reducible assumption) | assumption) | (have e_ := (Kd.S_reads' HO_11.out).1; omega))
                        obtain ⟨ve1545_1, rfl, ge1545_1⟩ := k45_openM hMe1545
                        have hv1545_1 := hcc1545 1 _ rfl
                        rw [add_field _ _ 1 (by omega)] at hv1545_1
                        replace hv1545_1 := Option.some.inj (hv1545_1.symm.trans hx1545_1)
                        rw [hv1545_1] at ge1545_1
                        have HL1545_1 := Aside0.mk (show Kd.R (Kd.int .u8) 5 _ _ _ _ ((rd_T45 t1539 x13_5).f1) from ge1545_1)
                        clear hv1545_1 ge1545_1 hcc1545 hce1545
                        have HR1545_1 := Aside0.mk hi1545_1
                        have HC1545_1 := Aside0.mk hl1545_1
                        clear hi1545_1 hl1545_1
                        replace p1545 := eq_true p1545
                        replace q1545 := eq_true q1545
                        have ea_ := Option.some.inj (hx1543_1.symm.trans hx1545_1)
                        injection ea_ with ea_ en_ ec_
                        subst ea_
                        subst ec_
                        clear en_
                        have p1546 : 0 ≤ (0 : Int) := (by omega)
                        have q1546 : 0 < (((rd_T45 t1539 x13_5).f1).length : Int) := of_decide_eq_true (by first | (with_reducible assumption) | assumption)
                        obtain ⟨ad1546, e1546, hx1546_0⟩ := Kd.at_int (by repeat (first | (with_reducible exact HR1545_1.out) | (with_reducible refine Kd.C_alloc ?_ _) | (with_reducible refine Kd.C_drewN ?_ _) | (with_reducible refine Kd.C_drew ?_) | exact HR1545_1.out)) 0 p1546 q1546
                        cases e1546
                        have qi1546 : (0 < ((rd_T45 t1539 x13_5).f1).length) = True := eq_true (by omega)
                        (try rw [show ((0 : Int)).toNat = 0 from rfl] at hx1546_0)
                        (try rw [Addr.add_zero'] at hx1546_0)
                        replace p1546 := eq_true p1546
                        replace q1546 := eq_true q1546
                        have p1547 : 0 ≤ (x13_5 : Int) := of_decide_eq_true (by first | (with_reducible assumption) | assumption)
                        have q1547 : x13_5 < (t1539.length : Int) := of_decide_eq_true (by first | (with_reducible assumption) | assumption)
                        obtain ⟨ad1547, A1547_1, c1547_1, e1547, hx1547_0, hx1547_1, hl1547_1, hi1547_1⟩ := at_T45 (Kd.S_reads' HO_11.out).2.2 x13_5 p1547 q1547
                        obtain rfl : ad1543 = ad1547 := (by injection e1547)
                        obtain ⟨ce1547, hce1547, hMe1547, hcc1547⟩ := Kd.S_get HO_11.out z45 x13_5 p1547 (by first | exact q1547 | exact of_decide_eq_true (by first | (with_reducible assumption) | assumption) | (have e_ := (Kd.S_reads' HO_11.out).1; omega))
                        obtain ⟨ve1547_1, rfl, ge1547_1⟩ := k45_openM hMe1547
                        have hv1547_1 := hcc1547 1 _ rfl
                        rw [add_field _ _ 1 (by omega)] at hv1547_1
                        replace hv1547_1 := Option.some.inj (hv1547_1.symm.trans hx1547_1)
                        rw [hv1547_1] at ge1547_1
                        have HL1547_1 := Aside0.mk (show Kd.R (Kd.int .u8) 5 _ _ _ _ ((rd_T45 t1539 x13_5).f1) from ge1547_1)
                        clear hv1547_1 ge1547_1 hcc1547 hce1547
                        have HR1547_1 := Aside0.mk hi1547_1
                        have HC1547_1 := Aside0.mk hl1547_1
                        clear hi1547_1 hl1547_1
                        replace p1547 := eq_true p1547
                        replace q1547 := eq_true q1547
                        have ea_ := Option.some.inj (hx1543_1.symm.trans hx1547_1)
                        injection ea_ with ea_ en_ ec_
                        subst ea_
                        subst ec_
                        clear en_
                        have q98 : (1 : Int) ≤ ((((rd_T45 t1539 x13_5).f1).length : Int) : Int) := of_decide_eq_true (by first | (with_reducible assumption) | assumption)
                        obtain ⟨i098, hi098, _, hsz98, _⟩ := info_parts info5
                        have hroom98 : ((rd_T45 t1539 x13_5).f1).length ≤ c1543_1 := HC1547_1.out
                        have hC98 : Kd.C (Kd.int .u8) _ (some ad1546) ((rd_T45 t1539 x13_5).f1).length ((rd_T45 t1539 x13_5).f1) := (by repeat (first | (with_reducible exact HR1547_1.out) | (with_reducible refine Kd.C_alloc ?_ _) | (with_reducible refine Kd.C_drewN ?_ _) | (with_reducible refine Kd.C_drew ?_) | exact HR1547_1.out))
                        have hcut98 := cut_from (P := Try.prog) 22 5 .i64 Try.underlying22 hi098 1 hsz98 (some ad1546) ((rd_T45 t1539 x13_5).f1).length c1543_1 1 (by omega) q98
                        have hr98 := Kd.C_drop (m := (1 : Int).toNat) (c := c1543_1) hC98 (by omega) hroom98
                        obtain ⟨A98, hA98⟩ : ∃ A1, A1 = (if c1543_1 = (1 : Int).toNat then (some ad1546) else ((some ad1546) : Option Addr).map (·.add ((1 : Int).toNat * 1))) := ⟨_, rfl⟩
                        obtain ⟨c98, hc98⟩ : ∃ c1, c1 = c1543_1 - (1 : Int).toNat := ⟨_, rfl⟩
                        have hy98 : y1548.length = ((rd_T45 t1539 x13_5).f1).length - (1 : Int).toNat := (by rw [Ny1548.out, List.length_drop] <;> omega)
                        rw [show ((rd_T45 t1539 x13_5).f1).drop (1 : Int).toNat = y1548 from Ny1548.out.symm] at hr98
                        replace hr98 : Kd.C (Kd.int .u8) _ A98 y1548.length y1548 := (by rw [hA98]; exact hr98)
                        rw [← hy98, ← hA98, ← hc98] at hcut98
                        have HR1551 := Aside0.mk hr98
                        have HC1551 := Aside0.mk (show y1548.length ≤ c98 from by rw [hy98, hc98]; exact Nat.sub_le_sub_right hroom98 _)
                        clear hr98 hC98 hroom98 hi098 hsz98 hc98
                        have KY98 := Aside0.mk hy98
                        have KA98 := Aside0.mk hA98
                        clear hy98 hA98
                        replace q98 := eq_true q98
                        refine start_ (n := 48) (S := fun w' => w'.cell? ⟨gb1517, 0, none⟩ = some (.int .u64 t1513) ∧ w'.cell? ⟨gb1517, 1, none⟩ = some (.slice Ao12 t1514.length co12) ∧ w'.cell? (ad1543.add ((x13_5).toNat * 2)) = some (.int .u64 ((rd_T45 t1539 x13_5).f0)) ∧ w'.cell? ⟨(ad1543.add ((x13_5).toNat * 2)).block, (ad1543.add ((x13_5).toNat * 2)).off + 1, none⟩ = some (.slice (some ad1546) ((rd_T45 t1539 x13_5).f1).length c1543_1) ∧ w'.cell? (ad1543.add ((x13_5).toNat * 2)) = some (.int .u64 ((rd_T45 t1539 x13_5).f0)) ∧ w'.cell? ⟨(ad1543.add ((x13_5).toNat * 2)).block, (ad1543.add ((x13_5).toNat * 2)).off + 1, none⟩ = some (.slice (some ad1546) ((rd_T45 t1539 x13_5).f1).length c1543_1) ∧ w'.cell? (ad1543.add ((x13_5).toNat * 2)) = some (.int .u64 ((rd_T45 t1539 x13_5).f0)) ∧ w'.cell? ⟨(ad1543.add ((x13_5).toNat * 2)).block, (ad1543.add ((x13_5).toNat * 2)).off + 1, none⟩ = some (.slice (some ad1546) ((rd_T45 t1539 x13_5).f1).length c1543_1) ∧ w'.cell? ad1546 = some (.int .u8 (rd ((rd_T45 t1539 x13_5).f1) 0)) ∧ w'.cell? (ad1543.add ((x13_5).toNat * 2)) = some (.int .u64 ((rd_T45 t1539 x13_5).f0)) ∧ w'.cell? ⟨(ad1543.add ((x13_5).toNat * 2)).block, (ad1543.add ((x13_5).toNat * 2)).off + 1, none⟩ = some (.slice (some ad1546) ((rd_T45 t1539 x13_5).f1).length c1543_1)) (ds := []) #[F, F, F, F, F, F, F, F, F, F, F, F, F, F, F, F, F, F, F, F, F, F, F, F, F, F, F, F, F, F, F, F, F, F, F, F, F, F, F, F, F, F, F, F, F, F, F, F] (by kernel_rfl) rfl rfl ⟨(blk_cell BK1517.out 0).trans rfl, (blk_cell BK1517.out 1).trans rfl, hx1543_0, hx1543_1, hx1544_0, hx1544_1, hx1545_0, hx1545_1, hx1546_0, hx1547_0, hx1547_1⟩ (fun hHeld => ?_); refine with_tabW laws_FnLog.tab26 laws_FnLog.bits26 (fun HT_ HW_ => ?_)
                        generalize wr.drew = w96 at HO_11 HO_1518001 BK1517 HB HL1543_1 HL1544_1 HL1545_1 HL1547_1 HR1543_1 HR1544_1 HR1545_1 HR1547_1 HR1551 hx1543_0 hx1543_1 hx1544_0 hx1544_1 hx1545_0 hx1545_1 hx1546_0 hx1547_0 hx1547_1 hHeld ⊢
                        refine pure_ (i := 0) (N := some 111) (v := ?_) (a' := ?_) #[T, F, F, F, F, F, F, F, F, F, F, F, F, F, F, F, F, F, F, F, F, F, F, F, F, F, F, F, F, F, F, F, F, F, F, F, F, F, F, F, F, F, F, F, F, F, F, F] rfl rfl (any_of HT_.out (by kernel_rfl)) (fun _ _ _ h => h) (Or.inl ⟨by rfl, ?_⟩) ?_ ?_
                        rotate_left; (intro w'; go_simp; with_reducible rfl); rotate_left; (simp only [Act.put, List.setIfInBounds_toArray, List.set_cons_zero, List.set_cons_succ, i64_w, i32_w]; rfl)
                        refine pure_ (i := 1) (N := some 112) (v := ?_) (a' := ?_) #[T, T, F, F, F, F, F, F, F, F, F, F, F, F, F, F, F, F, F, F, F, F, F, F, F, F, F, F, F, F, F, F, F, F, F, F, F, F, F, F, F, F, F, F, F, F, F, F] rfl rfl (any_of HT_.out (by kernel_rfl)) (fun _ _ _ h => h) (Or.inl ⟨by rfl, ?_⟩) ?_ ?_
                        rotate_left; (intro w'; go_simp; with_reducible rfl); rotate_left; (simp only [Act.put, List.setIfInBounds_toArray, List.set_cons_zero, List.set_cons_succ, i64_w, i32_w]; rfl)
                        refine pure_ (i := 2) (N := some 113) (v := ?_) (a' := ?_) #[T, T, T, F, F, F, F, F, F, F, F, F, F, F, F, F, F, F, F, F, F, F, F, F, F, F, F, F, F, F, F, F, F, F, F, F, F, F, F, F, F, F, F, F, F, F, F, F] rfl rfl (any_of HT_.out (by kernel_rfl)) (fun _ _ _ h => h) (Or.inl ⟨by rfl, ?_⟩) ?_ ?_
                        rotate_left; (intro w'; go_simp; with_reducible rfl); rotate_left; (simp only [Act.put, List.setIfInBounds_toArray, List.set_cons_zero, List.set_cons_succ, i64_w, i32_w]; rfl)
                        refine pure_ (i := 3) (N := some 114) (v := ?_) (a' := ?_) #[T, T, T, T, F, F, F, F, F, F, F, F, F, F, F, F, F, F, F, F, F, F, F, F, F, F, F, F, F, F, F, F, F, F, F, F, F, F, F, F, F, F, F, F, F, F, F, F] rfl rfl (any_of HT_.out (by kernel_rfl)) (fun _ _ _ h => h) (Or.inl ⟨by rfl, ?_⟩) ?_ ?_
                        rotate_left; (intro w'; go_simp; with_reducible rfl); rotate_left; (simp only [Act.put, List.setIfInBounds_toArray, List.set_cons_zero, List.set_cons_succ, i64_w, i32_w]; rfl)
                        refine pure_ (i := 5) (N := some 116) (v := ?_) (a' := ?_) #[T, T, T, T, F, T, F, F, F, F, F, F, F, F, F, F, F, F, F, F, F, F, F, F, F, F, F, F, F, F, F, F, F, F, F, F, F, F, F, F, F, F, F, F, F, F, F, F] rfl rfl (any_of HT_.out (by kernel_rfl)) (fun _ _ _ h => h) (Or.inl ⟨by rfl, ?_⟩) ?_ ?_
                        rotate_left; (intro w'; go_simp; with_reducible rfl); rotate_left; (simp only [Act.put, List.setIfInBounds_toArray, List.set_cons_zero, List.set_cons_succ, i64_w, i32_w]; rfl)
                        refine pure_ (i := 7) (N := some 118) (v := ?_) (a' := ?_) #[T, T, T, T, F, T, F, T, F, F, F, F, F, F, F, F, F, F, F, F, F, F, F, F, F, F, F, F, F, F, F, F, F, F, F, F, F, F, F, F, F, F, F, F, F, F, F, F] rfl rfl (any_of HT_.out (by kernel_rfl)) (fun _ _ _ h => h) (Or.inl ⟨by rfl, ?_⟩) ?_ ?_
                        rotate_left; (intro w'; go_simp; with_reducible rfl); rotate_left; (simp only [Act.put, List.setIfInBounds_toArray, List.set_cons_zero, List.set_cons_succ, i64_w, i32_w]; rfl)
                        refine pure_ (i := 8) (N := some 119) (v := ?_) (a' := ?_) #[T, T, T, T, F, T, F, T, T, F, F, F, F, F, F, F, F, F, F, F, F, F, F, F, F, F, F, F, F, F, F, F, F, F, F, F, F, F, F, F, F, F, F, F, F, F, F, F] rfl rfl (any_of HT_.out (by kernel_rfl)) (fun _ _ _ h => h) (Or.inl ⟨by rfl, ?_⟩) ?_ ?_
                        rotate_left; (intro w'; go_simp; with_reducible rfl); rotate_left; (simp only [Act.put, List.setIfInBounds_toArray, List.set_cons_zero, List.set_cons_succ, i64_w, i32_w]; rfl)
                        refine take_ (i := 4) (N := some 115) (v := ?_) (a' := ?_) #[T, T, T, T, T, T, F, T, T, F, F, F, F, F, F, F, F, F, F, F, F, F, F, F, F, F, F, F, F, F, F, F, F, F, F, F, F, F, F, F, F, F, F, F, F, F, F, F] rfl rfl (take_ofW HT_.out HW_.out (by kernel_rfl)) (fun _ _ _ h => h) (Or.inl ⟨by rfl, ?_⟩) hHeld ?_ ?_
                        rotate_left; (rintro w' ⟨s0, s1, s2, s3, s4, s5, s6, s7, s8, s9, s10⟩; go_simp; with_reducible rfl); rotate_left; (simp only [Act.put, List.setIfInBounds_toArray, List.set_cons_zero, List.set_cons_succ, i64_w, i32_w]; rfl)
                        refine take_ (i := 6) (N := some 117) (v := ?_) (a' := ?_) #[T, T, T, T, T, T, T, T, T, F, F, F, F, F, F, F, F, F, F, F, F, F, F, F, F, F, F, F, F, F, F, F, F, F, F, F, F, F, F, F, F, F, F, F, F, F, F, F] rfl rfl (take_ofW HT_.out HW_.out (by kernel_rfl)) (fun _ _ _ h => h) (Or.inl ⟨by rfl, ?_⟩) hHeld ?_ ?_
                        rotate_left; (rintro w' ⟨s0, s1, s2, s3, s4, s5, s6, s7, s8, s9, s10⟩; go_simp; with_reducible rfl); rotate_left; (simp only [Act.put, List.setIfInBounds_toArray, List.set_cons_zero, List.set_cons_succ, i64_w, i32_w]; rfl)
                        refine pure_ (i := 9) (N := some 120) (v := ?_) (a' := ?_) #[T, T, T, T, T, T, T, T, T, T, F, F, F, F, F, F, F, F, F, F, F, F, F, F, F, F, F, F, F, F, F, F, F, F, F, F, F, F, F, F, F, F, F, F, F, F, F, F] rfl rfl (any_of HT_.out (by kernel_rfl)) (fun _ _ _ h => h) (Or.inl ⟨by rfl, ?_⟩) ?_ ?_
                        rotate_left; (intro w'; go_simp; with_reducible rfl); rotate_left; (simp only [Act.put, List.setIfInBounds_toArray, List.set_cons_zero, List.set_cons_succ, i64_w, i32_w]; rfl)
                        refine pure_ (i := 10) (N := some 121) (v := ?_) (a' := ?_) #[T, T, T, T, T, T, T, T, T, T, T, F, F, F, F, F, F, F, F, F, F, F, F, F, F, F, F, F, F, F, F, F, F, F, F, F, F, F, F, F, F, F, F, F, F, F, F, F] rfl rfl (any_of HT_.out (by kernel_rfl)) (fun _ _ _ h => h) (Or.inl ⟨by rfl, ?_⟩) ?_ ?_
                        rotate_left; (intro w'; go_simp; with_reducible rfl); rotate_left; (simp only [Act.put, List.setIfInBounds_toArray, List.set_cons_zero, List.set_cons_succ, i64_w, i32_w]; rfl)
                        refine pure_ (i := 11) (N := some 122) (v := ?_) (a' := ?_) #[T, T, T, T, T, T, T, T, T, T, T, T, F, F, F, F, F, F, F, F, F, F, F, F, F, F, F, F, F, F, F, F, F, F, F, F, F, F, F, F, F, F, F, F, F, F, F, F] rfl rfl (any_of HT_.out (by kernel_rfl)) (fun _ _ _ h => h) (Or.inl ⟨by rfl, ?_⟩) ?_ ?_
                        rotate_left; (intro w'; go_simp; with_reducible rfl); rotate_left; (simp only [Act.put, List.setIfInBounds_toArray, List.set_cons_zero, List.set_cons_succ, i64_w, i32_w]; rfl)
                        refine pure_ (i := 12) (N := some 123) (v := ?_) (a' := ?_) #[T, T, T, T, T, T, T, T, T, T, T, T, T, F, F, F, F, F, F, F, F, F, F, F, F, F, F, F, F, F, F, F, F, F, F, F, F, F, F, F, F, F, F, F, F, F, F, F] rfl rfl (any_of HT_.out (by kernel_rfl)) (fun _ _ _ h => h) (Or.inl ⟨by rfl, ?_⟩) ?_ ?_
                        rotate_left; (intro w'; go_simp; with_reducible rfl); rotate_left; (simp only [Act.put, List.setIfInBounds_toArray, List.set_cons_zero, List.set_cons_succ, i64_w, i32_w]; rfl)
                        refine pure_ (i := 13) (N := some 124) (v := ?_) (a' := ?_) #[T, T, T, T, T, T, T, T, T, T, T, T, T, T, F, F, F, F, F, F, F, F, F, F, F, F, F, F, F, F, F, F, F, F, F, F, F, F, F, F, F, F, F, F, F, F, F, F] rfl rfl (any_of HT_.out (by kernel_rfl)) (fun _ _ _ h => h) (Or.inl ⟨by rfl, ?_⟩) ?_ ?_
                        rotate_left; (intro w'; go_simp; with_reducible rfl); rotate_left; (simp only [Act.put, List.setIfInBounds_toArray, List.set_cons_zero, List.set_cons_succ, i64_w, i32_w]; rfl)
                        refine pure_ (i := 14) (N := some 125) (v := ?_) (a' := ?_) #[T, T, T, T, T, T, T, T, T, T, T, T, T, T, T, F, F, F, F, F, F, F, F, F, F, F, F, F, F, F, F, F, F, F, F, F, F, F, F, F, F, F, F, F, F, F, F, F] rfl rfl (any_of HT_.out (by kernel_rfl)) (fun _ _ _ h => h) (Or.inl ⟨by rfl, ?_⟩) ?_ ?_
                        rotate_left; (intro w'; go_simp; with_reducible rfl); rotate_left; (simp only [Act.put, List.setIfInBounds_toArray, List.set_cons_zero, List.set_cons_succ, i64_w, i32_w]; rfl)
                        refine pure_ (i := 15) (N := some 126) (v := ?_) (a' := ?_) #[T, T, T, T, T, T, T, T, T, T, T, T, T, T, T, T, F, F, F, F, F, F, F, F, F, F, F, F, F, F, F, F, F, F, F, F, F, F, F, F, F, F, F, F, F, F, F, F] rfl rfl (any_of HT_.out (by kernel_rfl)) (fun _ _ _ h => h) (Or.inl ⟨by rfl, ?_⟩) ?_ ?_
                        rotate_left; (intro w'; go_simp; with_reducible rfl); rotate_left; (simp only [Act.put, List.setIfInBounds_toArray, List.set_cons_zero, List.set_cons_succ, i64_w, i32_w]; rfl)
                        refine pure_ (i := 18) (N := some 129) (v := ?_) (a' := ?_) #[T, T, T, T, T, T, T, T, T, T, T, T, T, T, T, T, F, F, T, F, F, F, F, F, F, F, F, F, F, F, F, F, F, F, F, F, F, F, F, F, F, F, F, F, F, F, F, F] rfl rfl (any_of HT_.out (by kernel_rfl)) (fun _ _ _ h => h) (Or.inl ⟨by rfl, ?_⟩) ?_ ?_
                        rotate_left; (intro w'; go_simp; with_reducible rfl); rotate_left; (simp only [Act.put, List.setIfInBounds_toArray, List.set_cons_zero, List.set_cons_succ, i64_w, i32_w]; rfl)
                        refine take_ (i := 16) (N := some 127) (v := ?_) (a' := ?_) #[T, T, T, T, T, T, T, T, T, T, T, T, T, T, T, T, T, F, T, F, F, F, F, F, F, F, F, F, F, F, F, F, F, F, F, F, F, F, F, F, F, F, F, F, F, F, F, F] rfl rfl (take_ofW HT_.out HW_.out (by kernel_rfl)) (fun _ _ _ h => h) (Or.inl ⟨by rfl, ?_⟩) hHeld ?_ ?_
                        rotate_left; (rintro w' ⟨s0, s1, s2, s3, s4, s5, s6, s7, s8, s9, s10⟩; go_simp; with_reducible rfl); rotate_left; (simp only [Act.put, List.setIfInBounds_toArray, List.set_cons_zero, List.set_cons_succ, i64_w, i32_w]; rfl)
                        refine pure_ (i := 17) (N := some 128) (v := ?_) (a' := ?_) #[T, T, T, T, T, T, T, T, T, T, T, T, T, T, T, T, T, T, T, F, F, F, F, F, F, F, F, F, F, F, F, F, F, F, F, F, F, F, F, F, F, F, F, F, F, F, F, F] rfl rfl (any_of HT_.out (by kernel_rfl)) (fun _ _ _ h => h) (Or.inl ⟨by rfl, ?_⟩) ?_ ?_
                        rotate_left; (intro w'; go_simp; with_reducible rfl); rotate_left; (simp only [Act.put, List.setIfInBounds_toArray, List.set_cons_zero, List.set_cons_succ, i64_w, i32_w]; rfl)
                        refine take_ (i := 19) (N := some 130) (v := ?_) (a' := ?_) #[T, T, T, T, T, T, T, T, T, T, T, T, T, T, T, T, T, T, T, T, F, F, F, F, F, F, F, F, F, F, F, F, F, F, F, F, F, F, F, F, F, F, F, F, F, F, F, F] rfl rfl (take_ofW HT_.out HW_.out (by kernel_rfl)) (fun _ _ _ h => h) (Or.inl ⟨by rfl, ?_⟩) hHeld ?_ ?_
                        rotate_left; (rintro w' ⟨s0, s1, s2, s3, s4, s5, s6, s7, s8, s9, s10⟩; go_simp; with_reducible rfl); rotate_left; (simp only [Act.put, List.setIfInBounds_toArray, List.set_cons_zero, List.set_cons_succ, i64_w, i32_w]; rfl)
                        refine pure_ (i := 20) (N := some 131) (v := ?_) (a' := ?_) #[T, T, T, T, T, T, T, T, T, T, T, T, T, T, T, T, T, T, T, T, T, F, F, F, F, F, F, F, F, F, F, F, F, F, F, F, F, F, F, F, F, F, F, F, F, F, F, F] rfl rfl (any_of HT_.out (by kernel_rfl)) (fun _ _ _ h => h) (Or.inl ⟨by rfl, ?_⟩) ?_ ?_
                        rotate_left; (intro w'; go_simp; with_reducible rfl); rotate_left; (simp only [Act.put, List.setIfInBounds_toArray, List.set_cons_zero, List.set_cons_succ, i64_w, i32_w]; rfl)
                        refine pure_ (i := 21) (N := some 132) (v := ?_) (a' := ?_) #[T, T, T, T, T, T, T, T, T, T, T, T, T, T, T, T, T, T, T, T, T, T, F, F, F, F, F, F, F, F, F, F, F, F, F, F, F, F, F, F, F, F, F, F, F, F, F, F] rfl rfl (any_of HT_.out (by kernel_rfl)) (fun _ _ _ h => h) (Or.inl ⟨by rfl, ?_⟩) ?_ ?_
                        rotate_left; (intro w'; go_simp; with_reducible rfl); rotate_left; (simp only [Act.put, List.setIfInBounds_toArray, List.set_cons_zero, List.set_cons_succ, i64_w, i32_w]; rfl)
                        refine pure_ (i := 22) (N := some 133) (v := ?_) (a' := ?_) #[T, T, T, T, T, T, T, T, T, T, T, T, T, T, T, T, T, T, T, T, T, T, T, F, F, F, F, F, F, F, F, F, F, F, F, F, F, F, F, F, F, F, F, F, F, F, F, F] rfl rfl (any_of HT_.out (by kernel_rfl)) (fun _ _ _ h => h) (Or.inl ⟨by rfl, ?_⟩) ?_ ?_
                        rotate_left; (intro w'; go_simp; with_reducible rfl); rotate_left; (simp only [Act.put, List.setIfInBounds_toArray, List.set_cons_zero, List.set_cons_succ, i64_w, i32_w]; rfl)
                        refine pure_ (i := 23) (N := some 134) (v := ?_) (a' := ?_) #[T, T, T, T, T, T, T, T, T, T, T, T, T, T, T, T, T, T, T, T, T, T, T, T, F, F, F, F, F, F, F, F, F, F, F, F, F, F, F, F, F, F, F, F, F, F, F, F] rfl rfl (any_of HT_.out (by kernel_rfl)) (fun _ _ _ h => h) (Or.inl ⟨by rfl, ?_⟩) ?_ ?_
                        rotate_left; (intro w'; go_simp; with_reducible rfl); rotate_left; (simp only [Act.put, List.setIfInBounds_toArray, List.set_cons_zero, List.set_cons_succ, i64_w, i32_w]; rfl)
                        refine pure_ (i := 24) (N := some 135) (v := ?_) (a' := ?_) #[T, T, T, T, T, T, T, T, T, T, T, T, T, T, T, T, T, T, T, T, T, T, T, T, T, F, F, F, F, F, F, F, F, F, F, F, F, F, F, F, F, F, F, F, F, F, F, F] rfl rfl (any_of HT_.out (by kernel_rfl)) (fun _ _ _ h => h) (Or.inl ⟨by rfl, ?_⟩) ?_ ?_
                        rotate_left; (intro w'; go_simp; with_reducible rfl); rotate_left; (simp only [Act.put, List.setIfInBounds_toArray, List.set_cons_zero, List.set_cons_succ, i64_w, i32_w]; rfl)
                        refine pure_ (i := 25) (N := some 136) (v := ?_) (a' := ?_) #[T, T, T, T, T, T, T, T, T, T, T, T, T, T, T, T, T, T, T, T, T, T, T, T, T, T, F, F, F, F, F, F, F, F, F, F, F, F, F, F, F, F, F, F, F, F, F, F] rfl rfl (any_of HT_.out (by kernel_rfl)) (fun _ _ _ h => h) (Or.inl ⟨by rfl, ?_⟩) ?_ ?_
                        rotate_left; (intro w'; go_simp; with_reducible rfl); rotate_left; (simp only [Act.put, List.setIfInBounds_toArray, List.set_cons_zero, List.set_cons_succ, i64_w, i32_w]; rfl)
                        refine pure_ (i := 26) (N := some 137) (v := ?_) (a' := ?_) #[T, T, T, T, T, T, T, T, T, T, T, T, T, T, T, T, T, T, T, T, T, T, T, T, T, T, T, F, F, F, F, F, F, F, F, F, F, F, F, F, F, F, F, F, F, F, F, F] rfl rfl (any_of HT_.out (by kernel_rfl)) (fun _ _ _ h => h) (Or.inl ⟨by rfl, ?_⟩) ?_ ?_
                        rotate_left; (intro w'; go_simp; with_reducible rfl); rotate_left; (simp only [Act.put, List.setIfInBounds_toArray, List.set_cons_zero, List.set_cons_succ, i64_w, i32_w]; rfl)
                        refine pure_ (i := 27) (N := some 138) (v := ?_) (a' := ?_) #[T, T, T, T, T, T, T, T, T, T, T, T, T, T, T, T, T, T, T, T, T, T, T, T, T, T, T, T, F, F, F, F, F, F, F, F, F, F, F, F, F, F, F, F, F, F, F, F] rfl rfl (any_of HT_.out (by kernel_rfl)) (fun _ _ _ h => h) (Or.inl ⟨by rfl, ?_⟩) ?_ ?_
                        rotate_left; (intro w'; go_simp; with_reducible rfl); rotate_left; (simp only [Act.put, List.setIfInBounds_toArray, List.set_cons_zero, List.set_cons_succ, i64_w, i32_w]; rfl)
                        refine pure_ (i := 28) (N := some 139) (v := ?_) (a' := ?_) #[T, T, T, T, T, T, T, T, T, T, T, T, T, T, T, T, T, T, T, T, T, T, T, T, T, T, T, T, T, F, F, F, F, F, F, F, F, F, F, F, F, F, F, F, F, F, F, F] rfl rfl (any_of HT_.out (by kernel_rfl)) (fun _ _ _ h => h) (Or.inl ⟨by rfl, ?_⟩) ?_ ?_
                        rotate_left; (intro w'; go_simp; with_reducible rfl); rotate_left; (simp only [Act.put, List.setIfInBounds_toArray, List.set_cons_zero, List.set_cons_succ, i64_w, i32_w]; rfl)
                        refine pure_ (i := 32) (N := some 143) (v := ?_) (a' := ?_) #[T, T, T, T, T, T, T, T, T, T, T, T, T, T, T, T, T, T, T, T, T, T, T, T, T, T, T, T, T, F, F, F, T, F, F, F, F, F, F, F, F, F, F, F, F, F, F, F] rfl rfl (any_of HT_.out (by kernel_rfl)) (fun _ _ _ h => h) (Or.inl ⟨by rfl, ?_⟩) ?_ ?_
                        rotate_left; (intro w'; go_simp; with_reducible rfl); rotate_left; (simp only [Act.put, List.setIfInBounds_toArray, List.set_cons_zero, List.set_cons_succ, i64_w, i32_w]; rfl)
                        refine pure_ (i := 33) (N := some 144) (v := ?_) (a' := ?_) #[T, T, T, T, T, T, T, T, T, T, T, T, T, T, T, T, T, T, T, T, T, T, T, T, T, T, T, T, T, F, F, F, T, T, F, F, F, F, F, F, F, F, F, F, F, F, F, F] rfl rfl (any_of HT_.out (by kernel_rfl)) (fun _ _ _ h => h) (Or.inl ⟨by rfl, ?_⟩) ?_ ?_
                        rotate_left; (intro w'; go_simp; with_reducible rfl); rotate_left; (simp only [Act.put, List.setIfInBounds_toArray, List.set_cons_zero, List.set_cons_succ, i64_w, i32_w]; rfl)
                        refine take_ (i := 29) (N := some 140) (v := ?_) (a' := ?_) #[T, T, T, T, T, T, T, T, T, T, T, T, T, T, T, T, T, T, T, T, T, T, T, T, T, T, T, T, T, T, F, F, T, T, F, F, F, F, F, F, F, F, F, F, F, F, F, F] rfl rfl (take_ofW HT_.out HW_.out (by kernel_rfl)) (fun _ _ _ h => h) (Or.inl ⟨by rfl, ?_⟩) hHeld ?_ ?_
                        rotate_left; (rintro w' ⟨s0, s1, s2, s3, s4, s5, s6, s7, s8, s9, s10⟩; go_simp; with_reducible rfl); rotate_left; (simp only [Act.put, List.setIfInBounds_toArray, List.set_cons_zero, List.set_cons_succ, i64_w, i32_w]; rfl)
                        refine pure_ (i := 30) (N := some 141) (v := ?_) (a' := ?_) #[T, T, T, T, T, T, T, T, T, T, T, T, T, T, T, T, T, T, T, T, T, T, T, T, T, T, T, T, T, T, T, F, T, T, F, F, F, F, F, F, F, F, F, F, F, F, F, F] rfl rfl (any_of HT_.out (by kernel_rfl)) (fun _ _ _ h => h) (Or.inl ⟨by rfl, ?_⟩) ?_ ?_
                        rotate_left; (intro w'; go_simp; with_reducible rfl); rotate_left; (simp only [Act.put, List.setIfInBounds_toArray, List.set_cons_zero, List.set_cons_succ, i64_w, i32_w]; rfl)
                        refine take_ (i := 31) (N := some 142) (v := ?_) (a' := ?_) #[T, T, T, T, T, T, T, T, T, T, T, T, T, T, T, T, T, T, T, T, T, T, T, T, T, T, T, T, T, T, T, T, T, T, F, F, F, F, F, F, F, F, F, F, F, F, F, F] rfl rfl (take_ofW HT_.out HW_.out (by kernel_rfl)) (fun _ _ _ h => h) (Or.inl ⟨by rfl, ?_⟩) hHeld ?_ ?_
                        rotate_left; (rintro w' ⟨s0, s1, s2, s3, s4, s5, s6, s7, s8, s9, s10⟩; go_simp; with_reducible rfl); rotate_left; (simp only [Act.put, List.setIfInBounds_toArray, List.set_cons_zero, List.set_cons_succ, i64_w, i32_w]; rfl)
                        refine pure_ (i := 34) (N := some 145) (v := ?_) (a' := ?_) #[T, T, T, T, T, T, T, T, T, T, T, T, T, T, T, T, T, T, T, T, T, T, T, T, T, T, T, T, T, T, T, T, T, T, T, F, F, F, F, F, F, F, F, F, F, F, F, F] rfl rfl (any_of HT_.out (by kernel_rfl)) (fun _ _ _ h => h) (Or.inl ⟨by rfl, ?_⟩) ?_ ?_
                        rotate_left; (intro w'; go_simp; with_reducible rfl); rotate_left; (simp only [Act.put, List.setIfInBounds_toArray, List.set_cons_zero, List.set_cons_succ, i64_w, i32_w]; rfl)
                        refine pure_ (i := 35) (N := some 146) (v := ?_) (a' := ?_) #[T, T, T, T, T, T, T, T, T, T, T, T, T, T, T, T, T, T, T, T, T, T, T, T, T, T, T, T, T, T, T, T, T, T, T, T, F, F, F, F, F, F, F, F, F, F, F, F] rfl rfl (any_of HT_.out (by kernel_rfl)) (fun _ _ _ h => h) (Or.inl ⟨by rfl, ?_⟩) ?_ ?_
                        rotate_left; (intro w'; go_simp; with_reducible rfl); rotate_left; (simp only [Act.put, List.setIfInBounds_toArray, List.set_cons_zero, List.set_cons_succ, i64_w, i32_w]; rfl)
                        refine pure_ (i := 36) (N := some 147) (v := ?_) (a' := ?_) #[T, T, T, T, T, T, T, T, T, T, T, T, T, T, T, T, T, T, T, T, T, T, T, T, T, T, T, T, T, T, T, T, T, T, T, T, T, F, F, F, F, F, F, F, F, F, F, F] rfl rfl (any_of HT_.out (by kernel_rfl)) (fun _ _ _ h => h) (Or.inl ⟨by rfl, ?_⟩) ?_ ?_
                        rotate_left; (intro w'; go_simp; with_reducible rfl); rotate_left; (simp only [Act.put, List.setIfInBounds_toArray, List.set_cons_zero, List.set_cons_succ, i64_w, i32_w]; rfl)
                        refine pure_ (i := 37) (N := some 148) (v := ?_) (a' := ?_) #[T, T, T, T, T, T, T, T, T, T, T, T, T, T, T, T, T, T, T, T, T, T, T, T, T, T, T, T, T, T, T, T, T, T, T, T, T, T, F, F, F, F, F, F, F, F, F, F] rfl rfl (any_of HT_.out (by kernel_rfl)) (fun _ _ _ h => h) (Or.inl ⟨by rfl, ?_⟩) ?_ ?_
                        rotate_left; (intro w'; go_simp; with_reducible rfl); rotate_left; (simp only [Act.put, List.setIfInBounds_toArray, List.set_cons_zero, List.set_cons_succ, i64_w, i32_w]; rfl)
                        refine pure_ (i := 38) (N := some 149) (v := ?_) (a' := ?_) #[T, T, T, T, T, T, T, T, T, T, T, T, T, T, T, T, T, T, T, T, T, T, T, T, T, T, T, T, T, T, T, T, T, T, T, T, T, T, T, F, F, F, F, F, F, F, F, F] rfl rfl (any_of HT_.out (by kernel_rfl)) (fun _ _ _ h => h) (Or.inl ⟨by rfl, ?_⟩) ?_ ?_
                        rotate_left; (intro w'; go_simp; with_reducible rfl); rotate_left; (simp only [Act.put, List.setIfInBounds_toArray, List.set_cons_zero, List.set_cons_succ, i64_w, i32_w]; rfl)
                        refine pure_ (i := 39) (N := some 150) (v := ?_) (a' := ?_) #[T, T, T, T, T, T, T, T, T, T, T, T, T, T, T, T, T, T, T, T, T, T, T, T, T, T, T, T, T, T, T, T, T, T, T, T, T, T, T, T, F, F, F, F, F, F, F, F] rfl rfl (any_of HT_.out (by kernel_rfl)) (fun _ _ _ h => h) (Or.inl ⟨by rfl, ?_⟩) ?_ ?_
                        rotate_left; (intro w'; go_simp; with_reducible rfl); rotate_left; (simp only [Act.put, List.setIfInBounds_toArray, List.set_cons_zero, List.set_cons_succ, i64_w, i32_w]; rfl)
                        refine pure_ (i := 40) (N := some 151) (v := ?_) (a' := ?_) #[T, T, T, T, T, T, T, T, T, T, T, T, T, T, T, T, T, T, T, T, T, T, T, T, T, T, T, T, T, T, T, T, T, T, T, T, T, T, T, T, T, F, F, F, F, F, F, F] rfl rfl (any_of HT_.out (by kernel_rfl)) (fun _ _ _ h => h) (Or.inl ⟨by rfl, ?_⟩) ?_ ?_
                        rotate_left; (intro w'; go_simp; with_reducible rfl); rotate_left; (simp only [Act.put, List.setIfInBounds_toArray, List.set_cons_zero, List.set_cons_succ, i64_w, i32_w]; rfl)
                        refine pure_ (i := 43) (N := some 154) (v := ?_) (a' := ?_) #[T, T, T, T, T, T, T, T, T, T, T, T, T, T, T, T, T, T, T, T, T, T, T, T, T, T, T, T, T, T, T, T, T, T, T, T, T, T, T, T, T, F, F, T, F, F, F, F] rfl rfl (any_of HT_.out (by kernel_rfl)) (fun _ _ _ h => h) (Or.inl ⟨by rfl, ?_⟩) ?_ ?_
                        rotate_left; (intro w'; go_simp; with_reducible rfl); rotate_left; (simp only [Act.put, List.setIfInBounds_toArray, List.set_cons_zero, List.set_cons_succ, i64_w, i32_w]; rfl)
                        refine take_ (i := 41) (N := some 152) (v := ?_) (a' := ?_) #[T, T, T, T, T, T, T, T, T, T, T, T, T, T, T, T, T, T, T, T, T, T, T, T, T, T, T, T, T, T, T, T, T, T, T, T, T, T, T, T, T, T, F, T, F, F, F, F] rfl rfl (take_ofW HT_.out HW_.out (by kernel_rfl)) (fun _ _ _ h => h) (Or.inl ⟨by rfl, ?_⟩) hHeld ?_ ?_
                        rotate_left; (rintro w' ⟨s0, s1, s2, s3, s4, s5, s6, s7, s8, s9, s10⟩; go_simp; with_reducible rfl); rotate_left; (simp only [Act.put, List.setIfInBounds_toArray, List.set_cons_zero, List.set_cons_succ, i64_w, i32_w]; rfl)
                        refine pure_ (i := 42) (N := some 153) (v := ?_) (a' := ?_) #[T, T, T, T, T, T, T, T, T, T, T, T, T, T, T, T, T, T, T, T, T, T, T, T, T, T, T, T, T, T, T, T, T, T, T, T, T, T, T, T, T, T, T, T, F, F, F, F] rfl rfl (any_of HT_.out (by kernel_rfl)) (fun _ _ _ h => h) (Or.inl ⟨by rfl, ?_⟩) ?_ ?_
                        rotate_left; (intro w'; go_simp; with_reducible rfl); rotate_left; (simp only [Act.put, List.setIfInBounds_toArray, List.set_cons_zero, List.set_cons_succ, i64_w, i32_w]; rfl)
                        refine take_ (i := 44) (N := some 155) (v := ?_) (a' := ?_) #[T, T, T, T, T, T, T, T, T, T, T, T, T, T, T, T, T, T, T, T, T, T, T, T, T, T, T, T, T, T, T, T, T, T, T, T, T, T, T, T, T, T, T, T, T, F, F, F] rfl rfl (take_ofW HT_.out HW_.out (by kernel_rfl)) (fun _ _ _ h => h) (Or.inl ⟨by rfl, ?_⟩) hHeld ?_ ?_
                        rotate_left; (rintro w' ⟨s0, s1, s2, s3, s4, s5, s6, s7, s8, s9, s10⟩; go_simp; with_reducible rfl); rotate_left; (simp only [Act.put, List.setIfInBounds_toArray, List.set_cons_zero, List.set_cons_succ, i64_w, i32_w]; rfl)
                        refine one_ (i := 45) (N := some 156) #[T, T, T, T, T, T, T, T, T, T, T, T, T, T, T, T, T, T, T, T, T, T, T, T, T, T, T, T, T, T, T, T, T, T, T, T, T, T, T, T, T, T, T, T, T, T, F, F] rfl rfl (one_of HT_.out (by kernel_rfl)) (by decide) (fun K hK => ?_)
                        refine goes_ Try.func53 (by kernel_rfl) rfl #[.slice A98 y1548.length c98, .slice Ao12 t1514.length co12] (by rfl) rfl rfl (by (try simp only [List.map_toArray, List.map_cons, List.map_nil]); first | done | rfl | (simp only [List.length_drop, List.length_take]; rfl)) ?_
                        with_reducible refine (laws_sameB.calls k5 _ _ y1548 _ _ t1514 true _ ?side1 ?side2 ?side3 ?side4 A94.out).mono ?_
                        (case side1 => repeat (first | exact (by repeat (first | (with_reducible exact HR1551.out) | (with_reducible refine Kd.C_alloc ?_ _) | (with_reducible refine Kd.C_drewN ?_ _) | (with_reducible refine Kd.C_drew ?_) | exact HR1551.out)) | (with_reducible refine Kd.C_alloc ?_ _) | (with_reducible refine Kd.C_drewN ?_ _) | (with_reducible refine Kd.C_drew ?_)))
                        (case side2 => exact HC1551.out)
                        (case side3 => repeat (first | exact (Kd.R_reads' HO_1518001.out).2.2 | (with_reducible refine Kd.C_alloc ?_ _) | (with_reducible refine Kd.C_drewN ?_ _) | (with_reducible refine Kd.C_drew ?_)))
                        (case side4 => exact (Kd.R_reads' HO_1518001.out).2.1)
                        rintro e w' ⟨rfl, ⟨nd, rfl⟩⟩
                        refine ⟨_, rfl, ?_⟩
                        refine hK.out _ _ ⟨(blk_cell BK1517.out 0).trans rfl, (blk_cell BK1517.out 1).trans rfl, hHeld.2.2.1, hHeld.2.2.2.1, hHeld.2.2.2.2.1, hHeld.2.2.2.2.2.1, hHeld.2.2.2.2.2.2.1, hHeld.2.2.2.2.2.2.2.1, hHeld.2.2.2.2.2.2.2.2.1, hHeld.2.2.2.2.2.2.2.2.2.1, hHeld.2.2.2.2.2.2.2.2.2.2⟩ (fun hHeld => ?_)
                        clear hK K
                        refine norm_ (a' := ?_) ?_ ?_
                        rotate_left
                        ·
                         show Act.put _ (some 156) _ = _
                         simp only [Act.put, List.setIfInBounds_toArray, List.set_cons_zero, List.set_cons_succ, i64_w, i32_w]
                         rfl
                        refine pure_ (i := 46) (N := some 157) (v := ?_) (a' := ?_) #[T, T, T, T, T, T, T, T, T, T, T, T, T, T, T, T, T, T, T, T, T, T, T, T, T, T, T, T, T, T, T, T, T, T, T, T, T, T, T, T, T, T, T, T, T, T, T, F] rfl rfl (any_of HT_.out (by kernel_rfl)) (fun _ _ _ h => h) (Or.inl ⟨by rfl, ?_⟩) ?_ ?_
                        rotate_left; (intro w'; go_simp; with_reducible rfl); rotate_left; (simp only [Act.put, List.setIfInBounds_toArray, List.set_cons_zero, List.set_cons_succ, i64_w, i32_w]; rfl)
                        refine pure_ (i := 47) (N := some 158) (v := ?_) (a' := ?_) #[T, T, T, T, T, T, T, T, T, T, T, T, T, T, T, T, T, T, T, T, T, T, T, T, T, T, T, T, T, T, T, T, T, T, T, T, T, T, T, T, T, T, T, T, T, T, T, T] rfl rfl (any_of HT_.out (by kernel_rfl)) (fun _ _ _ h => h) (Or.inl ⟨by rfl, ?_⟩) ?_ ?_
                        rotate_left; (intro w'; go_simp; with_reducible rfl); rotate_left; (simp only [Act.put, List.setIfInBounds_toArray, List.set_cons_zero, List.set_cons_succ, i64_w, i32_w]; rfl)
                        refine done_ (done_of HT_.out (by kernel_rfl)) ?_
                        try go_wp2
                        go_roundg k5
                        case measure => have := HJ2.out; have := HJ7.out; have := HK3.out; have := HJ77.out; have := HK5.out; omega
                        case rel => exact ⟨(wrap64 (x13_5 + 1)), (by first | rfl | (simp; done) | (simp [*]; done)), H', ⟨by have := HJ2.out; have := HJ7.out; have := HK3.out; have := HJ77.out; have := HK5.out; omega⟩, ⟨by (with_reducible repeat (first | apply Kd.S_alloc | apply Kd.S_drewN | apply Kd.S_drew)); exact HO_11.out⟩, ⟨by (with_reducible repeat (first | apply Kd.R_alloc | apply Kd.R_drewN | apply Kd.R_drew)); exact HO_1518001.out⟩, ⟨by (with_reducible repeat (first | refine blk_drewN ?_ _ | refine blk_drew ?_ | refine blk_alloc ?_ _)); exact BK1517.out⟩, ⟨by repeat (first | (with_reducible first | exact HB.out | apply below_alloc | apply pw_below_drewN | apply below_drew1 | refine below_set ?_ GE1517.out) | exact HB.out)⟩⟩
                       ·
                        replace c95 := Bool.eq_false_iff.mpr c95
                        subst c95
                        have H1 : (some false) = some true := by first | rfl | (rw [if_neg (show ¬ (false = true) by decide)] at H; exact H)
                        clear H
                        have H := H1
                        clear H1
                        exact absurd H (by simp)
                      ·
                       rw [if_neg c93] at H
                       exact absurd H (by simp)
                     ·
                      rw [if_neg c92] at H
                      have c92b0 : ((rd ((rd_T45 t1539 x13_5).f1) 0) == ((x13_5) % 256)) = false := beq_eq_false_iff_ne.mpr c92
                      have c92b1 : ((rd ((rd_T45 t1539 x13_5).f1) 0) != ((x13_5) % 256)) = true := bne_iff_ne.mpr c92
                      have c92b2 : ((rd ((rd_T45 t1539 x13_5).f1) 0) != (IntKind.u8.wrap x13_5)) = true := by rw [show IntKind.u8.wrap x13_5 = x13_5 % 256 from by simp [IntKind.wrap, IntKind.signed, IntKind.bits]]; exact c92b1
                      exact absurd H (by simp)
                    ·
                     rw [if_neg c91] at H
                     exact absurd H (by simp)
                   ·
                    rw [if_neg c90] at H
                    have c90b0 : ((((rd_T45 t1539 x13_5).f1).length : Int) == (wrap64 (1 + (t1514.length : Int)))) = false := beq_eq_false_iff_ne.mpr c90
                    have c90b1 : ((((rd_T45 t1539 x13_5).f1).length : Int) != (wrap64 (1 + (t1514.length : Int)))) = true := bne_iff_ne.mpr c90
                    exact absurd H (by simp)
                  ·
                   rw [if_neg c89] at H
                   have c89b0 : (((rd_T45 t1539 x13_5).f0) == (IntKind.u64.wrap (t1513 + (IntKind.u64.wrap (x13_5))))) = false := beq_eq_false_iff_ne.mpr c89
                   have c89b1 : (((rd_T45 t1539 x13_5).f0) != (IntKind.u64.wrap (t1513 + (IntKind.u64.wrap (x13_5))))) = true := bne_iff_ne.mpr c89
                   exact absurd H (by simp)
                 ·
                  rw [if_neg c88] at H
                  exact absurd H (by simp)
                ·
                 rw [if_neg c87] at H
                 exact absurd H (by simp)
               ·
                rw [if_neg c86] at H
                have c86b0 : decide (x13_5 < (wrap64 (1 + (Int.tmod t1518 5)))) = false := decide_eq_false c86
                clear c86
                replace H := Option.bind_eq_some_iff.mp H
                obtain ⟨t1553, A990, H⟩ := H
                replace H : ((spec_ReadLog.f t1553).bind fun bt1556 => ((spec_DrawReadLog.f k5 l0).bind fun t1560 => ((impl_ReadLog.f t1560).bind fun bt1563 => (if (bt1563.1.length : Int) = (bt1556.1.length : Int) then (laws_FnLog.j5 k5 t1553 bt1556.2 bt1563.1 (bt1563.2 != bt1556.2)) else (laws_FnLog.j5 k5 t1553 bt1556.2 bt1563.1 true))))) = some true := H
                have A99 := Aside0.mk A990
                clear A990
                replace H := Option.bind_eq_some_iff.mp H
                obtain ⟨⟨t1556, t1557⟩, A1000, H⟩ := H
                replace H : ((spec_DrawReadLog.f k5 l0).bind fun t1560 => ((impl_ReadLog.f t1560).bind fun bt1563 => (if (bt1563.1.length : Int) = (t1556.length : Int) then (laws_FnLog.j5 k5 t1553 t1557 bt1563.1 (bt1563.2 != t1557)) else (laws_FnLog.j5 k5 t1553 t1557 bt1563.1 true)))) = some true := H
                have A100 := Aside0.mk A1000
                clear A1000
                replace H := Option.bind_eq_some_iff.mp H
                obtain ⟨t1560, A1010, H⟩ := H
                replace H : ((impl_ReadLog.f t1560).bind fun bt1563 => (if (bt1563.1.length : Int) = (t1556.length : Int) then (laws_FnLog.j5 k5 t1553 t1557 bt1563.1 (bt1563.2 != t1557)) else (laws_FnLog.j5 k5 t1553 t1557 bt1563.1 true))) = some true := H
                have A101 := Aside0.mk A1010
                clear A1010
                replace H := Option.bind_eq_some_iff.mp H
                obtain ⟨⟨t1563, t1564⟩, A1020, H⟩ := H
                replace H : (if (t1563.length : Int) = (t1556.length : Int) then (laws_FnLog.j5 k5 t1553 t1557 t1563 (t1564 != t1557)) else (laws_FnLog.j5 k5 t1553 t1557 t1563 true)) = some true := H
                have A102 := Aside0.mk A1020
                clear A1020
                have HC103 := Aside0.mk H
                clear H
                go_upto_region 31 with (first | ((with_reducible refine gate_callee (f := 56) rfl ?_); refine goesL_ (some 160) rfl rfl Try.func56 (by kernel_rfl) rfl #[.slice A0 l0.length c0] rfl (by (try simp only [List.map_toArray, List.map_cons, List.map_nil]); first | done | rfl | (simp only [List.length_drop, List.length_take]; rfl)) ?_; (with_reducible refine (spec_DrawReadLog.calls k5 _ _ l0 t1553 _ ?side1 ?side2 A99.out).mono ?_); (case side1 => repeat (first | exact (Kd.C_below HR0.out HB.out) | (with_reducible refine Kd.C_alloc ?_ _) | (with_reducible refine Kd.C_drewN ?_ _) | (with_reducible refine Kd.C_drew ?_))); (case side2 => exact HC0.out); rintro e w104 ⟨v1554, rfl, ho0, hb⟩; refine ⟨_, rfl, ?_⟩; have n0_ := Aside0.mk (Kd.S_elder' (by (with_reducible repeat (first | apply Kd.S_alloc | apply Kd.S_drewN | apply Kd.S_drew)); exact HO_11.out) (Kd.R_base ho0) hb); have n1_ := Aside0.mk (Kd.R_elder' (by (with_reducible repeat (first | apply Kd.R_alloc | apply Kd.R_drewN | apply Kd.R_drew)); exact HO_1518001.out) (Kd.R_base ho0) hb); have n2_ := Aside0.mk (Kd.R_lower (Kd.R_new' ho0 (Kd.R_lt (by (with_reducible repeat (first | apply Kd.R_alloc | apply Kd.R_drewN | apply Kd.R_drew)); exact HO_1518001.out))) (below_size (by repeat (first | (with_reducible first | exact HB.out | apply below_alloc | apply pw_below_drewN | apply below_drew1 | refine below_set ?_ GE1517.out) | exact HB.out)))); have n3_ := Aside0.mk (blk_below (g := gb1517) (o := .cells #[.int .u64 t1513, .slice Ao12 t1514.length co12] 45 (0, 0)) (by (with_reducible repeat (first | refine blk_drewN ?_ _ | refine blk_drew ?_ | refine blk_alloc ?_ _)); exact BK1517.out) hb); have n4_ := Aside0.mk (below_step (by repeat (first | (with_reducible first | exact HB.out | apply below_alloc | apply pw_below_drewN | apply below_drew1 | refine below_set ?_ GE1517.out) | exact HB.out)) hb); clear HO_11; clear HO_1518001; clear BK1517; clear HB; have HO_11 := n0_; have HO_1518001 := n1_; have HO1555 := n2_; have BK1517 := n3_; have HB := n4_; clear n0_ n1_ n2_ n3_ n4_; (try clear hb); (try clear hb2); (try clear hk); (try clear hi); (try clear ho0); obtain ⟨Ao105, co105, eo105⟩ := Kd.R_slice HO1555.out; subst eo105) | ((with_reducible refine gate_callee (f := 34) rfl ?_); refine goesL_ (some 163) rfl rfl Try.func34 (by kernel_rfl) rfl #[.slice Ao105 t1553.length co105] rfl (by (try simp only [List.map_toArray, List.map_cons, List.map_nil]); first | done | rfl | (simp only [List.length_drop, List.length_take]; rfl)) ?_; (with_reducible refine (spec_ReadLog.calls _ _ t1553 t1556 t1557 _ ?side1 ?side2 A100.out).mono ?_); (case side1 => repeat (first | exact (Kd.R_reads' HO1555.out).2.2 | (with_reducible refine Kd.C_alloc ?_ _) | (with_reducible refine Kd.C_drewN ?_ _) | (with_reducible refine Kd.C_drew ?_))); (case side2 => exact (Kd.R_reads' HO1555.out).2.1); rintro e w106 ⟨v1558, rfl, ho0, hb⟩; refine ⟨_, rfl, ?_⟩; have n0_ := Aside0.mk (Kd.S_elder' (by (with_reducible repeat (first | apply Kd.S_alloc | apply Kd.S_drewN | apply Kd.S_drew)); exact HO_11.out) (Kd.S_base ho0) hb); have n1_ := Aside0.mk (Kd.R_below (by (with_reducible repeat (first | apply Kd.R_alloc | apply Kd.R_drewN | apply Kd.R_drew)); exact HO_1518001.out) hb); have n2_ := Aside0.mk (Kd.R_below (by (with_reducible repeat (first | apply Kd.R_alloc | apply Kd.R_drewN | apply Kd.R_drew)); exact HO1555.out) hb); have n3_ := Aside0.mk (Kd.S_lower (Kd.S_newB (Kd.S_new' (Kd.S_new' (Kd.S_new' ho0 (Kd.S_lt (by (with_reducible repeat (first | apply Kd.S_alloc | apply Kd.S_drewN | apply Kd.S_drew)); exact HO_11.out))) (Kd.R_lt (by (with_reducible repeat (first | apply Kd.R_alloc | apply Kd.R_drewN | apply Kd.R_drew)); exact HO_1518001.out))) (Kd.R_lt (by (with_reducible repeat (first | apply Kd.R_alloc | apply Kd.R_drewN | apply Kd.R_drew)); exact HO1555.out))) (g := gb1517) (o := .cells #[.int .u64 t1513, .slice Ao12 t1514.length co12] 45 (0, 0)) (by (with_reducible repeat (first | refine blk_drewN ?_ _ | refine blk_drew ?_ | refine blk_alloc ?_ _)); exact BK1517.out)) (below_size (by repeat (first | (with_reducible first | exact HB.out | apply below_alloc | apply pw_below_drewN | apply below_drew1 | refine below_set ?_ GE1517.out) | exact HB.out)))); have n4_ := Aside0.mk (blk_below (g := gb1517) (o := .cells #[.int .u64 t1513, .slice Ao12 t1514.length co12] 45 (0, 0)) (by (with_reducible repeat (first | refine blk_drewN ?_ _ | refine blk_drew ?_ | refine blk_alloc ?_ _)); exact BK1517.out) hb); have n5_ := Aside0.mk (below_step (by repeat (first | (with_reducible first | exact HB.out | apply below_alloc | apply pw_below_drewN | apply below_drew1 | refine below_set ?_ GE1517.out) | exact HB.out)) hb); clear HO_11; clear HO_1518001; clear HO1555; clear BK1517; clear HB; have HO_11 := n0_; have HO_1518001 := n1_; have HO1555 := n2_; have HO1559 := n3_; have BK1517 := n4_; have HB := n5_; clear n0_ n1_ n2_ n3_ n4_ n5_; (try clear hb); (try clear hb2); (try clear hk); (try clear hi); (try clear ho0)) | ((with_reducible refine gate_callee (f := 56) rfl ?_); refine goesL_ (some 168) rfl rfl Try.func56 (by kernel_rfl) rfl #[.slice A0 l0.length c0] rfl (by (try simp only [List.map_toArray, List.map_cons, List.map_nil]); first | done | rfl | (simp only [List.length_drop, List.length_take]; rfl)) ?_; (with_reducible refine (spec_DrawReadLog.calls k5 _ _ l0 t1560 _ ?side1 ?side2 A101.out).mono ?_); (case side1 => repeat (first | exact (Kd.C_below HR0.out HB.out) | (with_reducible refine Kd.C_alloc ?_ _) | (with_reducible refine Kd.C_drewN ?_ _) | (with_reducible refine Kd.C_drew ?_))); (case side2 => exact HC0.out); rintro e w107 ⟨v1561, rfl, ho0, hb⟩; refine ⟨_, rfl, ?_⟩; have n0_ := Aside0.mk (Kd.S_elder' (by (with_reducible repeat (first | apply Kd.S_alloc | apply Kd.S_drewN | apply Kd.S_drew)); exact HO_11.out) (Kd.R_base ho0) hb); have n1_ := Aside0.mk (Kd.R_elder' (by (with_reducible repeat (first | apply Kd.R_alloc | apply Kd.R_drewN | apply Kd.R_drew)); exact HO_1518001.out) (Kd.R_base ho0) hb); have n2_ := Aside0.mk (Kd.R_elder' (by (with_reducible repeat (first | apply Kd.R_alloc | apply Kd.R_drewN | apply Kd.R_drew)); exact HO1555.out) (Kd.R_base ho0) hb); have n3_ := Aside0.mk (Kd.S_elder' (by (with_reducible repeat (first | apply Kd.S_alloc | apply Kd.S_drewN | apply Kd.S_drew)); exact HO1559.out) (Kd.R_base ho0) hb); have n4_ := Aside0.mk (Kd.R_lower (Kd.R_new' (Kd.R_new' ho0 (Kd.R_lt (by (with_reducible repeat (first | apply Kd.R_alloc | apply Kd.R_drewN | apply Kd.R_drew)); exact HO_1518001.out))) (Kd.R_lt (by (with_reducible repeat (first | apply Kd.R_alloc | apply Kd.R_drewN | apply Kd.R_drew)); exact HO1555.out))) (below_size (by repeat (first | (with_reducible first | exact HB.out | apply below_alloc | apply pw_below_drewN | apply below_drew1 | refine below_set ?_ GE1517.out) | exact HB.out)))); have n5_ := Aside0.mk (blk_below (g := gb1517) (o := .cells #[.int .u64 t1513, .slice Ao12 t1514.length co12] 45 (0, 0)) (by (with_reducible repeat (first | refine blk_drewN ?_ _ | refine blk_drew ?_ | refine blk_alloc ?_ _)); exact BK1517.out) hb); have n6_ := Aside0.mk (below_step (by repeat (first | (with_reducible first | exact HB.out | apply below_alloc | apply pw_below_drewN | apply below_drew1 | refine below_set ?_ GE1517.out) | exact HB.out)) hb); clear HO_11; clear HO_1518001; clear HO1555; clear HO1559; clear BK1517; clear HB; have HO_11 := n0_; have HO_1518001 := n1_; have HO1555 := n2_; have HO1559 := n3_; have HO1562 := n4_; have BK1517 := n5_; have HB := n6_; clear n0_ n1_ n2_ n3_ n4_ n5_ n6_; (try clear hb); (try clear hb2); (try clear hk); (try clear hi); (try clear ho0); obtain ⟨Ao108, co108, eo108⟩ := Kd.R_slice HO1562.out; subst eo108) | ((with_reducible refine gate_callee (f := 35) rfl ?_); refine goesL_ (some 169) rfl rfl Try.func35 (by kernel_rfl) rfl #[.slice Ao108 t1560.length co108] rfl (by (try simp only [List.map_toArray, List.map_cons, List.map_nil]); first | done | rfl | (simp only [List.length_drop, List.length_take]; rfl)) ?_; (with_reducible refine (impl_ReadLog.calls _ _ t1560 t1563 t1564 _ ?side1 ?side2 A102.out).mono ?_); (case side1 => repeat (first | exact (Kd.R_reads' HO1562.out).2.2 | (with_reducible refine Kd.C_alloc ?_ _) | (with_reducible refine Kd.C_drewN ?_ _) | (with_reducible refine Kd.C_drew ?_))); (case side2 => exact (Kd.R_reads' HO1562.out).2.1); rintro e w109 ⟨v1565, rfl, ho0, hb⟩; refine ⟨_, rfl, ?_⟩; have n0_ := Aside0.mk (Kd.S_elder' (by (with_reducible repeat (first | apply Kd.S_alloc | apply Kd.S_drewN | apply Kd.S_drew)); exact HO_11.out) (Kd.S_base ho0) hb); have n1_ := Aside0.mk (Kd.R_below (by (with_reducible repeat (first | apply Kd.R_alloc | apply Kd.R_drewN | apply Kd.R_drew)); exact HO_1518001.out) hb); have n2_ := Aside0.mk (Kd.R_below (by (with_reducible repeat (first | apply Kd.R_alloc | apply Kd.R_drewN | apply Kd.R_drew)); exact HO1555.out) hb); have n3_ := Aside0.mk (Kd.S_elder' (by (with_reducible repeat (first | apply Kd.S_alloc | apply Kd.S_drewN | apply Kd.S_drew)); exact HO1559.out) (Kd.S_base ho0) hb); have n4_ := Aside0.mk (Kd.R_below (by (with_reducible repeat (first | apply Kd.R_alloc | apply Kd.R_drewN | apply Kd.R_drew)); exact HO1562.out) hb); have n5_ := Aside0.mk (Kd.S_lower (Kd.S_newB (Kd.S_new' (Kd.S_new' (Kd.S_new' (Kd.S_new' (Kd.S_new' ho0 (Kd.S_lt (by (with_reducible repeat (first | apply Kd.S_alloc | apply Kd.S_drewN | apply Kd.S_drew)); exact HO_11.out))) (Kd.R_lt (by (with_reducible repeat (first | apply Kd.R_alloc | apply Kd.R_drewN | apply Kd.R_drew)); exact HO_1518001.out))) (Kd.R_lt (by (with_reducible repeat (first | apply Kd.R_alloc | apply Kd.R_drewN | apply Kd.R_drew)); exact HO1555.out))) (Kd.S_lt (by (with_reducible repeat (first | apply Kd.S_alloc | apply Kd.S_drewN | apply Kd.S_drew)); exact HO1559.out))) (Kd.R_lt (by (with_reducible repeat (first | apply Kd.R_alloc | apply Kd.R_drewN | apply Kd.R_drew)); exact HO1562.out))) (g := gb1517) (o := .cells #[.int .u64 t1513, .slice Ao12 t1514.length co12] 45 (0, 0)) (by (with_reducible repeat (first | refine blk_drewN ?_ _ | refine blk_drew ?_ | refine blk_alloc ?_ _)); exact BK1517.out)) (below_size (by repeat (first | (with_reducible first | exact HB.out | apply below_alloc | apply pw_below_drewN | apply below_drew1 | refine below_set ?_ GE1517.out) | exact HB.out)))); have n6_ := Aside0.mk (blk_below (g := gb1517) (o := .cells #[.int .u64 t1513, .slice Ao12 t1514.length co12] 45 (0, 0)) (by (with_reducible repeat (first | refine blk_drewN ?_ _ | refine blk_drew ?_ | refine blk_alloc ?_ _)); exact BK1517.out) hb); have n7_ := Aside0.mk (below_step (by repeat (first | (with_reducible first | exact HB.out | apply below_alloc | apply pw_below_drewN | apply below_drew1 | refine below_set ?_ GE1517.out) | exact HB.out)) hb); clear HO_11; clear HO_1518001; clear HO1555; clear HO1559; clear HO1562; clear BK1517; clear HB; have HO_11 := n0_; have HO_1518001 := n1_; have HO1555 := n2_; have HO1559 := n3_; have HO1562 := n4_; have HO1566 := n5_; have BK1517 := n6_; have HB := n7_; clear n0_ n1_ n2_ n3_ n4_ n5_ n6_ n7_; (try clear hb); (try clear hb2); (try clear hk); (try clear hi); (try clear ho0)))
                (try simp only [Act.put, List.setIfInBounds_toArray, List.set_cons_zero, List.set_cons_succ])
                go_cut [181] (fun v181 wc => ∃ (kq : Nat) (x181_102 : Bool), v181 = .bool x181_102 ∧ Aside0 (laws_FnLog.j5 kq t1553 t1557 t1563 x181_102 = some true) ∧ Aside0 (kq ≤ k5) ∧ Aside0 (Kd.R (Kd.int .u8) 5 wc w.heap.size (fun k_ => some k_ ≠ ((.slice Ao12 t1514.length co12) : Value).ownBlock) (.slice Ao105 t1553.length co105) t1553) ∧ Aside0 (Kd.S k45 45 wc w.heap.size (fun k_ => some k_ ≠ ((.slice Ao105 t1553.length co105) : Value).ownBlock ∧ some k_ ≠ ((.slice Ao12 t1514.length co12) : Value).ownBlock ∧ k_ ≠ gb1517) v1565 t1563) ∧ Aside0 (Kd.R (Kd.int .u8) 5 wc w.heap.size (fun k_ => some k_ ≠ ((.slice Ao105 t1553.length co105) : Value).ownBlock) (.slice Ao12 t1514.length co12) t1514) ∧ Aside0 (wc.heap[gb1517]? = some (.cells #[.int .u64 t1513, (.slice Ao12 t1514.length co12)] 45 (0, 0))) ∧ Aside0 (Below w.heap.size w wc))
                case first => as_aux_lemma =>
                 have H := HC103.out
                 clear HC103
                 by_cases c110 : (t1563.length : Int) = (t1556.length : Int)
                 ·
                  rw [if_pos c110] at H
                  have c110b0 : ((t1563.length : Int) == (t1556.length : Int)) = true := beq_iff_eq.mpr c110
                  have c110b1 : ((t1563.length : Int) != (t1556.length : Int)) = false := bne_eq_false_iff_eq.mpr c110
                  have c110b2 : (t1563.length == t1556.length) = true := by first | simpa using c110 | (simp at c110 ⊢; omega)
                  clear c110
                  (first | rw [c110b0] | (simp only [i64_w, i32_w]; rw [c110b0]) | skip)
                  have H' := Aside0.mk H
                  clear H
                  obtain ⟨Ao111, co111, eo111⟩ := Kd.S_slice HO1566.out
                  subst eo111
                  obtain ⟨Ao112, co112, eo112⟩ := Kd.S_slice HO1559.out
                  subst eo112
                  go_wp2
                  go_meet
                  case rel => exact ⟨_, ((t1564 != t1557)), (by first | rfl | (simp; done) | (simp [*]; done)), H', ⟨by have := HJ2.out; have := HJ7.out; have := HK3.out; have := HJ77.out; have := HK5.out; first | omega | exact Nat.le_refl _⟩, ⟨by (with_reducible repeat (first | apply Kd.R_alloc | apply Kd.R_drewN | apply Kd.R_drew)); exact Kd.R_mono HO1555.out (fun _ hk => hk.1.2)⟩, ⟨by (with_reducible repeat (first | apply Kd.S_alloc | apply Kd.S_drewN | apply Kd.S_drew)); exact Kd.S_mono HO1566.out (fun _ hk => ⟨hk.1.1.1.2, ⟨hk.1.1.1.1.2, hk.2⟩⟩)⟩, ⟨by (with_reducible repeat (first | apply Kd.R_alloc | apply Kd.R_drewN | apply Kd.R_drew)); exact Kd.R_mono HO_1518001.out (fun _ hk => hk.1.2)⟩, ⟨by (with_reducible repeat (first | refine blk_drewN ?_ _ | refine blk_drew ?_ | refine blk_alloc ?_ _)); exact BK1517.out⟩, ⟨by repeat (first | (with_reducible first | exact HB.out | apply below_alloc | apply pw_below_drewN | apply below_drew1 | refine below_set ?_ GE1517.out) | exact HB.out)⟩⟩
                 ·
                  rw [if_neg c110] at H
                  have c110b0 : ((t1563.length : Int) == (t1556.length : Int)) = false := beq_eq_false_iff_ne.mpr c110
                  have c110b1 : ((t1563.length : Int) != (t1556.length : Int)) = true := bne_iff_ne.mpr c110
                  have c110b2 : (t1563.length == t1556.length) = false := by first | simpa using c110 | (simp at c110 ⊢; omega)
                  (first | rw [c110b0] | (simp only [i64_w, i32_w]; rw [c110b0]) | skip)
                  have H' := Aside0.mk H
                  clear H
                  obtain ⟨Ao113, co113, eo113⟩ := Kd.S_slice HO1566.out
                  subst eo113
                  obtain ⟨Ao114, co114, eo114⟩ := Kd.S_slice HO1559.out
                  subst eo114
                  go_wp2
                  go_meet
                  case rel => exact ⟨_, (true), (by first | rfl | (simp; done) | (simp [*]; done)), H', ⟨by have := HJ2.out; have := HJ7.out; have := HK3.out; have := HJ77.out; have := HK5.out; first | omega | exact Nat.le_refl _⟩, ⟨by (with_reducible repeat (first | apply Kd.R_alloc | apply Kd.R_drewN | apply Kd.R_drew)); exact Kd.R_mono HO1555.out (fun _ hk => hk.1.2)⟩, ⟨by (with_reducible repeat (first | apply Kd.S_alloc | apply Kd.S_drewN | apply Kd.S_drew)); exact Kd.S_mono HO1566.out (fun _ hk => ⟨hk.1.1.1.2, ⟨hk.1.1.1.1.2, hk.2⟩⟩)⟩, ⟨by (with_reducible repeat (first | apply Kd.R_alloc | apply Kd.R_drewN | apply Kd.R_drew)); exact Kd.R_mono HO_1518001.out (fun _ hk => hk.1.2)⟩, ⟨by (with_reducible repeat (first | refine blk_drewN ?_ _ | refine blk_drew ?_ | refine blk_alloc ?_ _)); exact BK1517.out⟩, ⟨by repeat (first | (with_reducible first | exact HB.out | apply below_alloc | apply pw_below_drewN | apply below_drew1 | refine below_set ?_ GE1517.out) | exact HB.out)⟩⟩
                case rest => as_aux_lemma =>
                 clear HC103
                 try clear c1
                 try clear p1
                 try clear q1
                 try clear hx1
                 try clear qi1
                 try clear p2
                 try clear c3
                 try clear c5
                 try clear p6
                 try clear c8
                 try clear c9
                 try clear q9
                 try clear c11
                 try clear c15
                 try clear p15
                 try clear q15
                 try clear hx15
                 try clear qi15
                 try clear c34
                 try clear c35
                 try clear c53
                 try clear c56
                 try clear p64
                 try clear c86
                 try clear c86b0
                 try clear c87
                 try clear c88
                 try clear c89
                 try clear c89b0
                 try clear c89b1
                 try clear c90
                 try clear c90b0
                 try clear c90b1
                 try clear c91
                 try clear c92
                 try clear c92b0
                 try clear c92b1
                 try clear c93
                 try clear c95
                 try clear c98
                 try clear q98
                 try clear c110
                 try clear c110b0
                 try clear c110b1
                 try clear c110b2
                 try clear hx1543_0
                 try clear hx1543_1
                 try clear hx1544_0
                 try clear hx1544_1
                 try clear hx1545_0
                 try clear hx1545_1
                 try clear hx1546_0
                 try clear hx1547_0
                 try clear hx1547_1
                 try clear p1543
                 try clear p1544
                 try clear p1545
                 try clear p1546
                 try clear p1547
                 try clear q1543
                 try clear q1544
                 try clear q1545
                 try clear q1546
                 try clear q1547
                 try clear q98
                 obtain ⟨kq, x181_102, rfl, HA, HJ102, HO_14, HO_17, HO_1518001, BK1517, HB⟩ := hcut
                 cases kq with
                 | zero => exact absurd HA.out (by simp [laws_FnLog.j5])
                 | succ kj102 =>
                  have H := HA.out
                  clear HA
                  simp only [laws_FnLog.j5] at H
                  by_cases c115 : x181_102 = true
                  ·
                   subst c115
                   have H1 : (some false) = some true := by first | rfl | (rw [if_pos rfl] at H; exact H)
                   clear H
                   have H := H1
                   clear H1
                   exact absurd H (by simp)
                  ·
                   replace c115 := Bool.eq_false_iff.mpr c115
                   subst c115
                   have H1 : (laws_FnLog.l2 kj102 t1553 t1557 t1563 ([] : List Int) 0) = some true := by first | rfl | (rw [if_neg (show ¬ (false = true) by decide)] at H; exact H)
                   clear H
                   have H := H1
                   clear H1
                   have H' := Aside0.mk H
                   clear H
                   go_wp2
                   go_loopg [19, 20] kj102 (fun kq v19 v20 w' => ∃ (x19_7 : List Int) (x20_7 : Int), v20 = .int .i64 x20_7 ∧ Aside0 (laws_FnLog.l2 kq t1553 t1557 t1563 x19_7 x20_7 = some true) ∧ Aside0 (kq ≤ kj102) ∧ Aside0 (Kd.R (Kd.int .u8) 5 w' w.heap.size (fun k_ => some k_ ≠ (v19 : Value).ownBlock ∧ some k_ ≠ ((.slice Ao12 t1514.length co12) : Value).ownBlock) (.slice Ao105 t1553.length co105) t1553) ∧ Aside0 (Kd.S k45 45 w' w.heap.size (fun k_ => some k_ ≠ ((.slice Ao105 t1553.length co105) : Value).ownBlock ∧ some k_ ≠ (v19 : Value).ownBlock ∧ some k_ ≠ ((.slice Ao12 t1514.length co12) : Value).ownBlock ∧ k_ ≠ gb1517) v1565 t1563) ∧ Aside0 (Kd.R (Kd.int .u8) 5 w' w.heap.size (fun k_ => some k_ ≠ ((.slice Ao105 t1553.length co105) : Value).ownBlock ∧ some k_ ≠ ((.slice Ao12 t1514.length co12) : Value).ownBlock) v19 x19_7) ∧ Aside0 (Kd.R (Kd.int .u8) 5 w' w.heap.size (fun k_ => some k_ ≠ ((.slice Ao105 t1553.length co105) : Value).ownBlock ∧ some k_ ≠ (v19 : Value).ownBlock) (.slice Ao12 t1514.length co12) t1514) ∧ Aside0 (w'.heap[gb1517]? = some (.cells #[.int .u64 t1513, (.slice Ao12 t1514.length co12)] 45 (0, 0))) ∧ Aside0 (Below w.heap.size w w'))
                   case atStart => exact ⟨(([] : List Int)), (0), (by first | rfl | (simp; done) | (simp [*]; done)), H', ⟨Nat.le_refl _⟩, ⟨by (with_reducible repeat (first | apply Kd.R_alloc | apply Kd.R_drewN | apply Kd.R_drew)); exact Kd.R_mono HO_14.out (fun _ hk => ⟨(by simp [Value.ownBlock]), hk⟩)⟩, ⟨by (with_reducible repeat (first | apply Kd.S_alloc | apply Kd.S_drewN | apply Kd.S_drew)); exact Kd.S_mono HO_17.out (fun _ hk => ⟨hk.1, ⟨(by simp [Value.ownBlock]), ⟨hk.2.1, hk.2.2⟩⟩⟩)⟩, ⟨by first | exact Kd.R_nil _ _ _ _ _ | exact Kd.N_nil _ _ _ _ _ | exact Kd.V_nil _ _ _ _ _ | exact Kd.Q_nil _ _ _ _ _ | exact Kd.S_nil _ _ _ _ _⟩, ⟨by (with_reducible repeat (first | apply Kd.R_alloc | apply Kd.R_drewN | apply Kd.R_drew)); exact Kd.R_mono HO_1518001.out (fun _ hk => ⟨hk, (by simp [Value.ownBlock])⟩)⟩, ⟨by (with_reducible repeat (first | refine blk_drewN ?_ _ | refine blk_drew ?_ | refine blk_alloc ?_ _)); exact BK1517.out⟩, ⟨by repeat (first | (with_reducible first | exact HB.out | apply below_alloc | apply pw_below_drewN | apply below_drew1 | refine below_set ?_ GE1517.out) | exact HB.out)⟩⟩
                   case round => as_aux_lemma =>
                    clear H'
                    try clear c1
                    try clear p1
                    try clear q1
                    try clear hx1
                    try clear qi1
                    try clear p2
                    try clear c3
                    try clear c5
                    try clear p6
                    try clear c8
                    try clear c9
                    try clear q9
                    try clear c11
                    try clear c15
                    try clear p15
                    try clear q15
                    try clear hx15
                    try clear qi15
                    try clear c34
                    try clear c35
                    try clear c53
                    try clear c56
                    try clear p64
                    try clear c86
                    try clear c86b0
                    try clear c87
                    try clear c88
                    try clear c89
                    try clear c89b0
                    try clear c89b1
                    try clear c90
                    try clear c90b0
                    try clear c90b1
                    try clear c91
                    try clear c92
                    try clear c92b0
                    try clear c92b1
                    try clear c93
                    try clear c95
                    try clear c98
                    try clear q98
                    try clear c110
                    try clear c110b0
                    try clear c110b1
                    try clear c110b2
                    try clear c115
                    try clear hx1543_0
                    try clear hx1543_1
                    try clear hx1544_0
                    try clear hx1544_1
                    try clear hx1545_0
                    try clear hx1545_1
                    try clear hx1546_0
                    try clear hx1547_0
                    try clear hx1547_1
                    try clear p1
                    try clear p15
                    try clear p1543
                    try clear p1544
                    try clear p1545
                    try clear p1546
                    try clear p1547
                    try clear p2
                    try clear p6
                    try clear p64
                    try clear q1
                    try clear q15
                    try clear q1543
                    try clear q1544
                    try clear q1545
                    try clear q1546
                    try clear q1547
                    try clear q9
                    try clear q98
                    obtain ⟨x19_7, x20_7, rfl, HA, HK7, HO_14, HO_17, HO_19, HO_1518001, BK1517, HB⟩ := hrel
                    cases gk with
                    | zero => exact absurd HA.out (by simp [laws_FnLog.l2])
                    | succ k7 =>
                     have H := HA.out
                     clear HA
                     simp only [laws_FnLog.l2] at H
                     by_cases c116 : x20_7 < (t1563.length : Int)
                     ·
                      rw [if_pos c116] at H
                      have c116b0 : decide (x20_7 < (t1563.length : Int)) = true := decide_eq_true c116
                      clear c116
                      by_cases c117 : 0 ≤ x20_7
                      ·
                       rw [if_pos c117] at H
                       have c117b0 : decide (0 ≤ x20_7) = true := decide_eq_true c117
                       clear c117
                       replace H := Option.bind_eq_some_iff.mp H
                       obtain ⟨t1568, A1180, H⟩ := H
                       replace H : (if x19_7.length + t1568.length < 140737488355328 then (laws_FnLog.l2 k7 t1553 t1557 t1563 (x19_7 ++ t1568) (wrap64 (x20_7 + 1))) else (none)) = some true := H
                       have A118 := Aside0.mk A1180
                       clear A1180
                       by_cases c119 : x19_7.length + t1568.length < 140737488355328
                       ·
                        rw [if_pos c119] at H
                        have LMc119 := Aside0.mk c119
                        clear c119
                        obtain ⟨y1571, hy1571⟩ : ∃ y_ : List Int, y_ = (x19_7 ++ t1568) := ⟨_, rfl⟩
                        replace H : (laws_FnLog.l2 k7 t1553 t1557 t1563 y1571 (wrap64 (x20_7 + 1))) = some true := by first | (rw [hy1571]; with_reducible exact H) | (have H2_ := (Option.bind_some _ _).symm.trans H; rw [hy1571]; with_reducible exact H2_) | (have H2_ := (Option.bind_some _ _).symm.trans H; with_reducible exact H2_) | with_reducible exact H | (rw [hy1571]; exact H) | exact H
                        have Ny1571 := Aside0.mk hy1571
                        clear hy1571
                        have H' := Aside0.mk H
                        clear H
                        obtain ⟨Ao120, co120, eo120⟩ := Kd.S_slice HO_17.out
                        subst eo120
                        have p1567 : 0 ≤ (x20_7 : Int) := of_decide_eq_true (by first | (with_reducible assumption) | assumption)
                        have q1567 : x20_7 < (t1563.length : Int) := of_decide_eq_true (by first | (with_reducible assumption) | assumption)
                        obtain ⟨ad1567, A1567_1, c1567_1, e1567, hx1567_0, hx1567_1, hl1567_1, hi1567_1⟩ := at_T45 (Kd.S_reads' HO_17.out).2.2 x20_7 p1567 q1567
                        cases e1567
                        obtain ⟨ce1567, hce1567, hMe1567, hcc1567⟩ := Kd.S_get HO_17.out z45 x20_7 p1567 (by first | exact q1567 | exact of_decide_eq_true (by first | (with_reducible assumption) | assumption) | (have e_ := (Kd.S_reads' HO_17.out).1; omega))
                        obtain ⟨ve1567_1, rfl, ge1567_1⟩ := k45_openM hMe1567
                        have hv1567_1 := hcc1567 1 _ rfl
                        rw [add_field _ _ 1 (by omega)] at hv1567_1
                        replace hv1567_1 := Option.some.inj (hv1567_1.symm.trans hx1567_1)
                        rw [hv1567_1] at ge1567_1
                        have HL1567_1 := Aside0.mk (show Kd.R (Kd.int .u8) 5 _ _ _ _ ((rd_T45 t1563 x20_7).f1) from ge1567_1)
                        clear hv1567_1 ge1567_1 hcc1567 hce1567
                        have HR1567_1 := Aside0.mk hi1567_1
                        have HC1567_1 := Aside0.mk hl1567_1
                        clear hi1567_1 hl1567_1
                        replace p1567 := eq_true p1567
                        replace q1567 := eq_true q1567
                        go_wp2_with (first | ((with_reducible refine gate_callee (f := 29) rfl ?_); refine goesL_ (some 193) rfl rfl Try.func29 (by kernel_rfl) rfl #[.agg #[.int .u64 ((rd_T45 t1563 x20_7).f0), .slice A1567_1 ((rd_T45 t1563 x20_7).f1).length c1567_1]] rfl (by (try simp only [List.map_toArray, List.map_cons, List.map_nil]); first | done | rfl | (simp only [List.length_drop, List.length_take]; rfl)) ?_; (with_reducible refine (impl_EncodeRecord.calls k7 ((rd_T45 t1563 x20_7).f0) (fun k_ => some k_ = (.slice A1567_1 ((rd_T45 t1563 x20_7).f1).length c1567_1 : Value).ownBlock) _ _ ((rd_T45 t1563 x20_7).f1) t1568 _ ?side1 A118.out).mono ?_); (case side1 => exact Kd.R_V (Kd.R_tight rfl (HL1567_1.out))); rintro e w121 ⟨v1569, rfl, ho0, hb⟩; refine ⟨_, rfl, ?_⟩; have n0_ := Aside0.mk (Kd.R_elder' (by (with_reducible repeat (first | apply Kd.R_alloc | apply Kd.R_drewN | apply Kd.R_drew)); exact HO_14.out) (Kd.R_base ho0) hb); have n1_ := Aside0.mk (Kd.S_elder' (by (with_reducible repeat (first | apply Kd.S_alloc | apply Kd.S_drewN | apply Kd.S_drew)); exact HO_17.out) (Kd.R_base ho0) hb); have n2_ := Aside0.mk (Kd.R_elder' (by (with_reducible repeat (first | apply Kd.R_alloc | apply Kd.R_drewN | apply Kd.R_drew)); exact HO_19.out) (Kd.R_base ho0) hb); have n3_ := Aside0.mk (Kd.R_elder' (by (with_reducible repeat (first | apply Kd.R_alloc | apply Kd.R_drewN | apply Kd.R_drew)); exact HO_1518001.out) (Kd.R_base ho0) hb); have n4_ := Aside0.mk (Kd.R_elder' (by (with_reducible repeat (first | apply Kd.R_alloc | apply Kd.R_drewN | apply Kd.R_drew)); exact HL1567_1.out) (Kd.R_base ho0) hb); have n5_ := Aside0.mk (Kd.R_lower (Kd.R_new' (Kd.R_new' (Kd.R_new' (Kd.R_new' (Kd.R_mono (ok' := fun k_ => True) ho0 (fun _ hk_ => trivial)) (Kd.R_lt (by (with_reducible repeat (first | apply Kd.R_alloc | apply Kd.R_drewN | apply Kd.R_drew)); exact HO_14.out))) (Kd.R_lt (by (with_reducible repeat (first | apply Kd.R_alloc | apply Kd.R_drewN | apply Kd.R_drew)); exact HO_19.out))) (Kd.R_lt (by (with_reducible repeat (first | apply Kd.R_alloc | apply Kd.R_drewN | apply Kd.R_drew)); exact HO_1518001.out))) (Kd.R_lt (by (with_reducible repeat (first | apply Kd.R_alloc | apply Kd.R_drewN | apply Kd.R_drew)); exact HL1567_1.out))) (below_size (by repeat (first | (with_reducible first | exact HB.out | apply below_alloc | apply pw_below_drewN | apply below_drew1 | refine below_set ?_ GE1517.out) | exact HB.out)))); have n6_ := Aside0.mk (blk_below (g := gb1517) (o := .cells #[.int .u64 t1513, .slice Ao12 t1514.length co12] 45 (0, 0)) (by (with_reducible repeat (first | refine blk_drewN ?_ _ | refine blk_drew ?_ | refine blk_alloc ?_ _)); exact BK1517.out) hb); have n7_ := Aside0.mk (Kd.C_below (by repeat (first | (with_reducible exact HR1567_1.out) | (with_reducible refine Kd.C_alloc ?_ _) | (with_reducible refine Kd.C_drewN ?_ _) | (with_reducible refine Kd.C_drew ?_) | exact HR1567_1.out)) hb); have n8_ := Aside0.mk (below_step (by repeat (first | (with_reducible first | exact HB.out | apply below_alloc | apply pw_below_drewN | apply below_drew1 | refine below_set ?_ GE1517.out) | exact HB.out)) hb); clear HO_14; clear HO_17; clear HO_19; clear HO_1518001; clear HL1567_1; clear BK1517; clear HR1567_1; clear HB; have HO_14 := n0_; have HO_17 := n1_; have HO_19 := n2_; have HO_1518001 := n3_; have HL1567_1 := n4_; have HO1570 := n5_; have BK1517 := n6_; have HR1567_1 := n7_; have HB := n8_; clear n0_ n1_ n2_ n3_ n4_ n5_ n6_ n7_ n8_; (try clear hb); (try clear hb2); (try clear hk); (try clear hi); (try clear ho0); obtain ⟨Ao123, co123, eo123⟩ := Kd.R_slice HO1570.out; subst eo123) | ((with_reducible refine gate_builtin (b := .append) (xs := #[.tmp 188, .tmp 193]) rfl ?_); (try (refine gate_guard (by rfl) ?_; dsimp only)); at_builtin; refine Kd.R_append_rows (Kd.int .u8) (w0 := w) w.heap.size rfl (.tmp 188) (.tmp 193) 22 5 (.int .u8 0) 1 rfl Try.underlying22 info5 rfl (by decide) (by omega) u19 x19_7 t1568 _ _ _ (fun k_ => some k_ ≠ (.slice Ao105 t1553.length co105 : Value).ownBlock ∧ some k_ ≠ (.slice Ao12 t1514.length co12 : Value).ownBlock ∧ some k_ ≠ (.slice Ao123 t1568.length co123 : Value).ownBlock) (fun _ => False) rfl rfl ?aO ?aR (fun _ _ h => h) (fun _ h => h.elim) ?aF ?aB ?aS ?aL ?_; (case aR => repeat (first | exact (Kd.R_reads' HO1570.out).2.2 | (with_reducible refine Kd.C_alloc ?_ _) | (with_reducible refine Kd.C_drewN ?_ _) | (with_reducible refine Kd.C_drew ?_))); (case aB => exact (by repeat (first | (with_reducible first | exact HB.out | apply below_alloc | apply pw_below_drewN | apply below_drew1 | refine below_set ?_ GE1517.out) | exact HB.out))); (case aF => exact (fun k_ hk => ⟨Kd.fresh' (Kd.R_lt (by (with_reducible repeat (first | apply Kd.R_alloc | apply Kd.R_drewN | apply Kd.R_drew)); exact HO_14.out)) k_ hk, Kd.fresh' (Kd.R_lt (by (with_reducible repeat (first | apply Kd.R_alloc | apply Kd.R_drewN | apply Kd.R_drew)); exact HO_1518001.out)) k_ hk, Kd.fresh' (Kd.R_lt (by (with_reducible repeat (first | apply Kd.R_alloc | apply Kd.R_drewN | apply Kd.R_drew)); exact HO1570.out)) k_ hk⟩)); (case aO => exact (by (with_reducible repeat (first | apply Kd.R_alloc | apply Kd.R_drewN | apply Kd.R_drew)); exact Kd.R_mono HO_19.out (fun _ hk => ⟨hk.1.1, ⟨hk.1.2, hk.2⟩⟩))); (case aS => exact (below_size (by repeat (first | (with_reducible first | exact HB.out | apply below_alloc | apply pw_below_drewN | apply below_drew1 | refine below_set ?_ GE1517.out) | exact HB.out)))); (case aL => have := LMc119.out; omega); intro v1572 w122 ho hb hg hat; rw [← Ny1571.out] at ho; have n0_ := Aside0.mk (Kd.R_after (ok := (fun k_ => some k_ ≠ (.slice Ao12 t1514.length co12 : Value).ownBlock ∧ some k_ ≠ (.slice Ao123 t1568.length co123 : Value).ownBlock)) (by (with_reducible repeat (first | apply Kd.R_alloc | apply Kd.R_drewN | apply Kd.R_drew)); exact Kd.R_mono HO_14.out (fun _ hk => ⟨⟨hk.1.2, hk.2⟩, hk.1.1⟩)) hg hat); have n1_ := Aside0.mk (Kd.S_after (ok := (fun k_ => some k_ ≠ (.slice Ao105 t1553.length co105 : Value).ownBlock ∧ some k_ ≠ (.slice Ao12 t1514.length co12 : Value).ownBlock ∧ some k_ ≠ (.slice Ao123 t1568.length co123 : Value).ownBlock ∧ k_ ≠ gb1517)) (by (with_reducible repeat (first | apply Kd.S_alloc | apply Kd.S_drewN | apply Kd.S_drew)); exact Kd.S_mono HO_17.out (fun _ hk => ⟨⟨hk.1.1, ⟨hk.1.2.2.1, ⟨hk.2, hk.1.2.2.2⟩⟩⟩, hk.1.2.1⟩)) hg hat); have n2_ := Aside0.mk (Kd.R_after (ok := (fun k_ => some k_ ≠ (.slice Ao105 t1553.length co105 : Value).ownBlock ∧ some k_ ≠ (.slice Ao123 t1568.length co123 : Value).ownBlock)) (by (with_reducible repeat (first | apply Kd.R_alloc | apply Kd.R_drewN | apply Kd.R_drew)); exact Kd.R_mono HO_1518001.out (fun _ hk => ⟨⟨hk.1.1, hk.2⟩, hk.1.2⟩)) hg hat); have n3_ := Aside0.mk (blk_grown (g := gb1517) (o := .cells #[.int .u64 t1513, .slice Ao12 t1514.length co12] 45 (0, 0)) (by (with_reducible repeat (first | refine blk_drewN ?_ _ | refine blk_drew ?_ | refine blk_alloc ?_ _)); exact BK1517.out) hg (Kd.R_ne HO_19.out BK1517.out (by decide))); have n4_ := Aside0.mk (Kd.R_after (ok := (fun k_ => some k_ ≠ (.slice Ao105 t1553.length co105 : Value).ownBlock ∧ some k_ ≠ (.slice (some ad1567) t1563.length co120 : Value).ownBlock ∧ some k_ ≠ (.slice Ao12 t1514.length co12 : Value).ownBlock ∧ some k_ ≠ (.slice Ao123 t1568.length co123 : Value).ownBlock ∧ k_ ≠ gb1517)) (by (with_reducible repeat (first | apply Kd.R_alloc | apply Kd.R_drewN | apply Kd.R_drew)); exact Kd.R_mono HL1567_1.out (fun _ hk => ⟨⟨hk.1.1.1, ⟨hk.1.2, ⟨hk.1.1.2.2.1, ⟨hk.2, hk.1.1.2.2.2⟩⟩⟩⟩, hk.1.1.2.1⟩)) hg hat); have n5_ := Aside0.mk (Kd.R_after (ok := (fun k_ => some k_ ≠ (.slice Ao105 t1553.length co105 : Value).ownBlock ∧ some k_ ≠ (.slice Ao12 t1514.length co12 : Value).ownBlock ∧ some k_ ≠ (.slice A1567_1 ((rd_T45 t1563 x20_7).f1).length c1567_1 : Value).ownBlock)) (by (with_reducible repeat (first | apply Kd.R_alloc | apply Kd.R_drewN | apply Kd.R_drew)); exact Kd.R_mono HO1570.out (fun _ hk => ⟨⟨hk.1.1.1.2, ⟨hk.1.2, hk.2⟩⟩, hk.1.1.2⟩)) hg hat); have n6_ := Aside0.mk (hb); have n7_ := Aside0.mk (ho); clear HO_14; clear HO_17; clear HO_1518001; clear BK1517; clear HL1567_1; clear HO1570; clear HB; clear HO_19; have HO_14 := n0_; have HO_17 := n1_; have HO_1518001 := n2_; have BK1517 := n3_; have HL1567_1 := n4_; have HO1570 := n5_; have HB := n6_; have HO1573 := n7_; clear n0_ n1_ n2_ n3_ n4_ n5_ n6_ n7_; clear ho hb hg hat))
                        go_roundg k7
                        case measure => have := HJ2.out; have := HJ7.out; have := HK3.out; have := HJ77.out; have := HK5.out; have := HJ102.out; have := HK7.out; omega
                        case rel => exact ⟨(y1571), (wrap64 (x20_7 + 1)), (by first | rfl | (simp; done) | (simp [*]; done)), H', ⟨by have := HJ2.out; have := HJ7.out; have := HK3.out; have := HJ77.out; have := HK5.out; have := HJ102.out; have := HK7.out; omega⟩, ⟨by (with_reducible repeat (first | apply Kd.R_alloc | apply Kd.R_drewN | apply Kd.R_drew)); exact Kd.R_mono HO_14.out (fun _ hk => ⟨hk.2, hk.1.1⟩)⟩, ⟨by (with_reducible repeat (first | apply Kd.S_alloc | apply Kd.S_drewN | apply Kd.S_drew)); exact Kd.S_mono HO_17.out (fun _ hk => ⟨hk.1.1, ⟨hk.2, ⟨hk.1.2.1, hk.1.2.2.2⟩⟩⟩)⟩, ⟨by (with_reducible repeat (first | apply Kd.R_alloc | apply Kd.R_drewN | apply Kd.R_drew)); exact Kd.R_mono HO1573.out (fun _ hk => ⟨hk.1, hk.2.1⟩)⟩, ⟨by (with_reducible repeat (first | apply Kd.R_alloc | apply Kd.R_drewN | apply Kd.R_drew)); exact Kd.R_mono HO_1518001.out (fun _ hk => ⟨hk.1.1, hk.2⟩)⟩, ⟨by (with_reducible repeat (first | refine blk_drewN ?_ _ | refine blk_drew ?_ | refine blk_alloc ?_ _)); exact BK1517.out⟩, ⟨by repeat (first | (with_reducible first | exact HB.out | apply below_alloc | apply pw_below_drewN | apply below_drew1 | refine below_set ?_ GE1517.out) | exact HB.out)⟩⟩
                       ·
                        rw [if_neg c119] at H
                        exact absurd H (by simp)
                      ·
                       rw [if_neg c117] at H
                       exact absurd H (by simp)
                     ·
                      rw [if_neg c116] at H
                      have c116b0 : decide (x20_7 < (t1563.length : Int)) = false := decide_eq_false c116
                      clear c116
                      by_cases c124 : 0 ≤ t1557
                      ·
                       rw [if_pos c124] at H
                       have c124b0 := eq_true c124
                       have c124b1 : decide (0 ≤ t1557) = true := decide_eq_true c124
                       clear c124
                       by_cases c125 : t1557 ≤ (t1553.length : Int)
                       ·
                        rw [if_pos c125] at H
                        have c125b0 := eq_true c125
                        have c125b1 : decide (t1557 ≤ (t1553.length : Int)) = true := decide_eq_true c125
                        clear c125
                        obtain ⟨y1574, hy1574⟩ : ∃ y_ : List Int, y_ = (t1553.take (t1557 : Int).toNat) := ⟨_, rfl⟩
                        replace H : ((laws_sameB.f k7 x19_7 y1574).bind fun t1578 => (some t1578)) = some true := by first | (rw [hy1574]; with_reducible exact H) | (have H2_ := (Option.bind_some _ _).symm.trans H; rw [hy1574]; with_reducible exact H2_) | (have H2_ := (Option.bind_some _ _).symm.trans H; with_reducible exact H2_) | with_reducible exact H | (rw [hy1574]; exact H) | exact H
                        have Ny1574 := Aside0.mk hy1574
                        clear hy1574
                        replace H := Option.bind_eq_some_iff.mp H
                        obtain ⟨t1578, A1260, H⟩ := H
                        replace H : (some t1578) = some true := H
                        have A126 := Aside0.mk A1260
                        clear A1260
                        first | obtain rfl := Option.some.inj H | have HRv := Option.some.inj H
                        obtain ⟨Ao127, co127, eo127⟩ := Kd.S_slice HO_17.out
                        subst eo127
                        have q128 : (t1557 : Int) ≤ ((t1553.length : Int) : Int) := of_decide_eq_true (by first | (with_reducible assumption) | assumption)
                        obtain ⟨i0128, hi0128, _, hsz128, _⟩ := info_parts info5
                        have hroom128 : t1553.length ≤ co105 := (Kd.R_reads' HO_14.out).2.1
                        have hC128 : Kd.C (Kd.int .u8) _ Ao105 t1553.length t1553 := (Kd.R_reads' HO_14.out).2.2
                        have hcut128 := cut_to (P := Try.prog) 22 5 .i64 Try.underlying22 hi0128 Ao105 t1553.length co105 t1557 (of_decide_eq_true (by first | (with_reducible assumption) | assumption)) q128 hroom128
                        have hr128 := Kd.C_take (m := (t1557 : Int).toNat) hC128 (by omega)
                        have hy128 : y1574.length = (t1557 : Int).toNat := (by rw [Ny1574.out, List.length_take]; omega)
                        rw [← Ny1574.out] at hr128
                        rw [← hy128] at hcut128
                        have HR1577 := Aside0.mk hr128
                        have HC1577 := Aside0.mk (show y1574.length ≤ co105 from by omega)
                        clear hr128 hC128 hroom128 hi0128 hsz128
                        have KY128 := Aside0.mk hy128
                        clear hy128
                        have KL128 := Aside0.mk (show (t1557 : Int).toNat ≤ t1553.length from by omega)
                        replace q128 := eq_true q128
                        obtain ⟨Ao129, co129, eo129⟩ := Kd.R_slice HO_19.out
                        subst eo129
                        go_wp2_with (first | ((with_reducible refine gate_callee (f := 53) rfl ?_); refine goesL_ (some 199) rfl rfl Try.func53 (by kernel_rfl) rfl #[.slice Ao129 x19_7.length co129, .slice Ao105 y1574.length co105] rfl (by (try simp only [List.map_toArray, List.map_cons, List.map_nil]); first | done | rfl | (simp only [List.length_drop, List.length_take]; rfl)) ?_; (with_reducible refine (laws_sameB.calls k7 _ _ x19_7 _ _ y1574 _ _ ?side1 ?side2 ?side3 ?side4 A126.out).mono ?_); (case side1 => repeat (first | exact (Kd.R_reads' HO_19.out).2.2 | (with_reducible refine Kd.C_alloc ?_ _) | (with_reducible refine Kd.C_drewN ?_ _) | (with_reducible refine Kd.C_drew ?_))); (case side2 => exact (Kd.R_reads' HO_19.out).2.1); (case side3 => repeat (first | exact (by repeat (first | (with_reducible exact HR1577.out) | (with_reducible refine Kd.C_alloc ?_ _) | (with_reducible refine Kd.C_drewN ?_ _) | (with_reducible refine Kd.C_drew ?_) | exact HR1577.out)) | (with_reducible refine Kd.C_alloc ?_ _) | (with_reducible refine Kd.C_drewN ?_ _) | (with_reducible refine Kd.C_drew ?_))); (case side4 => exact HC1577.out); rintro e w' ⟨rfl, ⟨nd, rfl⟩⟩; refine ⟨_, rfl, ?_⟩))
                        go_ret
                        exact ⟨by first | rfl | (simp [errW_none, errW_some] <;> rfl) | (simp [*, errW_none, errW_some] <;> rfl), by repeat (first | (with_reducible first | exact HB.out | apply below_alloc | apply pw_below_drewN | apply below_drew1 | refine below_set ?_ GE1517.out) | exact HB.out)⟩
                       ·
                        rw [if_neg c125] at H
                        exact absurd H (by simp)
                      ·
                       rw [if_neg c124] at H
                       exact absurd H (by simp)
end Go.Proofs.Ytbapokpkgonjkaa.Print
