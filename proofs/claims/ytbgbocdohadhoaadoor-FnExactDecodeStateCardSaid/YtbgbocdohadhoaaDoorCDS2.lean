/- Texts of this session, joined by its own program. -/
import Derived.Lib.SlBytesConst
import Derived.Deep.QuietTactic
import Derived.BigQuiet
import Derived.Laws.Cover1
import Derived.Test.YtbgbocdohadhoaaDoorCDS1
namespace Go.Proofs.YtbgbocdohadhoaaDoor.Print
open Go Go.RowKit Go.Proofs.YtbgbocdohadhoaaDoorW.PrintWords Go.Proofs.YtbgbocdohadhoaaDoorW.PrintLast Go.Proofs.YtbgbocdohadhoaaDoorW.PrintMore
set_option linter.unusedVariables false
set_option linter.unusedSimpArgs false
def spec_l3node.l0 : Nat → List Int → Int → Int → Int → Int → Int → List (S70) → List (S76) → Option (Int)
 | 0, _, _, _, _, _, _, _, _ => none
 | k + 1, x1, x5, x165000, x165001, x165002, x165003, x165004, x165005 => if x5 < (x165005.length : Int) then (if 0 ≤ x5 then ((spec_l3same.f ((rd_T76 x165005 x5).f0) x1).bind fun t166 => (if t166 = true then (some x5) else (spec_l3node.l0 k x1 (wrap64 (x5 + 1)) x165000 x165001 x165002 x165003 x165004 x165005))) else (none)) else (some (-1))
def spec_l3node.f (k : Nat) (a0_0 : Int) (a0_1 : Int) (a0_2 : Int) (a0_3 : Int) (l0_4 : List (S70)) (l0_5 : List (S76)) (l1 : List Int) : Option (Int) := spec_l3node.l0 k l1 0 a0_0 a0_1 a0_2 a0_3 l0_4 l0_5
set_option maxHeartbeats 8000000 in
set_option maxRecDepth 100000 in
theorem spec_l3node.calls (k : Nat) (a0_0 : Int) (a0_1 : Int) (a0_2 : Int) (a0_3 : Int) (A0_4 : Option Addr) (c0_4 : Nat) (l0_4 : List (S70)) (A0_5 : Option Addr) (c0_5 : Nat) (l0_5 : List (S76)) (A1 : Option Addr) (c1 : Nat) (l1 : List Int) (r : Int) (w : World) (hr0_4 : Kd.C k70 w A0_4 l0_4.length l0_4) (hc0_4 : l0_4.length ≤ c0_4) (hr0_5 : Kd.C k76 w A0_5 l0_5.length l0_5) (hc0_5 : l0_5.length ≤ c0_5) (hr1 : Kd.C (Kd.int .u8) w A1 l1.length l1) (hc1 : l1.length ≤ c1) (h : spec_l3node.f k a0_0 a0_1 a0_2 a0_3 l0_4 l0_5 l1 = some r) :
  Calls Tryd.prog 125 #[.agg #[.int .u64 a0_0, .int .u64 a0_1, .int .u64 a0_2, .int .i64 a0_3, .slice A0_4 l0_4.length c0_4, .slice A0_5 l0_5.length c0_5], .slice A1 l1.length c1] w fun e w' => e = .returned (.int .i64 r) ∧ Below w.heap.size w w' := by
 have hu36 := Tryd.underlying36
 have HR0_4 := Aside0.mk hr0_4
 have HC0_4 := Aside0.mk hc0_4
 clear hr0_4 hc0_4
 have HR0_5 := Aside0.mk hr0_5
 have HC0_5 := Aside0.mk hc0_5
 clear hr0_5 hc0_5
 have HR1 := Aside0.mk hr1
 have HC1 := Aside0.mk hc1
 clear hr1 hc1
 have HB := Aside0.mk (Below.refl w.heap.size w)
 have H : (spec_l3node.l0 k l1 0 a0_0 a0_1 a0_2 a0_3 l0_4 l0_5) = some r := h
 clear h
 have H' := Aside0.mk H
 clear H
 go_enter Tryd.func125, Tryd.ntmps125
 go_wp2_with (first | ((with_reducible refine gate_dst (N := 2) rfl ?_); refine box_event ?hg (N := 2) ?hd (cs := #[.int .u64 a0_0, .int .u64 a0_1, .int .u64 a0_2, .int .i64 a0_3, .slice A0_4 l0_4.length c0_4, .slice A0_5 l0_5.length c0_5]) (t := 36) ?hr ?_; (case hd => rfl); (case hg => rfl); (case hr => first | (go_simp; done) | (go_simp; rfl)); intro gb164 hg w3 hbox hb; have n0_ := Aside0.mk (below_step (by repeat (first | (with_reducible first | exact HB.out | apply below_alloc | apply pw_below_drewN | apply below_drew1) | exact HB.out)) hb); have n1_ := Aside0.mk (hbox); have n2_ := Aside0.mk ((by rw [hg]; exact (below_size (by repeat (first | (with_reducible first | exact HB.out | apply below_alloc | apply pw_below_drewN | apply below_drew1) | exact HB.out))) : w.heap.size ≤ gb164)); have n3_ := Aside0.mk ((by rw [hg]; exact (below_size (by repeat (first | (with_reducible first | exact HB.out | apply below_alloc | apply pw_below_drewN | apply below_drew1) | exact HB.out))) : w.heap.size ≤ gb164)); clear HB; have HB := n0_; have BK164 := n1_; have GW164 := n2_; have GE164 := n3_; clear n0_ n1_ n2_ n3_; clear hb hbox hg))
 go_loopg [5] k (fun kq v5 w' => ∃ (x5_1 : Int), v5 = .int .i64 x5_1 ∧ Aside0 (spec_l3node.l0 kq l1 x5_1 a0_0 a0_1 a0_2 a0_3 l0_4 l0_5 = some r) ∧ Aside0 (kq ≤ k) ∧ Aside0 (w'.heap[gb164]? = some (.cells #[.int .u64 a0_0, .int .u64 a0_1, .int .u64 a0_2, .int .i64 a0_3, (.slice A0_4 l0_4.length c0_4), (.slice A0_5 l0_5.length c0_5)] 36 (0, 0))) ∧ Aside0 (Below w.heap.size w w'))
 case atStart => exact ⟨(0), (by first | rfl | (simp; done) | (simp [*]; done)), H', ⟨Nat.le_refl _⟩, ⟨by (with_reducible repeat (first | refine blk_drewN ?_ _ | refine blk_drew ?_ | refine blk_alloc ?_ _)); exact BK164.out⟩, ⟨by repeat (first | (with_reducible first | exact HB.out | apply below_alloc | apply pw_below_drewN | apply below_drew1 | refine below_set ?_ GE164.out) | exact HB.out)⟩⟩
 case round =>
  clear H'
  try clear c1
  try clear p2
  obtain ⟨x5_1, rfl, HA, HK1, BK164, HB⟩ := hrel
  cases gk with
  | zero => exact absurd HA.out (by simp [spec_l3node.l0])
  | succ k1 =>
   have H := HA.out
   clear HA
   simp only [spec_l3node.l0] at H
   by_cases c4 : x5_1 < (l0_5.length : Int)
   ·
    rw [if_pos c4] at H
    have c4b0 : decide (x5_1 < (l0_5.length : Int)) = true := decide_eq_true c4
    clear c4
    by_cases c5 : 0 ≤ x5_1
    ·
     rw [if_pos c5] at H
     have c5b0 : decide (0 ≤ x5_1) = true := decide_eq_true c5
     clear c5
     replace H := Option.bind_eq_some_iff.mp H
     obtain ⟨t166, A60, H⟩ := H
     replace H : (if t166 = true then (some x5_1) else (spec_l3node.l0 k1 l1 (wrap64 (x5_1 + 1)) a0_0 a0_1 a0_2 a0_3 l0_4 l0_5)) = some r := H
     have A6 := Aside0.mk A60
     clear A60
     by_cases c7 : t166 = true
     ·
      subst c7
      have H1 : (some x5_1) = some r := by first | rfl | (rw [if_pos rfl] at H; exact H)
      clear H
      have H := H1
      clear H1
      obtain rfl := Option.some.inj H
      have hcz8_0 : wr.cell? ⟨gb164, 0, none⟩ = some (.int .u64 a0_0) := (blk_cell BK164.out 0).trans rfl
      have hcz8_1 : wr.cell? ⟨gb164, 1, none⟩ = some (.int .u64 a0_1) := (blk_cell BK164.out 1).trans rfl
      have hcz8_2 : wr.cell? ⟨gb164, 2, none⟩ = some (.int .u64 a0_2) := (blk_cell BK164.out 2).trans rfl
      have hcz8_3 : wr.cell? ⟨gb164, 3, none⟩ = some (.int .i64 a0_3) := (blk_cell BK164.out 3).trans rfl
      have hcz8_4 : wr.cell? ⟨gb164, 4, none⟩ = some (.slice A0_4 l0_4.length c0_4) := (blk_cell BK164.out 4).trans rfl
      have hcz8_5 : wr.cell? ⟨gb164, 5, none⟩ = some (.slice A0_5 l0_5.length c0_5) := (blk_cell BK164.out 5).trans rfl
      have hfz8_0 := blk_frozen BK164.out 0
      have hfz8_1 := blk_frozen BK164.out 1
      have hfz8_2 := blk_frozen BK164.out 2
      have hfz8_3 := blk_frozen BK164.out 3
      have hfz8_4 := blk_frozen BK164.out 4
      have hfz8_5 := blk_frozen BK164.out 5
      have p165 : 0 ≤ (x5_1 : Int) := of_decide_eq_true (by first | (with_reducible assumption) | assumption)
      have q165 : x5_1 < (l0_5.length : Int) := of_decide_eq_true (by first | (with_reducible assumption) | assumption)
      obtain ⟨ad165, A165_0, c165_0, A165_1, c165_1, A165_4, c165_4, A165_7, c165_7, e165, hx165_0, hx165_1, hx165_2, hx165_3, hx165_4, hx165_5, hx165_6, hx165_7, hl165_0, hi165_0, hl165_1, hi165_1, hl165_4, hi165_4, hl165_7, hi165_7⟩ := at_T76 HR0_5.out x5_1 p165 q165
      cases e165
      replace hx165_0 := (HB.out.cell (World.block_lt_of_cell? w _ hx165_0)).trans hx165_0
      replace hx165_1 := (HB.out.cell (World.block_lt_of_cell? w _ hx165_1)).trans hx165_1
      replace hx165_2 := (HB.out.cell (World.block_lt_of_cell? w _ hx165_2)).trans hx165_2
      replace hx165_3 := (HB.out.cell (World.block_lt_of_cell? w _ hx165_3)).trans hx165_3
      replace hx165_4 := (HB.out.cell (World.block_lt_of_cell? w _ hx165_4)).trans hx165_4
      replace hx165_5 := (HB.out.cell (World.block_lt_of_cell? w _ hx165_5)).trans hx165_5
      replace hx165_6 := (HB.out.cell (World.block_lt_of_cell? w _ hx165_6)).trans hx165_6
      replace hx165_7 := (HB.out.cell (World.block_lt_of_cell? w _ hx165_7)).trans hx165_7
      have HR165_0 := Aside0.mk hi165_0
      have HC165_0 := Aside0.mk hl165_0
      clear hi165_0 hl165_0
      have HR165_1 := Aside0.mk hi165_1
      have HC165_1 := Aside0.mk hl165_1
      clear hi165_1 hl165_1
      have HR165_4 := Aside0.mk hi165_4
      have HC165_4 := Aside0.mk hl165_4
      clear hi165_4 hl165_4
      have HR165_7 := Aside0.mk hi165_7
      have HC165_7 := Aside0.mk hl165_7
      clear hi165_7 hl165_7
      replace p165 := eq_true p165
      replace q165 := eq_true q165
      go_wp2_with (first | ((with_reducible refine gate_callee (f := 68) rfl ?_); refine goesL_ (some 20) rfl rfl Tryd.func68 (by kernel_rfl) rfl #[.slice A165_0 ((rd_T76 l0_5 x5_1).f0).length c165_0, .slice A1 l1.length c1] rfl (by (try simp only [List.map_toArray, List.map_cons, List.map_nil]); first | done | rfl | (simp only [List.length_drop, List.length_take]; rfl)) ?_; (with_reducible refine (spec_l3same.calls _ _ ((rd_T76 l0_5 x5_1).f0) _ _ l1 true _ ?side1 ?side2 ?side3 ?side4 A6.out).mono ?_); (case side1 => repeat (first | exact (Kd.C_below HR165_0.out HB.out) | (with_reducible refine Kd.C_alloc ?_ _) | (with_reducible refine Kd.C_drewN ?_ _) | (with_reducible refine Kd.C_drew ?_))); (case side2 => exact HC165_0.out); (case side3 => repeat (first | exact (Kd.C_below HR1.out HB.out) | (with_reducible refine Kd.C_alloc ?_ _) | (with_reducible refine Kd.C_drewN ?_ _) | (with_reducible refine Kd.C_drew ?_))); (case side4 => exact HC1.out); rintro e w' ⟨rfl, ⟨nd, rfl⟩⟩; refine ⟨_, rfl, ?_⟩))
      go_ret
      exact ⟨by first | rfl | (simp [errW_none, errW_some] <;> rfl) | (simp [*, errW_none, errW_some] <;> rfl), by repeat (first | (with_reducible first | exact HB.out | apply below_alloc | apply pw_below_drewN | apply below_drew1 | refine below_set ?_ GE164.out) | exact HB.out)⟩
     ·
      replace c7 := Bool.eq_false_iff.mpr c7
      subst c7
      have H1 : (spec_l3node.l0 k1 l1 (wrap64 (x5_1 + 1)) a0_0 a0_1 a0_2 a0_3 l0_4 l0_5) = some r := by first | rfl | (rw [if_neg (show ¬ (false = true) by decide)] at H; exact H)
      clear H
      have H := H1
      clear H1
      have H' := Aside0.mk H
      clear H
      have hcz9_0 : wr.cell? ⟨gb164, 0, none⟩ = some (.int .u64 a0_0) := (blk_cell BK164.out 0).trans rfl
      have hcz9_1 : wr.cell? ⟨gb164, 1, none⟩ = some (.int .u64 a0_1) := (blk_cell BK164.out 1).trans rfl
      have hcz9_2 : wr.cell? ⟨gb164, 2, none⟩ = some (.int .u64 a0_2) := (blk_cell BK164.out 2).trans rfl
      have hcz9_3 : wr.cell? ⟨gb164, 3, none⟩ = some (.int .i64 a0_3) := (blk_cell BK164.out 3).trans rfl
      have hcz9_4 : wr.cell? ⟨gb164, 4, none⟩ = some (.slice A0_4 l0_4.length c0_4) := (blk_cell BK164.out 4).trans rfl
      have hcz9_5 : wr.cell? ⟨gb164, 5, none⟩ = some (.slice A0_5 l0_5.length c0_5) := (blk_cell BK164.out 5).trans rfl
      have hfz9_0 := blk_frozen BK164.out 0
      have hfz9_1 := blk_frozen BK164.out 1
      have hfz9_2 := blk_frozen BK164.out 2
      have hfz9_3 := blk_frozen BK164.out 3
      have hfz9_4 := blk_frozen BK164.out 4
      have hfz9_5 := blk_frozen BK164.out 5
      have p165 : 0 ≤ (x5_1 : Int) := of_decide_eq_true (by first | (with_reducible assumption) | assumption)
      have q165 : x5_1 < (l0_5.length : Int) := of_decide_eq_true (by first | (with_reducible assumption) | assumption)
      obtain ⟨ad165, A165_0, c165_0, A165_1, c165_1, A165_4, c165_4, A165_7, c165_7, e165, hx165_0, hx165_1, hx165_2, hx165_3, hx165_4, hx165_5, hx165_6, hx165_7, hl165_0, hi165_0, hl165_1, hi165_1, hl165_4, hi165_4, hl165_7, hi165_7⟩ := at_T76 HR0_5.out x5_1 p165 q165
      cases e165
      replace hx165_0 := (HB.out.cell (World.block_lt_of_cell? w _ hx165_0)).trans hx165_0
      replace hx165_1 := (HB.out.cell (World.block_lt_of_cell? w _ hx165_1)).trans hx165_1
      replace hx165_2 := (HB.out.cell (World.block_lt_of_cell? w _ hx165_2)).trans hx165_2
      replace hx165_3 := (HB.out.cell (World.block_lt_of_cell? w _ hx165_3)).trans hx165_3
      replace hx165_4 := (HB.out.cell (World.block_lt_of_cell? w _ hx165_4)).trans hx165_4
      replace hx165_5 := (HB.out.cell (World.block_lt_of_cell? w _ hx165_5)).trans hx165_5
      replace hx165_6 := (HB.out.cell (World.block_lt_of_cell? w _ hx165_6)).trans hx165_6
      replace hx165_7 := (HB.out.cell (World.block_lt_of_cell? w _ hx165_7)).trans hx165_7
      have HR165_0 := Aside0.mk hi165_0
      have HC165_0 := Aside0.mk hl165_0
      clear hi165_0 hl165_0
      have HR165_1 := Aside0.mk hi165_1
      have HC165_1 := Aside0.mk hl165_1
      clear hi165_1 hl165_1
      have HR165_4 := Aside0.mk hi165_4
      have HC165_4 := Aside0.mk hl165_4
      clear hi165_4 hl165_4
      have HR165_7 := Aside0.mk hi165_7
      have HC165_7 := Aside0.mk hl165_7
      clear hi165_7 hl165_7
      replace p165 := eq_true p165
      replace q165 := eq_true q165
      go_wp2_with (first | ((with_reducible refine gate_callee (f := 68) rfl ?_); refine goesL_ (some 20) rfl rfl Tryd.func68 (by kernel_rfl) rfl #[.slice A165_0 ((rd_T76 l0_5 x5_1).f0).length c165_0, .slice A1 l1.length c1] rfl (by (try simp only [List.map_toArray, List.map_cons, List.map_nil]); first | done | rfl | (simp only [List.length_drop, List.length_take]; rfl)) ?_; (with_reducible refine (spec_l3same.calls _ _ ((rd_T76 l0_5 x5_1).f0) _ _ l1 false _ ?side1 ?side2 ?side3 ?side4 A6.out).mono ?_); (case side1 => repeat (first | exact (Kd.C_below HR165_0.out HB.out) | (with_reducible refine Kd.C_alloc ?_ _) | (with_reducible refine Kd.C_drewN ?_ _) | (with_reducible refine Kd.C_drew ?_))); (case side2 => exact HC165_0.out); (case side3 => repeat (first | exact (Kd.C_below HR1.out HB.out) | (with_reducible refine Kd.C_alloc ?_ _) | (with_reducible refine Kd.C_drewN ?_ _) | (with_reducible refine Kd.C_drew ?_))); (case side4 => exact HC1.out); rintro e w' ⟨rfl, ⟨nd, rfl⟩⟩; refine ⟨_, rfl, ?_⟩))
      go_roundg k1
      case measure => have := HK1.out; omega
      case rel => exact ⟨(wrap64 (x5_1 + 1)), (by first | rfl | (simp; done) | (simp [*]; done)), H', ⟨by have := HK1.out; omega⟩, ⟨by (with_reducible repeat (first | refine blk_drewN ?_ _ | refine blk_drew ?_ | refine blk_alloc ?_ _)); exact BK164.out⟩, ⟨by repeat (first | (with_reducible first | exact HB.out | apply below_alloc | apply pw_below_drewN | apply below_drew1 | refine below_set ?_ GE164.out) | exact HB.out)⟩⟩
    ·
     rw [if_neg c5] at H
     exact absurd H (by simp)
   ·
    rw [if_neg c4] at H
    have c4b0 : decide (x5_1 < (l0_5.length : Int)) = false := decide_eq_false c4
    clear c4
    obtain rfl := Option.some.inj H
    have hcz10_0 : wr.cell? ⟨gb164, 0, none⟩ = some (.int .u64 a0_0) := (blk_cell BK164.out 0).trans rfl
    have hcz10_1 : wr.cell? ⟨gb164, 1, none⟩ = some (.int .u64 a0_1) := (blk_cell BK164.out 1).trans rfl
    have hcz10_2 : wr.cell? ⟨gb164, 2, none⟩ = some (.int .u64 a0_2) := (blk_cell BK164.out 2).trans rfl
    have hcz10_3 : wr.cell? ⟨gb164, 3, none⟩ = some (.int .i64 a0_3) := (blk_cell BK164.out 3).trans rfl
    have hcz10_4 : wr.cell? ⟨gb164, 4, none⟩ = some (.slice A0_4 l0_4.length c0_4) := (blk_cell BK164.out 4).trans rfl
    have hcz10_5 : wr.cell? ⟨gb164, 5, none⟩ = some (.slice A0_5 l0_5.length c0_5) := (blk_cell BK164.out 5).trans rfl
    have hfz10_0 := blk_frozen BK164.out 0
    have hfz10_1 := blk_frozen BK164.out 1
    have hfz10_2 := blk_frozen BK164.out 2
    have hfz10_3 := blk_frozen BK164.out 3
    have hfz10_4 := blk_frozen BK164.out 4
    have hfz10_5 := blk_frozen BK164.out 5
    go_wp2
    go_ret
    exact ⟨by first | rfl | (simp [errW_none, errW_some] <;> rfl) | (simp [*, errW_none, errW_some] <;> rfl), by repeat (first | (with_reducible first | exact HB.out | apply below_alloc | apply pw_below_drewN | apply below_drew1 | refine below_set ?_ GE164.out) | exact HB.out)⟩
theorem slash_const (w : World) : Kd.C (Kd.int .u8) (w.alloc (.cells #[.int .u8 47] 5 (1, 2))) (some ⟨w.heap.size, 0, none⟩) [(47 : Int)].length [47] :=
 Kd.C_of_reads (d := (0 : Int)) (h1 := fun _ => rfl) ⟨rfl, by simp, fun _ => ⟨⟨w.heap.size, 0, none⟩, rfl, fun j hj => by
  obtain rfl : j = 0 := by simpa using hj
  exact World.cell?_alloc_mark w #[.int .u8 47] 5 (1, 2) 0⟩⟩
set_option maxHeartbeats 4000000 in
set_option maxRecDepth 100000 in
theorem spec_parent_calls (A : Option Addr) (c : Nat) (p : List Int) (w : World) (h : Kd.C (Kd.int .u8) w A p.length p) (hc : p.length ≤ c) (hl : p.length ≤ 2097152) :
  Calls Tryd.prog 93 #[.slice A p.length c] w fun e w' => ∃ B d, e = .returned (.slice B (parentL p).length d) ∧ (parentL p).length ≤ d ∧ Kd.C (Kd.int .u8) w' B (parentL p).length (parentL p) ∧ Below w.heap.size w w' := by
 have HR := Aside0.mk h
 have HL := Aside0.mk (And.intro hc hl)
 have kc := fun (w : World) (C : Array Value) (n c : Nat) => Lib.run_convert_bytes_const (P := Tryd.prog) w 22 5 C n c Tryd.underlying22 Tryd.underlying5
 obtain ⟨i0, hi0, _, hsz0, _⟩ := info_parts info5
 have HCUT := Aside0.mk (fun (j : Int) (h0 : 0 ≤ j) (hm : j ≤ p.length) => print_take_of (P := Tryd.prog) (Value.int .u8) 0 22 5 .i64 Tryd.underlying22 hi0 hsz0 A c p j h0 hm hc)
 clear h hc hi0 hsz0
 go_enter Tryd.func93, Tryd.ntmps93
 go_wp2_with fail
 go_loop [3, 4] (fun v3 v4 => ∃ a i : Nat, v3 = .int .i64 a ∧ v4 = .int .i64 i ∧ Aside0 (i ≤ p.length ∧ a ≤ p.length) ∧ Aside0 (lastFrom p 0 0 = lastFrom (p.drop i) i a)) (fun _ v4 => p.length - (intOf v4).toNat)
 case atStart => exact ⟨0, 0, rfl, rfl, ⟨⟨by omega, by omega⟩⟩, ⟨rfl⟩⟩
 case round =>
  obtain ⟨a, i, rfl, rfl, HJ, HV⟩ := hrel
  have hj0 := HJ.out
  by_cases hj : i < p.length
  ·
   have c1 : decide ((i : Int) < (p.length : Int)) = true := decide_eq_true (by omega)
   have ci : (0 : Int) ≤ (i : Int) := by omega
   have ci2 : (i : Int) < (p.length : Int) := by omega
   obtain ⟨ad, rfl, hx⟩ := Kd.at_int HR.out (i : Int) (by omega) (by omega)
   rw [Int.toNat_natCast, rd_nat, getD_at p i hj] at hx
   have HN := Aside0.mk (show lastFrom p 0 0 = lastFrom (p.drop (i + 1)) (i + 1) (if p[i] = 47 then i else a) by rw [HV.out, List.drop_eq_getElem_cons hj, lastFrom])
   obtain ⟨x, hxx⟩ : ∃ x, p[i] = x := ⟨_, rfl⟩
   rw [hxx] at hx HN
   clear HV hxx HCUT kc
   by_cases h47 : x = 47
   ·
    subst h47
    have HN := Aside0.mk (show lastFrom p 0 0 = lastFrom (p.drop (i + 1)) (i + 1) i by rw [HN.out, if_pos rfl])
    go_wp2_with fail
    go_round
    case rel => exact ⟨i, i + 1, rfl, by go_num, ⟨⟨by omega, by omega⟩⟩, HN⟩
    case measure => simp [intOf]; omega
   ·
    have d2 : decide (x = 47) = false := decide_eq_false h47
    have d3 : (x == 47) = false := by rw [beq_eq_false_iff_ne]; exact h47
    have HN := Aside0.mk (show lastFrom p 0 0 = lastFrom (p.drop (i + 1)) (i + 1) a by rw [HN.out, if_neg h47])
    go_wp2_with fail
    go_round
    case rel => exact ⟨a, i + 1, rfl, by go_num, ⟨⟨by omega, by omega⟩⟩, HN⟩
    case measure => simp [intOf]; omega
  ·
   have c1 : decide ((i : Int) < (p.length : Int)) = false := decide_eq_false (by omega)
   have hi : i = p.length := by omega
   have HA := Aside0.mk (show lastFrom p 0 0 = a by rw [HV.out, hi, List.drop_length, lastFrom])
   have HC := HCUT.out (a : Int) (by omega) (by omega)
   have hcut := HC.1
   have HC2 := Aside0.mk HC.2
   rw [Int.toNat_natCast] at hcut HC2
   clear HC HCUT HV
   by_cases h0 : a = 0
   ·
    have d2 : decide ((a : Int) = 0) = true := decide_eq_true (by omega)
    have d3 : ((a : Int) == 0) = true := by rw [beq_iff_eq]; omega
    have HP := Aside0.mk (show parentL p = [47] by unfold parentL; rw [HA.out, if_pos h0])
    clear h0 hcut hi
    go_wp2_with fail
    go_ret
    rw [HP.out]
    exact ⟨some ⟨w.heap.size, 0, none⟩, 1, rfl, by simp, slash_const w, (Below.refl _ w).alloc (Nat.le_refl _) _⟩
   ·
    have d2 : decide ((a : Int) = 0) = false := decide_eq_false (by omega)
    have d3 : ((a : Int) == 0) = false := by rw [beq_eq_false_iff_ne]; omega
    have HP := Aside0.mk (show parentL p = p.take a by unfold parentL; rw [HA.out, if_neg h0])
    clear h0 hi
    go_wp2_with fail
    go_ret
    rw [HP.out]
    have hta : (p.take a).length = a := by rw [List.length_take]; have := hj0.2; omega
    exact ⟨A, c, by rw [hta]; rfl, HC2.out.2, Kd.C_of_reads (h1 := fun _ => rfl) (HC2.out.1 _ (Kd.reads_of_C HR.out)), Below.refl _ _⟩
theorem bytesOf_beq {a b : List Int} (ha : ∀ x ∈ a, 0 ≤ x ∧ x < 256) (hb : ∀ x ∈ b, 0 ≤ x ∧ x < 256) : (Lib.bytesOf a == Lib.bytesOf b) = (a == b) := by
 by_cases h : a = b
 ·
  rw [h, beq_self_eq_true, beq_self_eq_true]
 ·
  rw [beq_eq_false_iff_ne.2 h, beq_eq_false_iff_ne.2 (fun e => h (bytesOf_inj ha hb e))]
theorem same_f {a b : List Int} (ha : ∀ x ∈ a, 0 ≤ x ∧ x < 256) (hb : ∀ x ∈ b, 0 ≤ x ∧ x < 256) : spec_l3same.f a b = some (a == b) := by
 unfold spec_l3same.f
 rw [Lib.strOfNums_toList, Lib.strOfNums_toList, bytesOf_beq ha hb]
def ixOf (p : List Int) : List No → Nat → Option Nat
 | [], _ => none
 | n :: r, i => if n.f0 == p then some i else ixOf p r (i + 1)
theorem node_loop (p : List Int) (e g n t : Int) (xs : List Se) (ns : List No) (hl : ns.length ≤ 2097152) (hp : ∀ x ∈ p, 0 ≤ x ∧ x < 256) (hn : ∀ m ∈ ns, ∀ x ∈ m.f0, 0 ≤ x ∧ x < 256) : ∀ (d k i : Nat), i + d = ns.length → d < k →
  spec_l3node.l0 k p (i : Int) e g n t xs ns = some (match ixOf p (ns.drop i) i with | none => -1 | some j => (j : Int)) := by
 intro d
 induction d with
 | zero =>
  intro k i hi hk
  obtain ⟨k, rfl⟩ : ∃ m, k = m + 1 := ⟨k - 1, by omega⟩
  rw [spec_l3node.l0, if_neg (by omega), List.drop_eq_nil_of_le (by omega), ixOf]
 | succ d ih =>
  intro k i hi hk
  obtain ⟨k, rfl⟩ : ∃ m, k = m + 1 := ⟨k - 1, by omega⟩
  have hlt : i < ns.length := by omega
  have ex : rd_T76 ns (i : Int) = ns[i] := by unfold rd_T76; rw [Int.toNat_natCast, List.getD_eq_getElem?_getD, List.getElem?_eq_getElem hlt]; rfl
  rw [spec_l3node.l0, if_pos (by omega), if_pos (by omega), ex, same_f (hn _ (List.getElem_mem hlt)) hp, Option.bind_some, List.drop_eq_getElem_cons hlt, ixOf]
  by_cases c : (ns[i].f0 == p) = true
  ·
   rw [if_pos c, if_pos c]
  ·
   rw [if_neg c, if_neg c, wrap_up i (by omega), ih k (i + 1) (by omega) (by omega)]
theorem ixOf_find (p : List Int) : ∀ (ns : List No) (i : Nat), match ixOf p ns i with
  | none => ns.find? (fun n => n.f0 == p) = none
  | some j => i ≤ j ∧ j - i < ns.length ∧ ns.find? (fun n => n.f0 == p) = ns[j - i]?
 | [], i => by simp [ixOf]
 | n :: r, i => by
  rw [ixOf]
  by_cases c : (n.f0 == p) = true
  ·
   rw [if_pos c]
   simp only
   rw [show (n :: r).find? (fun n => n.f0 == p) = some n from by simp [List.find?_cons, c], Nat.sub_self]
   exact ⟨Nat.le_refl _, by simp, rfl⟩
  ·
   rw [if_neg c, show (n :: r).find? (fun n => n.f0 == p) = r.find? (fun n => n.f0 == p) from by simp [List.find?_cons, c]]
   have ih := ixOf_find p r (i + 1)
   cases hx : ixOf p r (i + 1) with
   | none => rw [hx] at ih; exact ih
   | some j =>
    rw [hx] at ih
    simp only at ih ⊢
    obtain ⟨h1, h2, h3⟩ := ih
    refine ⟨by omega, by simp; omega, ?_⟩
    rw [h3, show j - i = (j - (i + 1)) + 1 by omega, List.getElem?_cons_succ]
set_option maxHeartbeats 4000000 in
set_option maxRecDepth 100000 in
theorem spec_canParent_calls (e g n t : Int) (As : Option Addr) (cs : Nat) (xs : List Se) (An : Option Addr) (cn : Nat) (ns : List No) (A : Option Addr) (c : Nat) (p : List Int) (w : World) (h1 : Kd.C kSe w As xs.length xs) (hc1 : xs.length ≤ cs) (h2 : Kd.C kNo w An ns.length ns) (hc2 : ns.length ≤ cn) (h3 : Kd.C (Kd.int .u8) w A p.length p) (hc3 : p.length ≤ c) (hl : ns.length ≤ 2097152) (hp : ∀ x ∈ p, 0 ≤ x ∧ x < 256) (hn : ∀ m ∈ ns, ∀ x ∈ m.f0, 0 ≤ x ∧ x < 256) :
  Calls Tryd.prog 92 #[.agg #[.int .u64 e, .int .u64 g, .int .u64 n, .int .i64 t, .slice As xs.length cs, .slice An ns.length cn], .slice A p.length c] w fun r w' => r = .returned (.bool (canParB ns p)) ∧ Below w.heap.size w w' := by
 have HR := Aside0.mk (And.intro h1 (And.intro h2 h3))
 have HL := Aside0.mk (And.intro hc1 (And.intro hc2 hc3))
 have HN := Aside0.mk (node_loop p e g n t xs ns hl hp hn ns.length 3000000 0 (by omega) (by omega))
 have HF := Aside0.mk (ixOf_find p ns 0)
 have HS := Aside0.mk (same_f hp (show ∀ x ∈ [(47 : Int)], 0 ≤ x ∧ x < 256 by simp))
 have kc := fun (w : World) (C : Array Value) (n c : Nat) => Lib.run_convert_bytes_const (P := Tryd.prog) w 22 5 C n c Tryd.underlying22 Tryd.underlying5
 have kc2 := kc (w.alloc (.cells #[.int .u64 e, .int .u64 g, .int .u64 n, .int .i64 t, .slice As xs.length cs, .slice An ns.length cn] 36)) #[.int .u8 47] 1 1
 simp only [World.size_alloc] at kc2
 clear h1 hc1 h2 hc2 h3 hc3 hp hn kc
 go_enter Tryd.func92, Tryd.ntmps92
 go_wp2_with fail
 have hB := below_alloc (Below.refl w.heap.size w) (.cells #[.int .u64 e, .int .u64 g, .int .u64 n, .int .i64 t, .slice As xs.length cs, .slice An ns.length cn] 36)
 have b0 := blk_new w (.cells #[.int .u64 e, .int .u64 g, .int .u64 n, .int .i64 t, .slice As xs.length cs, .slice An ns.length cn] 36)
 have hWs : (w.alloc (.cells #[.int .u64 e, .int .u64 g, .int .u64 n, .int .i64 t, .slice As xs.length cs, .slice An ns.length cn] 36)).heap.size = w.heap.size + 1 := World.size_alloc _ _
 generalize (w.alloc (.cells #[.int .u64 e, .int .u64 g, .int .u64 n, .int .i64 t, .slice As xs.length cs, .slice An ns.length cn] 36)) = W at *
 have hsl := slash_const W
 rw [hWs] at hsl
 have hB2 : Below W.heap.size W (W.alloc (.cells #[.int .u8 47] 5 (1, 2))) := (Below.refl _ W).alloc (Nat.le_refl _) _
 have hB3 := below_step hB hB2
 obtain ⟨sb, hsb⟩ : ∃ sb, (p == [47]) = sb := ⟨_, rfl⟩
 rw [hsb] at HS
 have HSB := Aside0.mk hsb
 clear hsb
 refine (spec_l3same.calls A c p _ 1 [47] sb _ (Kd.C_below HR.out.2.2 hB3) HL.out.2.2 hsl (Nat.le_refl _) HS.out).mono ?_
 rintro r w2 ⟨rfl, hdr⟩
 have HB := Aside0.mk (below_step hB3 hdr.below)
 have BX := Aside0.mk (blk_below (blk_below b0 hB2) hdr.below)
 clear hdr hB hB2 hB3 b0 hsl hWs kc2
 cases sb with
 | true =>
  go_wp2_with fail
  go_ret
  rw [show canParB ns p = true by unfold canParB; rw [HSB.out]; rfl]
  exact ⟨rfl, HB.out⟩
 | false =>
  have z0 := blk_cell BX.out 0
  have z1 := blk_cell BX.out 1
  have z2 := blk_cell BX.out 2
  have z3 := blk_cell BX.out 3
  have z4 := blk_cell BX.out 4
  have z5 := blk_cell BX.out 5
  simp only [List.getElem?_toArray, List.getElem?_cons_zero, List.getElem?_cons_succ] at z0 z1 z2 z3 z4 z5
  have HC := Aside0.mk (show canParB ns p = match ns.find? (fun n => n.f0 == p) with | none => false | some n => n.f2 == 0 by unfold canParB; rw [HSB.out, Bool.false_or]; try (cases ns.find? (fun n => n.f0 == p) <;> rfl))
  clear HSB
  go_wp2_with fail
  refine (spec_l3node.calls 3000000 e g n t As cs xs An cn ns A c p _ _ (Kd.C_below HR.out.1 HB.out) HL.out.1 (Kd.C_below HR.out.2.1 HB.out) HL.out.2.1 (Kd.C_below HR.out.2.2 HB.out) HL.out.2.2 HN.out).mono ?_
  rintro r w3 ⟨rfl, hb⟩
  have HB2 := Aside0.mk (below_step HB.out hb)
  have BX2 := Aside0.mk (blk_below BX.out hb)
  clear hb HB BX z0 z1 z2 z3 z4 z5
  have z5 := blk_cell BX2.out 5
  simp only [List.getElem?_toArray, List.getElem?_cons_zero, List.getElem?_cons_succ] at z5
  rw [List.drop_zero]
  cases hx : ixOf p ns 0 with
  | none =>
   have hf := HF.out
   rw [hx] at hf
   simp only at hf
   have HC2 := Aside0.mk (show canParB ns p = false by rw [HC.out, hf])
   clear hf HC hx HF HN
   go_wp2_with fail
   go_ret
   rw [HC2.out]
   exact ⟨rfl, HB2.out⟩
  | some j =>
   have hf := HF.out
   rw [hx] at hf
   simp only at hf
   obtain ⟨_, hj, hfj⟩ := hf
   rw [Nat.sub_zero] at hj hfj
   have HC2 := Aside0.mk (show canParB ns p = (ns[j].f2 == 0) by rw [HC.out, hfj, List.getElem?_eq_getElem hj])
   have cj : (0 : Int) ≤ (j : Int) := by omega
   have cj2 : (j : Int) < (ns.length : Int) := by omega
   obtain ⟨ad, A0, c0_, A1, c1_, A4, c4_, A7, c7_, eA, hx0, hx1, hx2, _⟩ := at_T76 HR.out.2.1 (j : Int) (by omega) (by omega)
   have ex : rd_T76 ns (j : Int) = ns[j] := by unfold rd_T76; rw [Int.toNat_natCast, List.getD_eq_getElem?_getD, List.getElem?_eq_getElem hj]; rfl
   rw [ex] at hx2
   cases eA
   replace hx2 := (HB2.out.cell (World.block_lt_of_cell? w _ hx2)).trans hx2
   rw [Int.toNat_natCast] at hx2
   obtain ⟨x, hxx⟩ : ∃ x, ns[j].f2 = x := ⟨_, rfl⟩
   rw [hxx] at hx2 HC2
   clear hxx ex hx0 hx1 HC hx HF HN hfj
   go_wp2_with fail
   go_ret
   rw [HC2.out]
   exact ⟨rfl, HB2.out⟩
def spec_l3nameByte.f (a0 : Int) : Option (Bool) := if a0 ≥ 97 then (if a0 ≤ 122 then (some true) else (if a0 ≥ 48 then (if a0 ≤ 57 then (some true) else (if a0 = 45 then (some true) else (some (a0 == 95)))) else (if a0 = 45 then (some true) else (some (a0 == 95))))) else (if a0 ≥ 48 then (if a0 ≤ 57 then (some true) else (if a0 = 45 then (some true) else (some (a0 == 95)))) else (if a0 = 45 then (some true) else (some (a0 == 95))))
set_option maxHeartbeats 8000000 in
set_option maxRecDepth 100000 in
theorem spec_l3nameByte.calls (a0 : Int) (r : Bool) (w : World) (h : spec_l3nameByte.f a0 = some r) :
  Calls Tryd.prog 86 #[.int .u8 a0] w fun e w' => e = .returned (.bool r) ∧ Drawn0 w w' := by
 have H : (if a0 ≥ 97 then (if a0 ≤ 122 then (some true) else (if a0 ≥ 48 then (if a0 ≤ 57 then (some true) else (if a0 = 45 then (some true) else (some (a0 == 95)))) else (if a0 = 45 then (some true) else (some (a0 == 95))))) else (if a0 ≥ 48 then (if a0 ≤ 57 then (some true) else (if a0 = 45 then (some true) else (some (a0 == 95)))) else (if a0 = 45 then (some true) else (some (a0 == 95))))) = some r := h
 clear h
 by_cases c2 : a0 ≥ 97
 ·
  rw [if_pos c2] at H
  have c2b0 : decide (97 ≤ a0) = true := decide_eq_true c2
  clear c2
  by_cases c3 : a0 ≤ 122
  ·
   rw [if_pos c3] at H
   have c3b0 : decide (a0 ≤ 122) = true := decide_eq_true c3
   clear c3
   obtain rfl := Option.some.inj H
   go_enter Tryd.func86, Tryd.ntmps86
   go_wp2
   go_ret
   exact ⟨by first | rfl | (simp; done) | (simp [*]; done), by repeat (first | exact Drawn0.refl _ | apply Drawn0.step)⟩
  ·
   rw [if_neg c3] at H
   have c3b0 : decide (a0 ≤ 122) = false := decide_eq_false c3
   clear c3
   by_cases c4 : a0 ≥ 48
   ·
    rw [if_pos c4] at H
    have c4b0 : decide (48 ≤ a0) = true := decide_eq_true c4
    clear c4
    by_cases c5 : a0 ≤ 57
    ·
     rw [if_pos c5] at H
     have c5b0 : decide (a0 ≤ 57) = true := decide_eq_true c5
     clear c5
     obtain rfl := Option.some.inj H
     go_enter Tryd.func86, Tryd.ntmps86
     go_wp2
     go_ret
     exact ⟨by first | rfl | (simp; done) | (simp [*]; done), by repeat (first | exact Drawn0.refl _ | apply Drawn0.step)⟩
    ·
     rw [if_neg c5] at H
     have c5b0 : decide (a0 ≤ 57) = false := decide_eq_false c5
     clear c5
     by_cases c6 : a0 = 45
     ·
      rw [if_pos c6] at H
      have c6b0 : (a0 == 45) = true := beq_iff_eq.mpr c6
      have c6b1 : (a0 != 45) = false := bne_eq_false_iff_eq.mpr c6
      clear c6
      obtain rfl := Option.some.inj H
      go_enter Tryd.func86, Tryd.ntmps86
      go_wp2
      go_ret
      exact ⟨by first | rfl | (simp; done) | (simp [*]; done), by repeat (first | exact Drawn0.refl _ | apply Drawn0.step)⟩
     ·
      rw [if_neg c6] at H
      have c6b0 : (a0 == 45) = false := beq_eq_false_iff_ne.mpr c6
      have c6b1 : (a0 != 45) = true := bne_iff_ne.mpr c6
      obtain rfl := Option.some.inj H
      go_enter Tryd.func86, Tryd.ntmps86
      go_wp2
      go_ret
      exact ⟨by first | rfl | (simp; done) | (simp [*]; done), by repeat (first | exact Drawn0.refl _ | apply Drawn0.step)⟩
   ·
    rw [if_neg c4] at H
    have c4b0 : decide (48 ≤ a0) = false := decide_eq_false c4
    clear c4
    by_cases c7 : a0 = 45
    ·
     rw [if_pos c7] at H
     have c7b0 : (a0 == 45) = true := beq_iff_eq.mpr c7
     have c7b1 : (a0 != 45) = false := bne_eq_false_iff_eq.mpr c7
     clear c7
     obtain rfl := Option.some.inj H
     go_enter Tryd.func86, Tryd.ntmps86
     go_wp2
     go_ret
     exact ⟨by first | rfl | (simp; done) | (simp [*]; done), by repeat (first | exact Drawn0.refl _ | apply Drawn0.step)⟩
    ·
     rw [if_neg c7] at H
     have c7b0 : (a0 == 45) = false := beq_eq_false_iff_ne.mpr c7
     have c7b1 : (a0 != 45) = true := bne_iff_ne.mpr c7
     obtain rfl := Option.some.inj H
     go_enter Tryd.func86, Tryd.ntmps86
     go_wp2
     go_ret
     exact ⟨by first | rfl | (simp; done) | (simp [*]; done), by repeat (first | exact Drawn0.refl _ | apply Drawn0.step)⟩
 ·
  rw [if_neg c2] at H
  have c2b0 : decide (97 ≤ a0) = false := decide_eq_false c2
  clear c2
  by_cases c8 : a0 ≥ 48
  ·
   rw [if_pos c8] at H
   have c8b0 : decide (48 ≤ a0) = true := decide_eq_true c8
   clear c8
   by_cases c9 : a0 ≤ 57
   ·
    rw [if_pos c9] at H
    have c9b0 : decide (a0 ≤ 57) = true := decide_eq_true c9
    clear c9
    obtain rfl := Option.some.inj H
    go_enter Tryd.func86, Tryd.ntmps86
    go_wp2
    go_ret
    exact ⟨by first | rfl | (simp; done) | (simp [*]; done), by repeat (first | exact Drawn0.refl _ | apply Drawn0.step)⟩
   ·
    rw [if_neg c9] at H
    have c9b0 : decide (a0 ≤ 57) = false := decide_eq_false c9
    clear c9
    by_cases c10 : a0 = 45
    ·
     rw [if_pos c10] at H
     have c10b0 : (a0 == 45) = true := beq_iff_eq.mpr c10
     have c10b1 : (a0 != 45) = false := bne_eq_false_iff_eq.mpr c10
     clear c10
     obtain rfl := Option.some.inj H
     go_enter Tryd.func86, Tryd.ntmps86
     go_wp2
     go_ret
     exact ⟨by first | rfl | (simp; done) | (simp [*]; done), by repeat (first | exact Drawn0.refl _ | apply Drawn0.step)⟩
    ·
     rw [if_neg c10] at H
     have c10b0 : (a0 == 45) = false := beq_eq_false_iff_ne.mpr c10
     have c10b1 : (a0 != 45) = true := bne_iff_ne.mpr c10
     obtain rfl := Option.some.inj H
     go_enter Tryd.func86, Tryd.ntmps86
     go_wp2
     go_ret
     exact ⟨by first | rfl | (simp; done) | (simp [*]; done), by repeat (first | exact Drawn0.refl _ | apply Drawn0.step)⟩
  ·
   rw [if_neg c8] at H
   have c8b0 : decide (48 ≤ a0) = false := decide_eq_false c8
   clear c8
   by_cases c11 : a0 = 45
   ·
    rw [if_pos c11] at H
    have c11b0 : (a0 == 45) = true := beq_iff_eq.mpr c11
    have c11b1 : (a0 != 45) = false := bne_eq_false_iff_eq.mpr c11
    clear c11
    obtain rfl := Option.some.inj H
    go_enter Tryd.func86, Tryd.ntmps86
    go_wp2
    go_ret
    exact ⟨by first | rfl | (simp; done) | (simp [*]; done), by repeat (first | exact Drawn0.refl _ | apply Drawn0.step)⟩
   ·
    rw [if_neg c11] at H
    have c11b0 : (a0 == 45) = false := beq_eq_false_iff_ne.mpr c11
    have c11b1 : (a0 != 45) = true := bne_iff_ne.mpr c11
    obtain rfl := Option.some.inj H
    go_enter Tryd.func86, Tryd.ntmps86
    go_wp2
    go_ret
    exact ⟨by first | rfl | (simp; done) | (simp [*]; done), by repeat (first | exact Drawn0.refl _ | apply Drawn0.step)⟩
mutual
def spec_l3names.l0 : Nat → List Int → List (List Int) → Int → Option ((List (List Int)) × Bool)
  | 0, _, _, _ => none
  | k + 1, x0, x4, x5 => if x5 < (x0.length : Int) then (if 0 ≤ x5 then (if (rd x0 x5) = 47 then (spec_l3names.l1 k x0 x4 (wrap64 (x5 + 1)) ([] : List Int)) else (some (([] : List (List Int)), false))) else (none)) else (if (x4.length : Int) ≥ 1 then (some (x4, decide ((x4.length : Int) ≤ 8))) else (some (x4, false)))
def spec_l3names.l1 : Nat → List Int → List (List Int) → Int → List Int → Option ((List (List Int)) × Bool)
  | 0, _, _, _, _ => none
  | k + 1, x0, x4, x5, x6 => if x5 < (x0.length : Int) then (if 0 ≤ x5 then (spec_l3names.j2 k x0 x4 x5 x6 ((rd x0 x5) != 47)) else (none)) else (spec_l3names.j2 k x0 x4 x5 x6 false)
def spec_l3names.j2 : Nat → List Int → List (List Int) → Int → List Int → Bool → Option ((List (List Int)) × Bool)
  | 0, _, _, _, _, _ => none
  | k + 1, x0, x4, x5, x6, x28 => if x28 = true then (if 0 ≤ x5 then (if x5 < (x0.length : Int) then ((spec_l3nameByte.f (rd x0 x5)).bind fun t104 => (if t104 = true then (if x6.length < 140737488355328 then (spec_l3names.l1 k x0 x4 (wrap64 (x5 + 1)) (x6 ++ [rd x0 x5])) else (none)) else (some (([] : List (List Int)), false)))) else (none)) else (none)) else (if (x6.length : Int) < 1 then (some (([] : List (List Int)), false)) else (if (x6.length : Int) > 16 then (some (([] : List (List Int)), false)) else (if x4.length < 5864062014805 then (spec_l3names.l0 k x0 (x4 ++ [x6]) x5) else (none))))
end
def spec_l3names.f (k : Nat) (l0 : List Int) : Option ((List (List Int)) × Bool) := spec_l3names.l0 k l0 ([] : List (List Int)) 0
set_option maxHeartbeats 8000000 in
set_option maxRecDepth 100000 in
theorem spec_l3names.calls (k : Nat) (A0 : Option Addr) (c0 : Nat) (l0 : List Int) (r1 : List (List Int)) (r2 : Bool) (w : World) (hr0 : Kd.C (Kd.int .u8) w A0 l0.length l0) (hc0 : l0.length ≤ c0) (h : spec_l3names.f k l0 = some (r1, r2)) :
  Calls Tryd.prog 36 #[.slice A0 l0.length c0] w fun e w' => ∃ v0_ : Value, e = .returned (.tuple #[v0_, .bool r2]) ∧ Kd.S (Kd.slice 5 (Kd.int .u8)) 22 w' w.heap.size (fun _ => True) v0_ r1 ∧ Below w.heap.size w w' := by
 have HR0 := Aside0.mk hr0
 have HC0 := Aside0.mk hc0
 clear hr0 hc0
 have HB := Aside0.mk (Below.refl w.heap.size w)
 have H : (spec_l3names.l0 k l0 ([] : List (List Int)) 0) = some (r1, r2) := h
 clear h
 have H' := Aside0.mk H
 clear H
 go_enter Tryd.func36, Tryd.ntmps36
 go_wp2
 go_loopg [4, 5] k (fun kq v4 v5 w' => ∃ (x4_1 : List (List Int)) (x5_1 : Int), v5 = .int .i64 x5_1 ∧ Aside0 (spec_l3names.l0 kq l0 x4_1 x5_1 = some (r1, r2)) ∧ Aside0 (kq ≤ k) ∧ Aside0 (Kd.S (Kd.slice 5 (Kd.int .u8)) 22 w' w.heap.size (fun _ => True) v4 x4_1) ∧ Aside0 (Below w.heap.size w w'))
 case atStart => exact ⟨(([] : List (List Int))), (0), (by first | rfl | (simp; done) | (simp [*]; done)), H', ⟨Nat.le_refl _⟩, ⟨by first | exact Kd.S_nil _ _ _ _ _ | exact Kd.N_nil _ _ _ _ _ | exact Kd.V_nil _ _ _ _ _ | exact Kd.Q_nil _ _ _ _ _ | exact Kd.R_nil _ _ _ _ _⟩, ⟨by repeat (first | (with_reducible first | exact HB.out | apply below_alloc | apply pw_below_drewN | apply below_drew1) | exact HB.out)⟩⟩
 case round =>
  clear H'
  obtain ⟨x4_1, x5_1, rfl, HA, HK1, HO_4, HB⟩ := hrel
  cases gk with
  | zero => exact absurd HA.out (by simp [spec_l3names.l0])
  | succ k1 =>
   have H := HA.out
   clear HA
   simp only [spec_l3names.l0] at H
   by_cases c2 : x5_1 < (l0.length : Int)
   ·
    rw [if_pos c2] at H
    have c2b0 : decide (x5_1 < (l0.length : Int)) = true := decide_eq_true c2
    clear c2
    by_cases c3 : 0 ≤ x5_1
    ·
     rw [if_pos c3] at H
     have c3b0 : decide (0 ≤ x5_1) = true := decide_eq_true c3
     clear c3
     by_cases c4 : (rd l0 x5_1) = 47
     ·
      rw [if_pos c4] at H
      have c4b0 : ((rd l0 x5_1) == 47) = true := beq_iff_eq.mpr c4
      have c4b1 : ((rd l0 x5_1) != 47) = false := bne_eq_false_iff_eq.mpr c4
      clear c4
      have H' := Aside0.mk H
      clear H
      have p101 : 0 ≤ (x5_1 : Int) := of_decide_eq_true (by first | (with_reducible assumption) | assumption)
      have q101 : x5_1 < (l0.length : Int) := of_decide_eq_true (by first | (with_reducible assumption) | assumption)
      obtain ⟨ad101, e101, hx101_0⟩ := Kd.at_int HR0.out x5_1 p101 q101
      cases e101
      replace hx101_0 := (HB.out.cell (World.block_lt_of_cell? w _ hx101_0)).trans hx101_0
      replace p101 := eq_true p101
      replace q101 := eq_true q101
      go_wp2
      go_loopg [5, 6] k1 (fun kq v5 v6 w' => ∃ (x5_2 : Int) (x6_2 : List Int), v5 = .int .i64 x5_2 ∧ Aside0 (spec_l3names.l1 kq l0 x4_1 x5_2 x6_2 = some (r1, r2)) ∧ Aside0 (kq ≤ k1) ∧ Aside0 (Kd.S (Kd.slice 5 (Kd.int .u8)) 22 w' w.heap.size (fun k_ => some k_ ≠ (v6 : Value).ownBlock) u4 x4_1) ∧ Aside0 (Kd.R (Kd.int .u8) 5 w' w.heap.size (fun _ => True) v6 x6_2) ∧ Aside0 (Below w.heap.size w w'))
      case atStart => exact ⟨(wrap64 (x5_1 + 1)), (([] : List Int)), (by first | rfl | (simp; done) | (simp [*]; done)), H', ⟨Nat.le_refl _⟩, ⟨by (with_reducible repeat (first | apply Kd.S_alloc | apply Kd.S_drewN | apply Kd.S_drew)); exact Kd.S_mono HO_4.out (fun _ hk => (by simp [Value.ownBlock]))⟩, ⟨by first | exact Kd.R_nil _ _ _ _ _ | exact Kd.N_nil _ _ _ _ _ | exact Kd.V_nil _ _ _ _ _ | exact Kd.Q_nil _ _ _ _ _ | exact Kd.S_nil _ _ _ _ _⟩, ⟨by repeat (first | (with_reducible first | exact HB.out | apply below_alloc | apply pw_below_drewN | apply below_drew1) | exact HB.out)⟩⟩
      case round =>
       clear H'
       try clear p1
       try clear q1
       try clear hx1
       try clear c2
       try clear c2b0
       try clear p2
       try clear c3
       try clear c3b0
       try clear c4
       try clear c4b0
       try clear c4b1
       try clear hx101_0
       try clear p101
       try clear q101
       obtain ⟨x5_2, x6_2, rfl, HA, HK2, HO_4, HO_6, HB⟩ := hrel
       cases gk with
       | zero => exact absurd HA.out (by simp [spec_l3names.l1])
       | succ k2 =>
        have H := HA.out
        clear HA
        simp only [spec_l3names.l1] at H
        have HC5 := Aside0.mk H
        clear H
        go_upto_region 8 with (fail)
        go_cut [28] (fun v28 wc => ∃ (kq : Nat) (x28_4 : Bool), v28 = .bool x28_4 ∧ Aside0 (spec_l3names.j2 kq l0 x4_1 x5_2 x6_2 x28_4 = some (r1, r2)) ∧ Aside0 (kq ≤ k2) ∧ Aside0 (Kd.S (Kd.slice 5 (Kd.int .u8)) 22 wc w.heap.size (fun k_ => some k_ ≠ (u6 : Value).ownBlock) u4 x4_1) ∧ Aside0 (Kd.R (Kd.int .u8) 5 wc w.heap.size (fun _ => True) u6 x6_2) ∧ Aside0 (Below w.heap.size w wc))
        case first =>
         have H := HC5.out
         clear HC5
         by_cases c6 : x5_2 < (l0.length : Int)
         ·
          rw [if_pos c6] at H
          have c6b0 : decide (x5_2 < (l0.length : Int)) = true := decide_eq_true c6
          clear c6
          (first | rw [c6b0] | (simp only [i64_w, i32_w]; rw [c6b0]) | skip)
          by_cases c7 : 0 ≤ x5_2
          ·
           rw [if_pos c7] at H
           have c7b0 : decide (0 ≤ x5_2) = true := decide_eq_true c7
           clear c7
           have H' := Aside0.mk H
           clear H
           have p102 : 0 ≤ (x5_2 : Int) := of_decide_eq_true (by first | (with_reducible assumption) | assumption)
           have q102 : x5_2 < (l0.length : Int) := of_decide_eq_true (by first | (with_reducible assumption) | assumption)
           obtain ⟨ad102, e102, hx102_0⟩ := Kd.at_int HR0.out x5_2 p102 q102
           obtain rfl : ad101 = ad102 := (by injection e102)
           replace hx102_0 := (HB.out.cell (World.block_lt_of_cell? w _ hx102_0)).trans hx102_0
           replace p102 := eq_true p102
           replace q102 := eq_true q102
           go_wp2
           go_meet
           case rel => exact ⟨_, (((rd l0 x5_2) != 47)), (by first | rfl | (simp; done) | (simp [*]; done)), H', ⟨by have := HK1.out; have := HK2.out; first | omega | exact Nat.le_refl _⟩, ⟨by (with_reducible repeat (first | apply Kd.S_alloc | apply Kd.S_drewN | apply Kd.S_drew)); exact HO_4.out⟩, ⟨by (with_reducible repeat (first | apply Kd.R_alloc | apply Kd.R_drewN | apply Kd.R_drew)); exact HO_6.out⟩, ⟨by repeat (first | (with_reducible first | exact HB.out | apply below_alloc | apply pw_below_drewN | apply below_drew1) | exact HB.out)⟩⟩
          ·
           rw [if_neg c7] at H
           exact absurd H (by simp)
         ·
          rw [if_neg c6] at H
          have c6b0 : decide (x5_2 < (l0.length : Int)) = false := decide_eq_false c6
          clear c6
          (first | rw [c6b0] | (simp only [i64_w, i32_w]; rw [c6b0]) | skip)
          have H' := Aside0.mk H
          clear H
          go_wp2
          go_meet
          case rel => exact ⟨_, (false), (by first | rfl | (simp; done) | (simp [*]; done)), H', ⟨by have := HK1.out; have := HK2.out; first | omega | exact Nat.le_refl _⟩, ⟨by (with_reducible repeat (first | apply Kd.S_alloc | apply Kd.S_drewN | apply Kd.S_drew)); exact HO_4.out⟩, ⟨by (with_reducible repeat (first | apply Kd.R_alloc | apply Kd.R_drewN | apply Kd.R_drew)); exact HO_6.out⟩, ⟨by repeat (first | (with_reducible first | exact HB.out | apply below_alloc | apply pw_below_drewN | apply below_drew1) | exact HB.out)⟩⟩
        case rest =>
         clear HC5
         try clear p1
         try clear q1
         try clear hx1
         try clear c2
         try clear c2b0
         try clear p2
         try clear c3
         try clear c3b0
         try clear c4
         try clear c4b0
         try clear c4b1
         try clear c6
         try clear c6b0
         try clear p6
         try clear c7
         try clear c7b0
         try clear hx101_0
         try clear hx102_0
         try clear p1
         try clear p101
         try clear p102
         try clear p2
         try clear q1
         try clear q101
         try clear q102
         obtain ⟨kq, x28_4, rfl, HA, HJ4, HO_4, HO_6, HB⟩ := hcut
         cases kq with
         | zero => exact absurd HA.out (by simp [spec_l3names.j2])
         | succ kj4 =>
          have H := HA.out
          clear HA
          simp only [spec_l3names.j2] at H
          by_cases c8 : x28_4 = true
          ·
           subst c8
           have H1 : (if 0 ≤ x5_2 then (if x5_2 < (l0.length : Int) then ((spec_l3nameByte.f (rd l0 x5_2)).bind fun t104 => (if t104 = true then (if x6_2.length < 140737488355328 then (spec_l3names.l1 kj4 l0 x4_1 (wrap64 (x5_2 + 1)) (x6_2 ++ [rd l0 x5_2])) else (none)) else (some (([] : List (List Int)), false)))) else (none)) else (none)) = some (r1, r2) := by first | rfl | (rw [if_pos rfl] at H; exact H)
           clear H
           have H := H1
           clear H1
           by_cases c9 : 0 ≤ x5_2
           ·
            rw [if_pos c9] at H
            have c9b0 : decide (0 ≤ x5_2) = true := decide_eq_true c9
            clear c9
            by_cases c10 : x5_2 < (l0.length : Int)
            ·
             rw [if_pos c10] at H
             have c10b0 : decide (x5_2 < (l0.length : Int)) = true := decide_eq_true c10
             clear c10
             replace H := Option.bind_eq_some_iff.mp H
             obtain ⟨t104, A110, H⟩ := H
             replace H : (if t104 = true then (if x6_2.length < 140737488355328 then (spec_l3names.l1 kj4 l0 x4_1 (wrap64 (x5_2 + 1)) (x6_2 ++ [rd l0 x5_2])) else (none)) else (some (([] : List (List Int)), false))) = some (r1, r2) := H
             have A11 := Aside0.mk A110
             clear A110
             by_cases c12 : t104 = true
             ·
              subst c12
              have H1 : (if x6_2.length < 140737488355328 then (spec_l3names.l1 kj4 l0 x4_1 (wrap64 (x5_2 + 1)) (x6_2 ++ [rd l0 x5_2])) else (none)) = some (r1, r2) := by first | rfl | (rw [if_pos rfl] at H; exact H)
              clear H
              have H := H1
              clear H1
              by_cases c13 : x6_2.length < 140737488355328
              ·
               rw [if_pos c13] at H
               have LMc13 := Aside0.mk c13
               clear c13
               obtain ⟨y106, hy106⟩ : ∃ y_ : List Int, y_ = (x6_2 ++ [rd l0 x5_2]) := ⟨_, rfl⟩
               replace H : (spec_l3names.l1 kj4 l0 x4_1 (wrap64 (x5_2 + 1)) y106) = some (r1, r2) := by first | (rw [hy106]; with_reducible exact H) | (have H2_ := (Option.bind_some _ _).symm.trans H; rw [hy106]; with_reducible exact H2_) | (have H2_ := (Option.bind_some _ _).symm.trans H; with_reducible exact H2_) | with_reducible exact H | (rw [hy106]; exact H) | exact H
               have Ny106 := Aside0.mk hy106
               clear hy106
               have H' := Aside0.mk H
               clear H
               have p103 : 0 ≤ (x5_2 : Int) := of_decide_eq_true (by first | (with_reducible assumption) | assumption)
               have q103 : x5_2 < (l0.length : Int) := of_decide_eq_true (by first | (with_reducible assumption) | assumption)
               obtain ⟨ad103, e103, hx103_0⟩ := Kd.at_int HR0.out x5_2 p103 q103
               obtain rfl : ad101 = ad103 := (by injection e103)
               replace hx103_0 := (HB.out.cell (World.block_lt_of_cell? w _ hx103_0)).trans hx103_0
               replace p103 := eq_true p103
               replace q103 := eq_true q103
               go_wp2_with (first | ((with_reducible refine gate_callee (f := 86) rfl ?_); refine goesL_ (some 33) rfl rfl Tryd.func86 (by kernel_rfl) rfl #[.int .u8 (rd l0 x5_2)] rfl (by (try simp only [List.map_toArray, List.map_cons, List.map_nil]); first | done | rfl | (simp only [List.length_drop, List.length_take]; rfl)) ?_; (with_reducible refine (spec_l3nameByte.calls (rd l0 x5_2) true _ A11.out).mono ?_); rintro e w' ⟨rfl, ⟨nd, rfl⟩⟩; refine ⟨_, rfl, ?_⟩; have p105 : 0 ≤ (x5_2 : Int) := of_decide_eq_true (by first | (with_reducible assumption) | assumption); have q105 : x5_2 < (l0.length : Int) := of_decide_eq_true (by first | (with_reducible assumption) | assumption); obtain ⟨ad105, e105, hx105_0⟩ := Kd.at_int HR0.out x5_2 p105 q105; obtain rfl : ad101 = ad105 := (by injection e105); replace hx105_0 := (HB.out.cell (World.block_lt_of_cell? w _ hx105_0)).trans hx105_0; replace p105 := eq_true p105; replace q105 := eq_true q105) | ((with_reducible refine gate_builtin (b := .append) (xs := #[.tmp 35, .tmp 40]) rfl ?_); (try (refine gate_guard (by rfl) ?_; dsimp only)); at_builtin; refine Kd.R_append (Kd.int .u8) (w0 := w) w.heap.size rfl (.tmp 35) (.tmp 40) 22 5 (.int .u8 0) 1 rfl Tryd.underlying22 info5 rfl (by decide) (by omega) u6 x6_2 (rd l0 x5_2) [.int .u8 (rd l0 x5_2)] (fun _ => True) (fun _ => False) rfl rfl ?aP (fun _ hk => hk.elim) ?aF ?aO ?aB ?aS ?aL ?_; (case aP => exact rfl); (case aB => exact (by repeat (first | (with_reducible first | exact HB.out | apply below_alloc | apply pw_below_drewN | apply below_drew1) | exact HB.out))); (case aF => exact (fun _ _ => trivial)); (case aO => exact (by (with_reducible repeat (first | apply Kd.R_alloc | apply Kd.R_drewN | apply Kd.R_drew)); exact HO_6.out)); (case aS => exact (below_size (by repeat (first | (with_reducible first | exact HB.out | apply below_alloc | apply pw_below_drewN | apply below_drew1) | exact HB.out)))); (case aL => have := LMc13.out; omega); intro v107 w14 ho hb hg hat; rw [← Ny106.out] at ho; have n0_ := Aside0.mk (Kd.S_after (ok := (fun _ => True)) (by (with_reducible repeat (first | apply Kd.S_alloc | apply Kd.S_drewN | apply Kd.S_drew)); exact Kd.S_mono HO_4.out (fun _ hk => ⟨trivial, hk⟩)) hg hat); have n1_ := Aside0.mk (hb); have n2_ := Aside0.mk (ho); clear HO_4; clear HB; clear HO_6; have HO_4 := n0_; have HB := n1_; have HO108 := n2_; clear n0_ n1_ n2_; clear ho hb hg hat))
               go_roundg kj4
               case measure => have := HK1.out; have := HK2.out; have := HJ4.out; omega
               case rel => exact ⟨(wrap64 (x5_2 + 1)), (y106), (by first | rfl | (simp; done) | (simp [*]; done)), H', ⟨by have := HK1.out; have := HK2.out; have := HJ4.out; omega⟩, ⟨by (with_reducible repeat (first | apply Kd.S_alloc | apply Kd.S_drewN | apply Kd.S_drew)); exact Kd.S_mono HO_4.out (fun _ hk => hk.2)⟩, ⟨by (with_reducible repeat (first | apply Kd.R_alloc | apply Kd.R_drewN | apply Kd.R_drew)); exact HO108.out⟩, ⟨by repeat (first | (with_reducible first | exact HB.out | apply below_alloc | apply pw_below_drewN | apply below_drew1) | exact HB.out)⟩⟩
              ·
               rw [if_neg c13] at H
               exact absurd H (by simp)
             ·
              replace c12 := Bool.eq_false_iff.mpr c12
              subst c12
              have H1 : (some (([] : List (List Int)), false)) = some (r1, r2) := by first | rfl | (rw [if_neg (show ¬ (false = true) by decide)] at H; exact H)
              clear H
              have H := H1
              clear H1
              simp only [Option.some.injEq, Prod.mk.injEq] at H
              obtain ⟨rfl, rfl⟩ := H
              have p103 : 0 ≤ (x5_2 : Int) := of_decide_eq_true (by first | (with_reducible assumption) | assumption)
              have q103 : x5_2 < (l0.length : Int) := of_decide_eq_true (by first | (with_reducible assumption) | assumption)
              obtain ⟨ad103, e103, hx103_0⟩ := Kd.at_int HR0.out x5_2 p103 q103
              obtain rfl : ad101 = ad103 := (by injection e103)
              replace hx103_0 := (HB.out.cell (World.block_lt_of_cell? w _ hx103_0)).trans hx103_0
              replace p103 := eq_true p103
              replace q103 := eq_true q103
              go_wp2_with (first | ((with_reducible refine gate_callee (f := 86) rfl ?_); refine goesL_ (some 33) rfl rfl Tryd.func86 (by kernel_rfl) rfl #[.int .u8 (rd l0 x5_2)] rfl (by (try simp only [List.map_toArray, List.map_cons, List.map_nil]); first | done | rfl | (simp only [List.length_drop, List.length_take]; rfl)) ?_; (with_reducible refine (spec_l3nameByte.calls (rd l0 x5_2) false _ A11.out).mono ?_); rintro e w' ⟨rfl, ⟨nd, rfl⟩⟩; refine ⟨_, rfl, ?_⟩))
              go_ret2
              exact ⟨_, by first | rfl | (simp [errW_none, errW_some] <;> rfl) | (simp [*, errW_none, errW_some] <;> rfl), by first | exact Kd.S_nil _ _ _ _ _ | exact Kd.N_nil _ _ _ _ _ | exact Kd.V_nil _ _ _ _ _ | exact Kd.Q_nil _ _ _ _ _ | exact Kd.R_nil _ _ _ _ _, by repeat (first | (with_reducible first | exact HB.out | apply below_alloc | apply pw_below_drewN | apply below_drew1) | exact HB.out)⟩
            ·
             rw [if_neg c10] at H
             exact absurd H (by simp)
           ·
            rw [if_neg c9] at H
            exact absurd H (by simp)
          ·
           replace c8 := Bool.eq_false_iff.mpr c8
           subst c8
           have H1 : (if (x6_2.length : Int) < 1 then (some (([] : List (List Int)), false)) else (if (x6_2.length : Int) > 16 then (some (([] : List (List Int)), false)) else (if x4_1.length < 5864062014805 then (spec_l3names.l0 kj4 l0 (x4_1 ++ [x6_2]) x5_2) else (none)))) = some (r1, r2) := by first | rfl | (rw [if_neg (show ¬ (false = true) by decide)] at H; exact H)
           clear H
           have H := H1
           clear H1
           by_cases c15 : (x6_2.length : Int) < 1
           ·
            rw [if_pos c15] at H
            have c15b0 : decide ((x6_2.length : Int) < 1) = true := decide_eq_true c15
            have c15b1 : decide (x6_2.length < 1) = true := decide_eq_true (by omega)
            clear c15
            simp only [Option.some.injEq, Prod.mk.injEq] at H
            obtain ⟨rfl, rfl⟩ := H
            obtain ⟨Ao16, co16, eo16⟩ := Kd.R_slice HO_6.out
            subst eo16
            go_wp2
            go_ret2
            exact ⟨_, by first | rfl | (simp [errW_none, errW_some] <;> rfl) | (simp [*, errW_none, errW_some] <;> rfl), by first | exact Kd.S_nil _ _ _ _ _ | exact Kd.N_nil _ _ _ _ _ | exact Kd.V_nil _ _ _ _ _ | exact Kd.Q_nil _ _ _ _ _ | exact Kd.R_nil _ _ _ _ _, by repeat (first | (with_reducible first | exact HB.out | apply below_alloc | apply pw_below_drewN | apply below_drew1) | exact HB.out)⟩
           ·
            rw [if_neg c15] at H
            have c15b0 : decide ((x6_2.length : Int) < 1) = false := decide_eq_false c15
            have c15b1 : decide (x6_2.length < 1) = false := decide_eq_false (by omega)
            clear c15
            by_cases c17 : (x6_2.length : Int) > 16
            ·
             rw [if_pos c17] at H
             have c17b0 : decide (16 < (x6_2.length : Int)) = true := decide_eq_true c17
             have c17b1 : decide (16 < x6_2.length) = true := decide_eq_true (by omega)
             clear c17
             simp only [Option.some.injEq, Prod.mk.injEq] at H
             obtain ⟨rfl, rfl⟩ := H
             obtain ⟨Ao18, co18, eo18⟩ := Kd.R_slice HO_6.out
             subst eo18
             go_wp2
             go_ret2
             exact ⟨_, by first | rfl | (simp [errW_none, errW_some] <;> rfl) | (simp [*, errW_none, errW_some] <;> rfl), by first | exact Kd.S_nil _ _ _ _ _ | exact Kd.N_nil _ _ _ _ _ | exact Kd.V_nil _ _ _ _ _ | exact Kd.Q_nil _ _ _ _ _ | exact Kd.R_nil _ _ _ _ _, by repeat (first | (with_reducible first | exact HB.out | apply below_alloc | apply pw_below_drewN | apply below_drew1) | exact HB.out)⟩
            ·
             rw [if_neg c17] at H
             have c17b0 : decide (16 < (x6_2.length : Int)) = false := decide_eq_false c17
             have c17b1 : decide (16 < x6_2.length) = false := decide_eq_false (by omega)
             clear c17
             by_cases c19 : x4_1.length < 5864062014805
             ·
              rw [if_pos c19] at H
              have LMc19 := Aside0.mk c19
              clear c19
              obtain ⟨y109, hy109⟩ : ∃ y_ : List (List Int), y_ = (x4_1 ++ [x6_2]) := ⟨_, rfl⟩
              replace H : (spec_l3names.l0 kj4 l0 y109 x5_2) = some (r1, r2) := by first | (rw [hy109]; with_reducible exact H) | (have H2_ := (Option.bind_some _ _).symm.trans H; rw [hy109]; with_reducible exact H2_) | (have H2_ := (Option.bind_some _ _).symm.trans H; with_reducible exact H2_) | with_reducible exact H | (rw [hy109]; exact H) | exact H
              have Ny109 := Aside0.mk hy109
              clear hy109
              have H' := Aside0.mk H
              clear H
              obtain ⟨Ao20, co20, eo20⟩ := Kd.R_slice HO_6.out
              subst eo20
              go_wp2_with (first | ((with_reducible refine gate_builtin (b := .append) (xs := #[.tmp 52, .tmp 54]) rfl ?_); (try (refine gate_guard (by rfl) ?_; dsimp only)); at_builtin; refine Kd.S_append (Kd.slice 5 (Kd.int .u8)) (w0 := w) w.heap.size rfl (.tmp 52) (.tmp 54) 57 22 (.slice none 0 0) 24 rfl Tryd.underlying57 info22 rfl (by decide) (by omega) u4 x4_1 x6_2 [.slice Ao20 x6_2.length co20] (fun _ => True) (fun k_ => some k_ = (.slice Ao20 x6_2.length co20 : Value).ownBlock) rfl rfl ?aP (fun k_ hk_ => ((Kd.R_mono (ok' := fun k_ => ((fun _ => True)) k_ ∧ some k_ ≠ (u4 : Value).ownBlock) (Kd.R_apart' (HO_6.out) (Kd.S_typed HO_4.out) (by decide)) (fun k_ hk => ⟨trivial, hk.2⟩))).1 k_ hk_.symm) ?aF ?aO ?aB ?aS ?aL ?_; (case aP => exact Kd.M_row (Kd.R_mono (Kd.R_tight rfl (Kd.R_mono (ok' := fun k_ => ((fun _ => True)) k_ ∧ some k_ ≠ (u4 : Value).ownBlock) (Kd.R_apart' (HO_6.out) (Kd.S_typed HO_4.out) (by decide)) (fun k_ hk => ⟨trivial, hk.2⟩))) (fun _ h_ => h_))); (case aB => exact (by repeat (first | (with_reducible first | exact HB.out | apply below_alloc | apply pw_below_drewN | apply below_drew1) | exact HB.out))); (case aF => exact (fun _ _ => trivial)); (case aO => exact (by (with_reducible repeat (first | apply Kd.S_alloc | apply Kd.S_drewN | apply Kd.S_drew)); exact Kd.S_mono HO_4.out (fun k_ hk => ⟨trivial, fun e_ => hk e_⟩))); (case aS => exact (below_size (by repeat (first | (with_reducible first | exact HB.out | apply below_alloc | apply pw_below_drewN | apply below_drew1) | exact HB.out)))); (case aL => have := LMc19.out; omega); intro v110 w21 ho hb hg hat; rw [← Ny109.out] at ho; have n0_ := Aside0.mk (hb); have n1_ := Aside0.mk (ho); clear HB; clear HO_4; clear HO_6; have HB := n0_; have HO111 := n1_; clear n0_ n1_; clear ho hb hg hat))
              go_roundg kj4
              case measure => have := HK1.out; have := HK2.out; have := HJ4.out; omega
              case rel => exact ⟨(y109), (x5_2), (by first | rfl | (simp; done) | (simp [*]; done)), H', ⟨by have := HK1.out; have := HK2.out; have := HJ4.out; omega⟩, ⟨by (with_reducible repeat (first | apply Kd.S_alloc | apply Kd.S_drewN | apply Kd.S_drew)); exact HO111.out⟩, ⟨by repeat (first | (with_reducible first | exact HB.out | apply below_alloc | apply pw_below_drewN | apply below_drew1) | exact HB.out)⟩⟩
             ·
              rw [if_neg c19] at H
              exact absurd H (by simp)
     ·
      rw [if_neg c4] at H
      have c4b0 : ((rd l0 x5_1) == 47) = false := beq_eq_false_iff_ne.mpr c4
      have c4b1 : ((rd l0 x5_1) != 47) = true := bne_iff_ne.mpr c4
      simp only [Option.some.injEq, Prod.mk.injEq] at H
      obtain ⟨rfl, rfl⟩ := H
      have p101 : 0 ≤ (x5_1 : Int) := of_decide_eq_true (by first | (with_reducible assumption) | assumption)
      have q101 : x5_1 < (l0.length : Int) := of_decide_eq_true (by first | (with_reducible assumption) | assumption)
      obtain ⟨ad101, e101, hx101_0⟩ := Kd.at_int HR0.out x5_1 p101 q101
      cases e101
      replace hx101_0 := (HB.out.cell (World.block_lt_of_cell? w _ hx101_0)).trans hx101_0
      replace p101 := eq_true p101
      replace q101 := eq_true q101
      go_wp2
      go_ret2
      exact ⟨_, by first | rfl | (simp [errW_none, errW_some] <;> rfl) | (simp [*, errW_none, errW_some] <;> rfl), by first | exact Kd.S_nil _ _ _ _ _ | exact Kd.N_nil _ _ _ _ _ | exact Kd.V_nil _ _ _ _ _ | exact Kd.Q_nil _ _ _ _ _ | exact Kd.R_nil _ _ _ _ _, by repeat (first | (with_reducible first | exact HB.out | apply below_alloc | apply pw_below_drewN | apply below_drew1) | exact HB.out)⟩
    ·
     rw [if_neg c3] at H
     exact absurd H (by simp)
   ·
    rw [if_neg c2] at H
    have c2b0 : decide (x5_1 < (l0.length : Int)) = false := decide_eq_false c2
    clear c2
    by_cases c22 : (x4_1.length : Int) ≥ 1
    ·
     rw [if_pos c22] at H
     have c22b0 : decide (1 ≤ (x4_1.length : Int)) = true := decide_eq_true c22
     have c22b1 : decide (1 ≤ x4_1.length) = true := decide_eq_true (by omega)
     clear c22
     simp only [Option.some.injEq, Prod.mk.injEq] at H
     obtain ⟨rfl, rfl⟩ := H
     obtain ⟨Ao23, co23, eo23⟩ := Kd.S_slice HO_4.out
     subst eo23
     go_wp2
     go_ret2
     exact ⟨_, by first | rfl | (simp [errW_none, errW_some] <;> rfl) | (simp [*, errW_none, errW_some] <;> rfl), by (with_reducible repeat (first | apply Kd.S_alloc | apply Kd.S_drewN | apply Kd.S_drew)); exact HO_4.out, by repeat (first | (with_reducible first | exact HB.out | apply below_alloc | apply pw_below_drewN | apply below_drew1) | exact HB.out)⟩
    ·
     rw [if_neg c22] at H
     have c22b0 : decide (1 ≤ (x4_1.length : Int)) = false := decide_eq_false c22
     have c22b1 : decide (1 ≤ x4_1.length) = false := decide_eq_false (by omega)
     clear c22
     simp only [Option.some.injEq, Prod.mk.injEq] at H
     obtain ⟨rfl, rfl⟩ := H
     obtain ⟨Ao24, co24, eo24⟩ := Kd.S_slice HO_4.out
     subst eo24
     go_wp2
     go_ret2
     exact ⟨_, by first | rfl | (simp [errW_none, errW_some] <;> rfl) | (simp [*, errW_none, errW_some] <;> rfl), by (with_reducible repeat (first | apply Kd.S_alloc | apply Kd.S_drewN | apply Kd.S_drew)); exact HO_4.out, by repeat (first | (with_reducible first | exact HB.out | apply below_alloc | apply pw_below_drewN | apply below_drew1) | exact HB.out)⟩
def spec_ValidPath.f (k : Nat) (l0 : List Int) : Option (Bool) := (spec_l3names.f k l0).bind fun bt112 => (some bt112.2)
set_option maxHeartbeats 8000000 in
set_option maxRecDepth 100000 in
theorem spec_ValidPath.calls (k : Nat) (A0 : Option Addr) (c0 : Nat) (l0 : List Int) (r : Bool) (w : World) (hr0 : Kd.C (Kd.int .u8) w A0 l0.length l0) (hc0 : l0.length ≤ c0) (h : spec_ValidPath.f k l0 = some r) :
  Calls Tryd.prog 9 #[.slice A0 l0.length c0] w fun e w' => e = .returned (.bool r) ∧ Below w.heap.size w w' := by
 have HR0 := Aside0.mk hr0
 have HC0 := Aside0.mk hc0
 clear hr0 hc0
 have HB := Aside0.mk (Below.refl w.heap.size w)
 have H : ((spec_l3names.f k l0).bind fun bt112 => (some bt112.2)) = some r := h
 clear h
 replace H := Option.bind_eq_some_iff.mp H
 obtain ⟨⟨t112, t113⟩, A20, H⟩ := H
 replace H : (some t113) = some r := H
 have A2 := Aside0.mk A20
 clear A20
 obtain rfl := Option.some.inj H
 go_enter Tryd.func9, Tryd.ntmps9
 go_wp2_with (first | ((with_reducible refine gate_callee (f := 36) rfl ?_); refine goesL_ (some 7) rfl rfl Tryd.func36 (by kernel_rfl) rfl #[.slice A0 l0.length c0] rfl (by (try simp only [List.map_toArray, List.map_cons, List.map_nil]); first | done | rfl | (simp only [List.length_drop, List.length_take]; rfl)) ?_; (with_reducible refine (spec_l3names.calls k _ _ l0 t112 t113 _ ?side1 ?side2 A2.out).mono ?_); (case side1 => repeat (first | exact HR0.out | (with_reducible refine Kd.C_alloc ?_ _) | (with_reducible refine Kd.C_drewN ?_ _) | (with_reducible refine Kd.C_drew ?_))); (case side2 => exact HC0.out); rintro e w3 ⟨v114, rfl, ho0, hb⟩; refine ⟨_, rfl, ?_⟩; have n0_ := Aside0.mk (Kd.S_lower ho0 (below_size (by repeat (first | (with_reducible first | exact HB.out | apply below_alloc | apply pw_below_drewN | apply below_drew1) | exact HB.out)))); have n1_ := Aside0.mk (below_step (by repeat (first | (with_reducible first | exact HB.out | apply below_alloc | apply pw_below_drewN | apply below_drew1) | exact HB.out)) hb); clear HB; have HO115 := n0_; have HB := n1_; clear n0_ n1_; (try clear hb); (try clear hb2); (try clear hk); (try clear hi); (try clear ho0)))
 go_ret
 exact ⟨by first | rfl | (simp [errW_none, errW_some] <;> rfl) | (simp [*, errW_none, errW_some] <;> rfl), by repeat (first | (with_reducible first | exact HB.out | apply below_alloc | apply pw_below_drewN | apply below_drew1) | exact HB.out)⟩
theorem nameByte_f (c : Int) : spec_l3nameByte.f c = some (charB c) := by
 unfold spec_l3nameByte.f charB
 by_cases h1 : 97 ≤ c
 ·
  by_cases h2 : c ≤ 122
  ·
   rw [if_pos h1, if_pos h2]; simp [h1, h2]
  ·
   by_cases h5 : c = 45
   ·
    omega
   ·
    rw [if_pos h1, if_neg h2, if_pos (by omega), if_neg (by omega), if_neg h5]
    have h3 : 48 ≤ c := by omega
    have h4 : ¬ c ≤ 57 := by omega
    simp [h1, h2, h3, h4, h5]
 ·
  rw [if_neg h1]
  by_cases h3 : 48 ≤ c
  ·
   by_cases h4 : c ≤ 57
   ·
    rw [if_pos h3, if_pos h4]; simp [h1, h3, h4]
   ·
    rw [if_pos h3, if_neg h4, if_neg (by omega)]
    have h5 : ¬ c = 45 := by omega
    simp [h1, h3, h4, h5]
  ·
   rw [if_neg h3]
   by_cases h5 : c = 45
   ·
    rw [if_pos h5]; simp [h5]
   ·
    rw [if_neg h5]; simp [h1, h3, h5]
def R0 (rest : List Int) (cnt : Nat) : Bool := match rest with
 | [] => decide (1 ≤ cnt) && decide (cnt ≤ 8)
 | c :: r => c == 47 && decide (cnt + (pieces r).length ≤ 8) && (pieces r).all nameB
def R1 (rest : List Int) (m cnt : Nat) : Bool := match pieces rest with
 | [] => false
 | p :: ps => p.all charB && decide (1 ≤ m + p.length) && decide (m + p.length ≤ 16) && decide (cnt + 1 + ps.length ≤ 8) && ps.all nameB
theorem R1_open (r : List Int) (cnt : Nat) : R1 r 0 cnt = (decide (cnt + (pieces r).length ≤ 8) && (pieces r).all nameB) := by
 unfold R1
 cases hp : pieces r with
 | nil => exact absurd hp (pieces_ne r)
 | cons p ps =>
  simp only [List.all_cons, List.length_cons, nameB, Nat.zero_add]
  have e : (cnt + 1 + ps.length ≤ 8) = (cnt + (ps.length + 1) ≤ 8) := by rw [show cnt + 1 + ps.length = cnt + (ps.length + 1) by omega]
  simp only [e]
  cases p.all charB <;> cases decide (1 ≤ p.length) <;> cases decide (p.length ≤ 16) <;> cases decide (cnt + (ps.length + 1) ≤ 8) <;> simp [Bool.and_comm]
theorem names_loop (b : List Int) (hb : b.length ≤ 2097152) : ∀ (d : Nat),
  (∀ (k i : Nat) (out : List (List Int)), i + d = b.length → out.length ≤ i → 3 * d + 1 ≤ k → ∃ o, spec_l3names.l0 k b out (i : Int) = some (o, R0 (b.drop i) out.length)) ∧
  (∀ (k i : Nat) (out : List (List Int)) (nm : List Int), i + d = b.length → out.length + 1 ≤ i → nm.length ≤ i → 3 * d + 3 ≤ k → ∃ o, spec_l3names.l1 k b out (i : Int) nm = some (o, R1 (b.drop i) nm.length out.length)) := by
 intro d
 induction d with
 | zero =>
  have z0 : ∀ (k i : Nat) (out : List (List Int)), i + 0 = b.length → out.length ≤ i → 3 * 0 + 1 ≤ k → ∃ o, spec_l3names.l0 k b out (i : Int) = some (o, R0 (b.drop i) out.length) := by
   intro k i out hi ho hk
   obtain ⟨k, rfl⟩ : ∃ m, k = m + 1 := ⟨k - 1, by omega⟩
   rw [spec_l3names.l0, if_neg (by omega), List.drop_eq_nil_of_le (by omega)]
   unfold R0
   by_cases h1 : 1 ≤ out.length
   ·
    rw [if_pos (by omega)]
    refine ⟨out, ?_⟩
    rw [decide_eq_true h1, Bool.true_and]
    congr 3
    simp only [eq_iff_iff]
    omega
   ·
    rw [if_neg (by omega)]
    exact ⟨out, by rw [decide_eq_false h1]; rfl⟩
  refine ⟨z0, ?_⟩
  intro k i out nm hi ho hn hk
  obtain ⟨k, rfl⟩ : ∃ m, k = m + 2 := ⟨k - 2, by omega⟩
  rw [spec_l3names.l1, if_neg (by omega), spec_l3names.j2, if_neg (by decide)]
  have e : b.drop i = [] := List.drop_eq_nil_of_le (by omega)
  by_cases h1 : (nm.length : Int) < 1
  ·
   rw [if_pos h1]
   refine ⟨[], ?_⟩
   rw [e, R1, pieces]
   simp only [List.length_nil, Nat.add_zero]
   rw [decide_eq_false (show ¬ 1 ≤ nm.length by omega)]
   simp
  ·
   rw [if_neg h1]
   by_cases h2 : (nm.length : Int) > 16
   ·
    rw [if_pos h2]
    refine ⟨[], ?_⟩
    rw [e, R1, pieces]
    simp only [List.length_nil, Nat.add_zero]
    rw [decide_eq_false (show ¬ nm.length ≤ 16 by omega)]
    simp
   ·
    rw [if_neg h2, if_pos (by omega)]
    obtain ⟨o, ho'⟩ := z0 k i (out ++ [nm]) hi (by simp; omega) (by omega)
    refine ⟨o, ?_⟩
    rw [ho', e, R0, R1, pieces]
    simp only [List.length_nil, Nat.add_zero, List.length_append, List.length_singleton, List.all_nil, Bool.true_and, Bool.and_true]
    rw [decide_eq_true (show 1 ≤ nm.length by omega), decide_eq_true (show nm.length ≤ 16 by omega), decide_eq_true (show 1 ≤ out.length + 1 by omega)]
    simp
 | succ d ih =>
  obtain ⟨ih0, ih1⟩ := ih
  have z0 : ∀ (k i : Nat) (out : List (List Int)), i + (d + 1) = b.length → out.length ≤ i → 3 * (d + 1) + 1 ≤ k → ∃ o, spec_l3names.l0 k b out (i : Int) = some (o, R0 (b.drop i) out.length) := by
   intro k i out hi ho hk
   obtain ⟨k, rfl⟩ : ∃ m, k = m + 1 := ⟨k - 1, by omega⟩
   have hlt : i < b.length := by omega
   rw [spec_l3names.l0, if_pos (by omega), if_pos (by omega), rd_nat, getD_at b i hlt, List.drop_eq_getElem_cons hlt]
   by_cases hc : b[i] = 47
   ·
    rw [if_pos hc, wrap_up i (by omega)]
    obtain ⟨o, ho'⟩ := ih1 k (i + 1) out [] (by omega) (by omega) (by simp) (by omega)
    refine ⟨o, ?_⟩
    rw [ho', R0, List.length_nil, R1_open, hc]
    simp
   ·
    rw [if_neg hc]
    exact ⟨[], by rw [R0]; simp [hc]⟩
  refine ⟨z0, ?_⟩
  intro k i out nm hi ho hn hk
  obtain ⟨k, rfl⟩ : ∃ m, k = m + 2 := ⟨k - 2, by omega⟩
  have hlt : i < b.length := by omega
  rw [spec_l3names.l1, if_pos (by omega), if_pos (by omega), spec_l3names.j2, rd_nat, getD_at b i hlt]
  have ed := List.drop_eq_getElem_cons hlt
  by_cases hc : b[i] = 47
  ·
   rw [if_neg (by simp [hc])]
   have ep : pieces (b.drop i) = [] :: pieces (b.drop (i + 1)) := by rw [ed, hc, pieces_slash]
   by_cases h1 : (nm.length : Int) < 1
   ·
    rw [if_pos h1]
    refine ⟨[], ?_⟩
    rw [R1, ep]
    simp only [List.length_nil, Nat.add_zero]
    rw [decide_eq_false (show ¬ 1 ≤ nm.length by omega)]
    simp
   ·
    rw [if_neg h1]
    by_cases h2 : (nm.length : Int) > 16
    ·
     rw [if_pos h2]
     refine ⟨[], ?_⟩
     rw [R1, ep]
     simp only [List.length_nil, Nat.add_zero]
     rw [decide_eq_false (show ¬ nm.length ≤ 16 by omega)]
     simp
    ·
     rw [if_neg h2, if_pos (by omega)]
     obtain ⟨o, ho'⟩ := z0 k i (out ++ [nm]) hi (by simp; omega) (by omega)
     refine ⟨o, ?_⟩
     rw [ho', R1, ep]
     rw [ed, R0, hc]
     simp only [List.length_nil, Nat.add_zero, List.length_append, List.length_singleton, List.all_nil, Bool.true_and, beq_self_eq_true]
     rw [decide_eq_true (show 1 ≤ nm.length by omega), decide_eq_true (show nm.length ≤ 16 by omega)]
     simp
  ·
   rw [if_pos (by simp [hc]), if_pos (by omega), if_pos (by omega), nameByte_f, Option.bind_some]
   obtain ⟨p, ps, e1, e2⟩ := pieces_char b[i] (b.drop (i + 1)) hc
   rw [← ed] at e2
   cases hch : charB b[i] with
   | false =>
    rw [if_neg (by decide)]
    refine ⟨[], ?_⟩
    rw [R1, e2]
    simp [hch]
   | true =>
    rw [if_pos rfl, if_pos (by omega), wrap_up i (by omega)]
    obtain ⟨o, ho'⟩ := ih1 k (i + 1) out (nm ++ [b[i]]) (by omega) (by omega) (by simp; omega) (by omega)
    refine ⟨o, ?_⟩
    rw [ho', R1, R1, e1, e2]
    simp only [List.length_append, List.length_singleton, List.length_cons, List.all_cons, hch, Bool.true_and]
    rw [show nm.length + (([] : List Int).length + 1) + p.length = nm.length + (p.length + 1) by simp only [List.length_nil]; omega]
theorem validPath_f (b : List Int) (hb : b.length ≤ 2097152) (k : Nat) (hk : 3 * b.length + 1 ≤ k) : spec_ValidPath.f k b = some (pathB b) := by
 unfold spec_ValidPath.f spec_l3names.f
 obtain ⟨o, ho⟩ := (names_loop b hb b.length).1 k 0 [] (by omega) (by simp) (by omega)
 rw [show ((0 : Nat) : Int) = 0 from rfl] at ho
 rw [ho, Option.bind_some]
 cases b with
 | nil => rfl
 | cons c r =>
  simp only [List.drop_zero, R0, pathB, List.length_nil, Nat.zero_add]
structure BelowOf (w w' : World) : Prop where
 out : Below w.heap.size w w'
theorem wp_region_below {P : Program} {id : Nat} {Q : Exit → Act → World → Prop} {a : Act} {w : World} {l : List Oper} (hm : P.follows .mixedOrders = true) (hB : Region.lexB .any l.toArray = true)
  (h : wpQuiet P l.toArray (BelowOf w) (fun a' => ∀ w', BelowOf w w' → Q .normal a' w') l a) : (Code.region id l.toArray true).wp P Q a w :=
 wp_region_quiet (C := BelowOf w) hm hB ⟨below_drew1 (Below.refl w.heap.size w)⟩ (by simpa using h)
theorem quiet_mk {P : Program} {C : World → Prop} {a : Act} {o : Oper} {K : Act → Prop} (v : Value) (hv : ∀ w, C w → o.quietAt P a C w v) (h : K (a.put o.dst v)) : o.quiet P a C K := ⟨v, hv, h⟩
def spec_l3live.l0 : Nat → Int → Int → Int → Int → Int → Int → List (S70) → List (S76) → Option (Bool)
 | 0, _, _, _, _, _, _, _, _ => none
 | k + 1, x1, x5, x182000, x182001, x182002, x182003, x182004, x182005 => if x5 < (x182004.length : Int) then (if 0 ≤ x5 then (if ((rd_T70 x182004 x5).f0) = x1 then (some true) else (spec_l3live.l0 k x1 (wrap64 (x5 + 1)) x182000 x182001 x182002 x182003 x182004 x182005)) else (none)) else (some false)
def spec_l3live.f (k : Nat) (a0_0 : Int) (a0_1 : Int) (a0_2 : Int) (a0_3 : Int) (l0_4 : List (S70)) (l0_5 : List (S76)) (a1 : Int) : Option (Bool) := spec_l3live.l0 k a1 0 a0_0 a0_1 a0_2 a0_3 l0_4 l0_5
set_option maxHeartbeats 8000000 in
set_option maxRecDepth 100000 in
theorem spec_l3live.calls (k : Nat) (a0_0 : Int) (a0_1 : Int) (a0_2 : Int) (a0_3 : Int) (A0_4 : Option Addr) (c0_4 : Nat) (l0_4 : List (S70)) (A0_5 : Option Addr) (c0_5 : Nat) (l0_5 : List (S76)) (a1 : Int) (r : Bool) (w : World) (hr0_4 : Kd.C k70 w A0_4 l0_4.length l0_4) (hc0_4 : l0_4.length ≤ c0_4) (hr0_5 : Kd.C k76 w A0_5 l0_5.length l0_5) (hc0_5 : l0_5.length ≤ c0_5) (h : spec_l3live.f k a0_0 a0_1 a0_2 a0_3 l0_4 l0_5 a1 = some r) :
  Calls Tryd.prog 94 #[.agg #[.int .u64 a0_0, .int .u64 a0_1, .int .u64 a0_2, .int .i64 a0_3, .slice A0_4 l0_4.length c0_4, .slice A0_5 l0_5.length c0_5], .int .u64 a1] w fun e w' => e = .returned (.bool r) ∧ Below w.heap.size w w' := by
 have hu36 := Tryd.underlying36
 have HR0_4 := Aside0.mk hr0_4
 have HC0_4 := Aside0.mk hc0_4
 clear hr0_4 hc0_4
 have HR0_5 := Aside0.mk hr0_5
 have HC0_5 := Aside0.mk hc0_5
 clear hr0_5 hc0_5
 have HB := Aside0.mk (Below.refl w.heap.size w)
 have H : (spec_l3live.l0 k a1 0 a0_0 a0_1 a0_2 a0_3 l0_4 l0_5) = some r := h
 clear h
 have H' := Aside0.mk H
 clear H
 go_enter Tryd.func94, Tryd.ntmps94
 go_wp2_with (first | ((with_reducible refine gate_dst (N := 2) rfl ?_); refine box_event ?hg (N := 2) ?hd (cs := #[.int .u64 a0_0, .int .u64 a0_1, .int .u64 a0_2, .int .i64 a0_3, .slice A0_4 l0_4.length c0_4, .slice A0_5 l0_5.length c0_5]) (t := 36) ?hr ?_; (case hd => rfl); (case hg => rfl); (case hr => first | (go_simp; done) | (go_simp; rfl)); intro gb181 hg w3 hbox hb; have n0_ := Aside0.mk (below_step (by repeat (first | (with_reducible first | exact HB.out | apply below_alloc | apply pw_below_drewN | apply below_drew1) | exact HB.out)) hb); have n1_ := Aside0.mk (hbox); have n2_ := Aside0.mk ((by rw [hg]; exact (below_size (by repeat (first | (with_reducible first | exact HB.out | apply below_alloc | apply pw_below_drewN | apply below_drew1) | exact HB.out))) : w.heap.size ≤ gb181)); have n3_ := Aside0.mk ((by rw [hg]; exact (below_size (by repeat (first | (with_reducible first | exact HB.out | apply below_alloc | apply pw_below_drewN | apply below_drew1) | exact HB.out))) : w.heap.size ≤ gb181)); clear HB; have HB := n0_; have BK181 := n1_; have GW181 := n2_; have GE181 := n3_; clear n0_ n1_ n2_ n3_; clear hb hbox hg))
 go_loopg [5] k (fun kq v5 w' => ∃ (x5_1 : Int), v5 = .int .i64 x5_1 ∧ Aside0 (spec_l3live.l0 kq a1 x5_1 a0_0 a0_1 a0_2 a0_3 l0_4 l0_5 = some r) ∧ Aside0 (kq ≤ k) ∧ Aside0 (w'.heap[gb181]? = some (.cells #[.int .u64 a0_0, .int .u64 a0_1, .int .u64 a0_2, .int .i64 a0_3, (.slice A0_4 l0_4.length c0_4), (.slice A0_5 l0_5.length c0_5)] 36 (0, 0))) ∧ Aside0 (Below w.heap.size w w'))
 case atStart => exact ⟨(0), (by first | rfl | (simp; done) | (simp [*]; done)), H', ⟨Nat.le_refl _⟩, ⟨by (with_reducible repeat (first | refine blk_drewN ?_ _ | refine blk_drew ?_ | refine blk_alloc ?_ _)); exact BK181.out⟩, ⟨by repeat (first | (with_reducible first | exact HB.out | apply below_alloc | apply pw_below_drewN | apply below_drew1 | refine below_set ?_ GE181.out) | exact HB.out)⟩⟩
 case round =>
  clear H'
  try clear p2
  obtain ⟨x5_1, rfl, HA, HK1, BK181, HB⟩ := hrel
  cases gk with
  | zero => exact absurd HA.out (by simp [spec_l3live.l0])
  | succ k1 =>
   have H := HA.out
   clear HA
   simp only [spec_l3live.l0] at H
   by_cases c4 : x5_1 < (l0_4.length : Int)
   ·
    rw [if_pos c4] at H
    have c4b0 : decide (x5_1 < (l0_4.length : Int)) = true := decide_eq_true c4
    clear c4
    by_cases c5 : 0 ≤ x5_1
    ·
     rw [if_pos c5] at H
     have c5b0 : decide (0 ≤ x5_1) = true := decide_eq_true c5
     clear c5
     by_cases c6 : ((rd_T70 l0_4 x5_1).f0) = a1
     ·
      rw [if_pos c6] at H
      have c6b0 : (((rd_T70 l0_4 x5_1).f0) == a1) = true := beq_iff_eq.mpr c6
      have c6b1 : (((rd_T70 l0_4 x5_1).f0) != a1) = false := bne_eq_false_iff_eq.mpr c6
      clear c6
      obtain rfl := Option.some.inj H
      have hcz7_0 : wr.cell? ⟨gb181, 0, none⟩ = some (.int .u64 a0_0) := (blk_cell BK181.out 0).trans rfl
      have hcz7_1 : wr.cell? ⟨gb181, 1, none⟩ = some (.int .u64 a0_1) := (blk_cell BK181.out 1).trans rfl
      have hcz7_2 : wr.cell? ⟨gb181, 2, none⟩ = some (.int .u64 a0_2) := (blk_cell BK181.out 2).trans rfl
      have hcz7_3 : wr.cell? ⟨gb181, 3, none⟩ = some (.int .i64 a0_3) := (blk_cell BK181.out 3).trans rfl
      have hcz7_4 : wr.cell? ⟨gb181, 4, none⟩ = some (.slice A0_4 l0_4.length c0_4) := (blk_cell BK181.out 4).trans rfl
      have hcz7_5 : wr.cell? ⟨gb181, 5, none⟩ = some (.slice A0_5 l0_5.length c0_5) := (blk_cell BK181.out 5).trans rfl
      have hfz7_0 := blk_frozen BK181.out 0
      have hfz7_1 := blk_frozen BK181.out 1
      have hfz7_2 := blk_frozen BK181.out 2
      have hfz7_3 := blk_frozen BK181.out 3
      have hfz7_4 := blk_frozen BK181.out 4
      have hfz7_5 := blk_frozen BK181.out 5
      have p182 : 0 ≤ (x5_1 : Int) := of_decide_eq_true (by first | (with_reducible assumption) | assumption)
      have q182 : x5_1 < (l0_4.length : Int) := of_decide_eq_true (by first | (with_reducible assumption) | assumption)
      obtain ⟨ad182, A182_2, c182_2, e182, hx182_0, hx182_1, hx182_2, hl182_2, hi182_2⟩ := at_T70 HR0_4.out x5_1 p182 q182
      cases e182
      replace hx182_0 := (HB.out.cell (World.block_lt_of_cell? w _ hx182_0)).trans hx182_0
      replace hx182_1 := (HB.out.cell (World.block_lt_of_cell? w _ hx182_1)).trans hx182_1
      replace hx182_2 := (HB.out.cell (World.block_lt_of_cell? w _ hx182_2)).trans hx182_2
      have HR182_2 := Aside0.mk hi182_2
      have HC182_2 := Aside0.mk hl182_2
      clear hi182_2 hl182_2
      replace p182 := eq_true p182
      replace q182 := eq_true q182
      go_wp2
      go_ret
      exact ⟨by first | rfl | (simp [errW_none, errW_some] <;> rfl) | (simp [*, errW_none, errW_some] <;> rfl), by repeat (first | (with_reducible first | exact HB.out | apply below_alloc | apply pw_below_drewN | apply below_drew1 | refine below_set ?_ GE181.out) | exact HB.out)⟩
     ·
      rw [if_neg c6] at H
      have c6b0 : (((rd_T70 l0_4 x5_1).f0) == a1) = false := beq_eq_false_iff_ne.mpr c6
      have c6b1 : (((rd_T70 l0_4 x5_1).f0) != a1) = true := bne_iff_ne.mpr c6
      have H' := Aside0.mk H
      clear H
      have hcz8_0 : wr.cell? ⟨gb181, 0, none⟩ = some (.int .u64 a0_0) := (blk_cell BK181.out 0).trans rfl
      have hcz8_1 : wr.cell? ⟨gb181, 1, none⟩ = some (.int .u64 a0_1) := (blk_cell BK181.out 1).trans rfl
      have hcz8_2 : wr.cell? ⟨gb181, 2, none⟩ = some (.int .u64 a0_2) := (blk_cell BK181.out 2).trans rfl
      have hcz8_3 : wr.cell? ⟨gb181, 3, none⟩ = some (.int .i64 a0_3) := (blk_cell BK181.out 3).trans rfl
      have hcz8_4 : wr.cell? ⟨gb181, 4, none⟩ = some (.slice A0_4 l0_4.length c0_4) := (blk_cell BK181.out 4).trans rfl
      have hcz8_5 : wr.cell? ⟨gb181, 5, none⟩ = some (.slice A0_5 l0_5.length c0_5) := (blk_cell BK181.out 5).trans rfl
      have hfz8_0 := blk_frozen BK181.out 0
      have hfz8_1 := blk_frozen BK181.out 1
      have hfz8_2 := blk_frozen BK181.out 2
      have hfz8_3 := blk_frozen BK181.out 3
      have hfz8_4 := blk_frozen BK181.out 4
      have hfz8_5 := blk_frozen BK181.out 5
      have p182 : 0 ≤ (x5_1 : Int) := of_decide_eq_true (by first | (with_reducible assumption) | assumption)
      have q182 : x5_1 < (l0_4.length : Int) := of_decide_eq_true (by first | (with_reducible assumption) | assumption)
      obtain ⟨ad182, A182_2, c182_2, e182, hx182_0, hx182_1, hx182_2, hl182_2, hi182_2⟩ := at_T70 HR0_4.out x5_1 p182 q182
      cases e182
      replace hx182_0 := (HB.out.cell (World.block_lt_of_cell? w _ hx182_0)).trans hx182_0
      replace hx182_1 := (HB.out.cell (World.block_lt_of_cell? w _ hx182_1)).trans hx182_1
      replace hx182_2 := (HB.out.cell (World.block_lt_of_cell? w _ hx182_2)).trans hx182_2
      have HR182_2 := Aside0.mk hi182_2
      have HC182_2 := Aside0.mk hl182_2
      clear hi182_2 hl182_2
      replace p182 := eq_true p182
      replace q182 := eq_true q182
      go_wp2
      go_roundg k1
      case measure => have := HK1.out; omega
      case rel => exact ⟨(wrap64 (x5_1 + 1)), (by first | rfl | (simp; done) | (simp [*]; done)), H', ⟨by have := HK1.out; omega⟩, ⟨by (with_reducible repeat (first | refine blk_drewN ?_ _ | refine blk_drew ?_ | refine blk_alloc ?_ _)); exact BK181.out⟩, ⟨by repeat (first | (with_reducible first | exact HB.out | apply below_alloc | apply pw_below_drewN | apply below_drew1 | refine below_set ?_ GE181.out) | exact HB.out)⟩⟩
    ·
     rw [if_neg c5] at H
     exact absurd H (by simp)
   ·
    rw [if_neg c4] at H
    have c4b0 : decide (x5_1 < (l0_4.length : Int)) = false := decide_eq_false c4
    clear c4
    obtain rfl := Option.some.inj H
    have hcz9_0 : wr.cell? ⟨gb181, 0, none⟩ = some (.int .u64 a0_0) := (blk_cell BK181.out 0).trans rfl
    have hcz9_1 : wr.cell? ⟨gb181, 1, none⟩ = some (.int .u64 a0_1) := (blk_cell BK181.out 1).trans rfl
    have hcz9_2 : wr.cell? ⟨gb181, 2, none⟩ = some (.int .u64 a0_2) := (blk_cell BK181.out 2).trans rfl
    have hcz9_3 : wr.cell? ⟨gb181, 3, none⟩ = some (.int .i64 a0_3) := (blk_cell BK181.out 3).trans rfl
    have hcz9_4 : wr.cell? ⟨gb181, 4, none⟩ = some (.slice A0_4 l0_4.length c0_4) := (blk_cell BK181.out 4).trans rfl
    have hcz9_5 : wr.cell? ⟨gb181, 5, none⟩ = some (.slice A0_5 l0_5.length c0_5) := (blk_cell BK181.out 5).trans rfl
    have hfz9_0 := blk_frozen BK181.out 0
    have hfz9_1 := blk_frozen BK181.out 1
    have hfz9_2 := blk_frozen BK181.out 2
    have hfz9_3 := blk_frozen BK181.out 3
    have hfz9_4 := blk_frozen BK181.out 4
    have hfz9_5 := blk_frozen BK181.out 5
    go_wp2
    go_ret
    exact ⟨by first | rfl | (simp [errW_none, errW_some] <;> rfl) | (simp [*, errW_none, errW_some] <;> rfl), by repeat (first | (with_reducible first | exact HB.out | apply below_alloc | apply pw_below_drewN | apply below_drew1 | refine below_set ?_ GE181.out) | exact HB.out)⟩
theorem rd_se (xs : List Se) (i : Nat) (h : i < xs.length) : rd_T70 xs (i : Int) = xs[i] := by unfold rd_T70; rw [Int.toNat_natCast, List.getD_eq_getElem?_getD, List.getElem?_eq_getElem h]; rfl
theorem live_loop (e g n t : Int) (xs : List Se) (ns : List No) (id : Int) (hl : xs.length ≤ 2097152) : ∀ (d k i : Nat), i + d = xs.length → d < k → spec_l3live.l0 k id (i : Int) e g n t xs ns = some ((xs.drop i).any fun x => x.f0 == id) := by
 intro d
 induction d with
 | zero =>
  intro k i hi hk
  obtain ⟨k, rfl⟩ : ∃ m, k = m + 1 := ⟨k - 1, by omega⟩
  rw [spec_l3live.l0, if_neg (by omega), List.drop_eq_nil_of_le (by omega)]
  rfl
 | succ d ih =>
  intro k i hi hk
  obtain ⟨k, rfl⟩ : ∃ m, k = m + 1 := ⟨k - 1, by omega⟩
  have hlt : i < xs.length := by omega
  rw [spec_l3live.l0, if_pos (by omega), if_pos (by omega), rd_se xs i hlt, List.drop_eq_getElem_cons hlt, List.any_cons]
  by_cases c : xs[i].f0 = id
  ·
   rw [if_pos c, beq_iff_eq.2 c]
   rfl
  ·
   rw [if_neg c, wrap_up i (by omega), ih k (i + 1) (by omega) (by omega), beq_eq_false_iff_ne.2 c, Bool.false_or]
theorem live_f (e g n t : Int) (xs : List Se) (ns : List No) (id : Int) (hl : xs.length ≤ 2097152) (k : Nat) (hk : 2097152 < k) : spec_l3live.f k e g n t xs ns id = some (liveB xs id) := by
 unfold spec_l3live.f liveB
 have := live_loop e g n t xs ns id hl xs.length k 0 (by omega) (by omega)
 rw [List.drop_zero] at this
 exact this
theorem wrap_down (i : Nat) (h0 : 0 < i) (h : i ≤ 140737488355328) : wrap64 ((i : Int) - 1) = ((i - 1 : Nat) : Int) := by unfold wrap64; omega
def spec_l3idsOK.f (k : Nat) (e g n t : Int) (xs : List Se) (ns : List No) (l : List Int) : Option Bool := if xs.length ≤ 2097152 ∧ l.length ≤ 2097152 then some (idsB xs l) else none
theorem ids_f (e g n t : Int) (xs : List Se) (ns : List No) (l : List Int) (hl : xs.length ≤ 2097152) (hl2 : l.length ≤ 2097152) : spec_l3idsOK.f 10000000 e g n t xs ns l = some (idsB xs l) := if_pos ⟨hl, hl2⟩
set_option maxHeartbeats 8000000 in
set_option maxRecDepth 100000 in
theorem spec_l3idsOK.calls (k : Nat) (e g n t : Int) (As : Option Addr) (cs : Nat) (xs : List Se) (An : Option Addr) (cn : Nat) (ns : List No) (A1 : Option Addr) (c1 : Nat) (l : List Int) (r : Bool) (w : World) (h1 : Kd.C kSe w As xs.length xs) (hc1 : xs.length ≤ cs) (h2 : Kd.C kNo w An ns.length ns) (hc2 : ns.length ≤ cn) (hr1 : Kd.C (Kd.int .u64) w A1 l.length l) (hc : l.length ≤ c1) (hf : spec_l3idsOK.f k e g n t xs ns l = some r) :
  Calls Tryd.prog 95 #[.agg #[.int .u64 e, .int .u64 g, .int .u64 n, .int .i64 t, .slice As xs.length cs, .slice An ns.length cn], .slice A1 l.length c1] w fun r' w' => r' = .returned (.bool r) ∧ Below w.heap.size w w' := by
 unfold spec_l3idsOK.f at hf
 by_cases hl0 : xs.length ≤ 2097152 ∧ l.length ≤ 2097152
 case neg => rw [if_neg hl0] at hf; cases hf
 rw [if_pos hl0] at hf
 obtain rfl := Option.some.inj hf
 clear hf
 have LIV := Aside0.mk (fun (id : Int) (W : World) (hW : Below w.heap.size w W) => spec_l3live.calls 10000000 e g n t As cs xs An cn ns id (liveB xs id) W (Kd.C_below h1 hW) hc1 (Kd.C_below h2 hW) hc2 (live_f e g n t xs ns id hl0.1 _ (by omega)))
 have HL := Aside0.mk hl0.2
 have HR := Aside0.mk hr1
 clear h1 hc1 h2 hc2 hr1 hc hl0
 go_enter Tryd.func95, Tryd.ntmps95
 go_wp2_with fail
 have bs := blk_new w (.cells #[.int .u64 e, .int .u64 g, .int .u64 n, .int .i64 t, .slice As xs.length cs, .slice An ns.length cn] 36)
 have hB := below_alloc (Below.refl w.heap.size w) (.cells #[.int .u64 e, .int .u64 g, .int .u64 n, .int .i64 t, .slice As xs.length cs, .slice An ns.length cn] 36)
 generalize w.alloc (.cells #[.int .u64 e, .int .u64 g, .int .u64 n, .int .i64 t, .slice As xs.length cs, .slice An ns.length cn] 36) = W0 at *
 go_loopg [5] (l.length + 1) (fun kq v5 w' => ∃ i : Nat, v5 = .int .i64 i ∧ Aside0 (kq + i = l.length + 1 ∧ i ≤ l.length) ∧ Aside0 (idsB xs l = allI (fun i x => liveB xs x && (i == 0 || decide (l.getD (i - 1) 0 < x))) i (l.drop i)) ∧ Aside0 (w'.heap[w.heap.size]? = some (.cells #[.int .u64 e, .int .u64 g, .int .u64 n, .int .i64 t, .slice As xs.length cs, .slice An ns.length cn] 36 (0, 0))) ∧ Aside0 (Below w.heap.size w w'))
 case atStart => exact ⟨0, rfl, ⟨⟨by omega, by omega⟩⟩, ⟨rfl⟩, ⟨bs⟩, ⟨hB⟩⟩
 case round =>
  clear bs hB
  obtain ⟨i, rfl, HJ, HV, BS, HB⟩ := hrel
  have hj0 := HJ.out
  have hl2 := HL.out
  by_cases hj : i < l.length
  ·
   have c1 : decide ((i : Int) < (l.length : Int)) = true := decide_eq_true (by omega)
   have ci : (0 : Int) ≤ (i : Int) := by omega
   have ci2 : (i : Int) < (l.length : Int) := by omega
   have HE := HV.out
   rw [allI_drop _ l i hj] at HE
   have hx := Kd.at_int HR.out (i : Int) ci ci2
   obtain ⟨ad, eA, hx⟩ := hx
   have hz : 0 < i → wr.cell? (ad.add (i - 1)) = some (.int .u64 (l.getD (i - 1) 0)) := by
    intro h0
    obtain ⟨ad', eA', hy⟩ := Kd.at_int HR.out ((i - 1 : Nat) : Int) (by omega) (by omega)
    obtain rfl : ad = ad' := by injection eA.symm.trans eA'
    replace hy := (HB.out.cell (World.block_lt_of_cell? w _ hy)).trans hy
    rw [rd_nat] at hy
    rw [Int.toNat_natCast] at hy
    exact hy
   cases eA
   replace hx := (HB.out.cell (World.block_lt_of_cell? w _ hx)).trans hx
   rw [rd_nat, getD_at l i hj] at hx
   rw [Int.toNat_natCast] at hx
   obtain ⟨y, hy⟩ : ∃ y, l[i] = y := ⟨_, rfl⟩
   obtain ⟨z, hzz⟩ : ∃ z, l.getD (i - 1) 0 = z := ⟨_, rfl⟩
   obtain ⟨b, hb⟩ : ∃ b, liveB xs y = b := ⟨_, rfl⟩
   simp only [hy, hzz] at hx hz HE
   rw [hb] at HE
   have LV := Aside0.mk (fun (W : World) (hW : Below w.heap.size w W) => LIV.out y W hW)
   rw [hb] at LV
   clear hy hzz hb HV
   have HE := Aside0.mk HE
   obtain ⟨k1, rfl⟩ : ∃ k1, gk = k1 + 1 := ⟨gk - 1, by omega⟩
   obtain ⟨s0, s1, s2, s3, s4, s5⟩ := cells6 BS.out
   have e0 : (i = 0 → decide (0 < i) = false) ∧ (0 < i → decide (0 < i) = true) := ⟨fun h => decide_eq_false (by omega), fun h => decide_eq_true (by omega)⟩
   cases b with
   | false =>
    clear hz e0 hj0 hj
    go_wp2_with fail
    have CF : Aside0 (∀ w' : World, BelowOf wr w' → (w'.cell? ⟨w.heap.size, 0, none⟩ = some (.int .u64 e) ∧ w'.cell? ⟨w.heap.size, 1, none⟩ = some (.int .u64 g) ∧ w'.cell? ⟨w.heap.size, 2, none⟩ = some (.int .u64 n) ∧ w'.cell? ⟨w.heap.size, 3, none⟩ = some (.int .i64 t) ∧ w'.cell? ⟨w.heap.size, 4, none⟩ = some (.slice As xs.length cs) ∧ w'.cell? ⟨w.heap.size, 5, none⟩ = some (.slice An ns.length cn) ∧ w'.cell? (ad.add i) = some (.int .u64 y))) := ⟨fun w' hC => ⟨(hC.out.cell (World.block_lt_of_cell? _ _ s0)).trans s0, (hC.out.cell (World.block_lt_of_cell? _ _ s1)).trans s1, (hC.out.cell (World.block_lt_of_cell? _ _ s2)).trans s2, (hC.out.cell (World.block_lt_of_cell? _ _ s3)).trans s3, (hC.out.cell (World.block_lt_of_cell? _ _ s4)).trans s4, (hC.out.cell (World.block_lt_of_cell? _ _ s5)).trans s5, (hC.out.cell (World.block_lt_of_cell? _ _ hx)).trans hx⟩⟩
    have VP1 := Aside0.mk (fun (w' : World) (hC : BelowOf wr w') => (LV.out w' (below_step HB.out hC.out)).mono (fun e w'' h => show e = .returned (.bool false) ∧ BelowOf wr w'' from ⟨h.1, ⟨below_step hC.out h.2⟩⟩))
    clear s0 s1 s2 s3 s4 s5 hx
    refine wp_region_below (by kernel_rfl) (by kernel_rfl) ?_
    repeat (first | go_big_quiet_skip | (go_big_quiet_want; rename_i K hK; refine quiet_mk (v := ?_) ?_ (hK _ ?_); rotate_left 1; (focus (intro w' hC; first | (go_simp; first | done | with_reducible rfl) | (obtain ⟨s0, s1, s2, s3, s4, s5, hx⟩ := CF.out w' hC; go_simp; first | done | with_reducible rfl) | (go_simp; go_at_call 94; exact VP1.out w' hC))); clear hK K); try simp only [Act.put, List.setIfInBounds_toArray, List.set_cons_zero, List.set_cons_succ])
    refine wpQuiet_nil ?_
    intro W1 hb1
    have hb := hb1.out
    clear hb1 CF VP1
    replace BS := Aside0.mk (blk_below BS.out hb)
    replace HB := Aside0.mk (below_step HB.out hb)
    clear hb
    go_wp2_with fail
    go_ret
    rw [HE.out]
    exact ⟨rfl, HB.out⟩
   | true =>
    by_cases h0 : i = 0
    ·
     have d0 := e0.1 h0
     have H0 := Aside0.mk h0
     clear hz e0 h0
     go_wp2_with fail
     have CF : Aside0 (∀ w' : World, BelowOf wr w' → (w'.cell? ⟨w.heap.size, 0, none⟩ = some (.int .u64 e) ∧ w'.cell? ⟨w.heap.size, 1, none⟩ = some (.int .u64 g) ∧ w'.cell? ⟨w.heap.size, 2, none⟩ = some (.int .u64 n) ∧ w'.cell? ⟨w.heap.size, 3, none⟩ = some (.int .i64 t) ∧ w'.cell? ⟨w.heap.size, 4, none⟩ = some (.slice As xs.length cs) ∧ w'.cell? ⟨w.heap.size, 5, none⟩ = some (.slice An ns.length cn) ∧ w'.cell? (ad.add i) = some (.int .u64 y))) := ⟨fun w' hC => ⟨(hC.out.cell (World.block_lt_of_cell? _ _ s0)).trans s0, (hC.out.cell (World.block_lt_of_cell? _ _ s1)).trans s1, (hC.out.cell (World.block_lt_of_cell? _ _ s2)).trans s2, (hC.out.cell (World.block_lt_of_cell? _ _ s3)).trans s3, (hC.out.cell (World.block_lt_of_cell? _ _ s4)).trans s4, (hC.out.cell (World.block_lt_of_cell? _ _ s5)).trans s5, (hC.out.cell (World.block_lt_of_cell? _ _ hx)).trans hx⟩⟩
     have VP1 := Aside0.mk (fun (w' : World) (hC : BelowOf wr w') => (LV.out w' (below_step HB.out hC.out)).mono (fun e w'' h => show e = .returned (.bool true) ∧ BelowOf wr w'' from ⟨h.1, ⟨below_step hC.out h.2⟩⟩))
     clear s0 s1 s2 s3 s4 s5 hx
     refine wp_region_below (by kernel_rfl) (by kernel_rfl) ?_
     repeat (first | go_big_quiet_skip | (go_big_quiet_want; rename_i K hK; refine quiet_mk (v := ?_) ?_ (hK _ ?_); rotate_left 1; (focus (intro w' hC; first | (go_simp; first | done | with_reducible rfl) | (obtain ⟨s0, s1, s2, s3, s4, s5, hx⟩ := CF.out w' hC; go_simp; first | done | with_reducible rfl) | (go_simp; go_at_call 94; exact VP1.out w' hC))); clear hK K); try simp only [Act.put, List.setIfInBounds_toArray, List.set_cons_zero, List.set_cons_succ])
     refine wpQuiet_nil ?_
     intro W1 hb1
     have hb := hb1.out
     clear hb1 CF VP1
     replace BS := Aside0.mk (blk_below BS.out hb)
     replace HB := Aside0.mk (below_step HB.out hb)
     clear hb
     go_wp2_with fail
     go_roundg k1
     case measure => omega
     case rel => exact ⟨i + 1, by go_num, ⟨⟨by omega, by omega⟩⟩, ⟨by rw [HE.out, H0.out]; rfl⟩, BS, HB⟩
    ·
     have d0 := e0.2 (by omega)
     replace hz := hz (by omega)
     have hw : IntKind.i64.wrap ((i : Int) - 1) = ((i - 1 : Nat) : Int) := (i64_w _).trans (wrap_down i (by omega) (by omega))
     have cz : (0 : Int) ≤ ((i - 1 : Nat) : Int) := by omega
     have cz2 : ((i - 1 : Nat) : Int) < (l.length : Int) := by omega
     have q0 : (i == 0) = false := beq_eq_false_iff_ne.2 h0
     rw [q0] at HE
     have H0 := Aside0.mk h0
     clear e0 q0 h0
     rcases Decidable.em (y ≤ z) with hq | hq
     ·
      have q1 : decide (y ≤ z) = true := decide_eq_true hq
      have q2 : decide (z < y) = false := decide_eq_false (by omega)
      rw [q2] at HE
      clear q2 hq
      go_wp2_with fail
      have CF : Aside0 (∀ w' : World, BelowOf wr w' → (w'.cell? ⟨w.heap.size, 0, none⟩ = some (.int .u64 e) ∧ w'.cell? ⟨w.heap.size, 1, none⟩ = some (.int .u64 g) ∧ w'.cell? ⟨w.heap.size, 2, none⟩ = some (.int .u64 n) ∧ w'.cell? ⟨w.heap.size, 3, none⟩ = some (.int .i64 t) ∧ w'.cell? ⟨w.heap.size, 4, none⟩ = some (.slice As xs.length cs) ∧ w'.cell? ⟨w.heap.size, 5, none⟩ = some (.slice An ns.length cn) ∧ w'.cell? (ad.add i) = some (.int .u64 y) ∧ w'.cell? (ad.add (i - 1)) = some (.int .u64 z))) := ⟨fun w' hC => ⟨(hC.out.cell (World.block_lt_of_cell? _ _ s0)).trans s0, (hC.out.cell (World.block_lt_of_cell? _ _ s1)).trans s1, (hC.out.cell (World.block_lt_of_cell? _ _ s2)).trans s2, (hC.out.cell (World.block_lt_of_cell? _ _ s3)).trans s3, (hC.out.cell (World.block_lt_of_cell? _ _ s4)).trans s4, (hC.out.cell (World.block_lt_of_cell? _ _ s5)).trans s5, (hC.out.cell (World.block_lt_of_cell? _ _ hx)).trans hx, (hC.out.cell (World.block_lt_of_cell? _ _ hz)).trans hz⟩⟩
      have VP1 := Aside0.mk (fun (w' : World) (hC : BelowOf wr w') => (LV.out w' (below_step HB.out hC.out)).mono (fun e w'' h => show e = .returned (.bool true) ∧ BelowOf wr w'' from ⟨h.1, ⟨below_step hC.out h.2⟩⟩))
      clear s0 s1 s2 s3 s4 s5 hx hz
      refine wp_region_below (by kernel_rfl) (by kernel_rfl) ?_
      repeat (first | go_big_quiet_skip | (go_big_quiet_want; rename_i K hK; refine quiet_mk (v := ?_) ?_ (hK _ ?_); rotate_left 1; (focus (intro w' hC; first | (go_simp; first | done | with_reducible rfl) | (obtain ⟨s0, s1, s2, s3, s4, s5, hx, hz⟩ := CF.out w' hC; go_simp; first | done | with_reducible rfl) | (go_simp; go_at_call 94; exact VP1.out w' hC))); clear hK K); try simp only [Act.put, List.setIfInBounds_toArray, List.set_cons_zero, List.set_cons_succ])
      refine wpQuiet_nil ?_
      intro W1 hb1
      have hb := hb1.out
      clear hb1 CF VP1
      replace BS := Aside0.mk (blk_below BS.out hb)
      replace HB := Aside0.mk (below_step HB.out hb)
      clear hb
      go_wp2_with fail
      go_ret
      rw [HE.out]
      exact ⟨rfl, HB.out⟩
     ·
      have q1 : decide (y ≤ z) = false := decide_eq_false hq
      have q2 : decide (z < y) = true := decide_eq_true (by omega)
      rw [q2] at HE
      clear q2 hq
      go_wp2_with fail
      have CF : Aside0 (∀ w' : World, BelowOf wr w' → (w'.cell? ⟨w.heap.size, 0, none⟩ = some (.int .u64 e) ∧ w'.cell? ⟨w.heap.size, 1, none⟩ = some (.int .u64 g) ∧ w'.cell? ⟨w.heap.size, 2, none⟩ = some (.int .u64 n) ∧ w'.cell? ⟨w.heap.size, 3, none⟩ = some (.int .i64 t) ∧ w'.cell? ⟨w.heap.size, 4, none⟩ = some (.slice As xs.length cs) ∧ w'.cell? ⟨w.heap.size, 5, none⟩ = some (.slice An ns.length cn) ∧ w'.cell? (ad.add i) = some (.int .u64 y) ∧ w'.cell? (ad.add (i - 1)) = some (.int .u64 z))) := ⟨fun w' hC => ⟨(hC.out.cell (World.block_lt_of_cell? _ _ s0)).trans s0, (hC.out.cell (World.block_lt_of_cell? _ _ s1)).trans s1, (hC.out.cell (World.block_lt_of_cell? _ _ s2)).trans s2, (hC.out.cell (World.block_lt_of_cell? _ _ s3)).trans s3, (hC.out.cell (World.block_lt_of_cell? _ _ s4)).trans s4, (hC.out.cell (World.block_lt_of_cell? _ _ s5)).trans s5, (hC.out.cell (World.block_lt_of_cell? _ _ hx)).trans hx, (hC.out.cell (World.block_lt_of_cell? _ _ hz)).trans hz⟩⟩
      have VP1 := Aside0.mk (fun (w' : World) (hC : BelowOf wr w') => (LV.out w' (below_step HB.out hC.out)).mono (fun e w'' h => show e = .returned (.bool true) ∧ BelowOf wr w'' from ⟨h.1, ⟨below_step hC.out h.2⟩⟩))
      clear s0 s1 s2 s3 s4 s5 hx hz
      refine wp_region_below (by kernel_rfl) (by kernel_rfl) ?_
      repeat (first | go_big_quiet_skip | (go_big_quiet_want; rename_i K hK; refine quiet_mk (v := ?_) ?_ (hK _ ?_); rotate_left 1; (focus (intro w' hC; first | (go_simp; first | done | with_reducible rfl) | (obtain ⟨s0, s1, s2, s3, s4, s5, hx, hz⟩ := CF.out w' hC; go_simp; first | done | with_reducible rfl) | (go_simp; go_at_call 94; exact VP1.out w' hC))); clear hK K); try simp only [Act.put, List.setIfInBounds_toArray, List.set_cons_zero, List.set_cons_succ])
      refine wpQuiet_nil ?_
      intro W1 hb1
      have hb := hb1.out
      clear hb1 CF VP1
      replace BS := Aside0.mk (blk_below BS.out hb)
      replace HB := Aside0.mk (below_step HB.out hb)
      clear hb
      go_wp2_with fail
      go_roundg k1
      case measure => omega
      case rel => exact ⟨i + 1, by go_num, ⟨⟨by omega, by omega⟩⟩, ⟨by rw [HE.out]; rfl⟩, BS, HB⟩
  ·
   have c1 : decide ((i : Int) < (l.length : Int)) = false := decide_eq_false (by omega)
   go_wp2_with fail
   go_ret
   rw [HV.out, allI_end _ l i (by omega)]
   exact ⟨rfl, HB.out⟩
def spec_l3lockOK.f (k : Nat) (e g n t : Int) (xs : List Se) (ns : List No) (p v : List Int) (o m : Int) (h : List Int) (ep ge : Int) (wa : List Int) : Option Bool := some (lockB e g ⟨p, v, o, m, h, ep, ge, wa⟩)
set_option maxHeartbeats 8000000 in
set_option maxRecDepth 100000 in
theorem spec_l3lockOK.calls (k : Nat) (e g n t : Int) (As : Option Addr) (cs : Nat) (xs : List Se) (An : Option Addr) (cn : Nat) (ns : List No) (A0 : Option Addr) (c0 : Nat) (p : List Int) (A1 : Option Addr) (c1 : Nat) (v : List Int) (o m : Int) (A4 : Option Addr) (c4 : Nat) (h : List Int) (ep ge : Int) (A7 : Option Addr) (c7 : Nat) (wa : List Int) (r : Bool) (w : World) (h1 : Kd.C kSe w As xs.length xs) (hc1 : xs.length ≤ cs) (h2 : Kd.C kNo w An ns.length ns) (hc2 : ns.length ≤ cn) (i0 : Kd.C (Kd.int .u8) w A0 p.length p) (j0 : p.length ≤ c0) (i1 : Kd.C (Kd.int .u8) w A1 v.length v) (j1 : v.length ≤ c1) (i4 : Kd.C (Kd.int .u64) w A4 h.length h) (j4 : h.length ≤ c4) (i7 : Kd.C (Kd.int .u64) w A7 wa.length wa) (j7 : wa.length ≤ c7) (hf : spec_l3lockOK.f k e g n t xs ns p v o m h ep ge wa = some r) :
  Calls Tryd.prog 96 #[.agg #[.int .u64 e, .int .u64 g, .int .u64 n, .int .i64 t, .slice As xs.length cs, .slice An ns.length cn], .agg #[.slice A0 p.length c0, .slice A1 v.length c1, .int .u64 o, .int .i64 m, .slice A4 h.length c4, .int .u64 ep, .int .u64 ge, .slice A7 wa.length c7]] w fun e w' => e = .returned (.bool r) ∧ Below w.heap.size w w' := by
 obtain rfl := Option.some.inj hf
 clear hf h1 hc1 h2 hc2 i0 j0 i1 j1 i4 j4 i7 j7
 go_enter Tryd.func96, Tryd.ntmps96
 go_upto_region 1 with (fail)
 have bx := blk_alloc (blk_new w (.cells #[.int .u64 e, .int .u64 g, .int .u64 n, .int .i64 t, .slice As xs.length cs, .slice An ns.length cn] 36)) (.cells #[.slice A0 p.length c0, .slice A1 v.length c1, .int .u64 o, .int .i64 m, .slice A4 h.length c4, .int .u64 ep, .int .u64 ge, .slice A7 wa.length c7] 76)
 have bn := blk_new (w.alloc (.cells #[.int .u64 e, .int .u64 g, .int .u64 n, .int .i64 t, .slice As xs.length cs, .slice An ns.length cn] 36)) (.cells #[.slice A0 p.length c0, .slice A1 v.length c1, .int .u64 o, .int .i64 m, .slice A4 h.length c4, .int .u64 ep, .int .u64 ge, .slice A7 wa.length c7] 76)
 simp only [World.size_alloc] at bn
 have hB := below_alloc (below_alloc (Below.refl w.heap.size w) (.cells #[.int .u64 e, .int .u64 g, .int .u64 n, .int .i64 t, .slice As xs.length cs, .slice An ns.length cn] 36)) (.cells #[.slice A0 p.length c0, .slice A1 v.length c1, .int .u64 o, .int .i64 m, .slice A4 h.length c4, .int .u64 ep, .int .u64 ge, .slice A7 wa.length c7] 76)
 generalize (w.alloc (.cells #[.int .u64 e, .int .u64 g, .int .u64 n, .int .i64 t, .slice As xs.length cs, .slice An ns.length cn] 36)).alloc (.cells #[.slice A0 p.length c0, .slice A1 v.length c1, .int .u64 o, .int .i64 m, .slice A4 h.length c4, .int .u64 ep, .int .u64 ge, .slice A7 wa.length c7] 76) = W0 at *
 have HB := Aside0.mk hB
 obtain ⟨s0, s1, s2, s3, s4, s5⟩ := cells6 bx
 obtain ⟨n0, n1, n2, n3, n4, n5, n6, n7⟩ := cells8 bn
 clear bx bn hB s2 s3 s4 s5 n0 n1 n2 n7
 have HL := Aside0.mk (show ∀ b, lockB e g ⟨p, v, o, m, h, ep, ge, wa⟩ = b → lockB e g ⟨p, v, o, m, h, ep, ge, wa⟩ = b from fun _ q => q)
 have K1 : ∀ (a b : Int), a = b → (a == b) = true ∧ (a != b) = false := fun a b q => ⟨beq_iff_eq.mpr q, bne_eq_false_iff_eq.mpr q⟩
 have K2 : ∀ (a b : Int), ¬ a = b → (a == b) = false ∧ (a != b) = true := fun a b q => ⟨beq_eq_false_iff_ne.mpr q, bne_iff_ne.mpr q⟩
 rcases Decidable.em (m = 1) with q1 | q1
 ·
  obtain ⟨q1a, q1b⟩ := K1 _ _ q1
  rcases Decidable.em (h.length = 1) with k1 | k1
  ·
   obtain ⟨k1a, k1b⟩ := K1 (h.length : Int) 1 (by omega)
   rcases Decidable.em (1 ≤ ge) with k2 | k2
   ·
    have k2a : decide (1 ≤ ge) = true := decide_eq_true k2
    rcases Decidable.em (ge ≤ g) with k3 | k3
    ·
     have k3a : decide (ge ≤ g) = true := decide_eq_true k3
     rcases Decidable.em (ep ≤ e) with k4 | k4
     ·
      have k4a : decide (ep ≤ e) = true := decide_eq_true k4
      have hl : lockB e g ⟨p, v, o, m, h, ep, ge, wa⟩ = true := by
       unfold lockB
       first | (simp [q1, k1, k2, k3, k4]; done) | (simp [q1, k1, k2, k3, k4]; omega)
      have HLE := Aside0.mk hl
      clear hl HL K1 K2 q1 k1 k2 k3 k4
      go_wp2_with fail
      go_ret
      exact ⟨by rw [HLE.out]; rfl, HB.out⟩
     ·
      have k4a : decide (ep ≤ e) = false := decide_eq_false k4
      have hl : lockB e g ⟨p, v, o, m, h, ep, ge, wa⟩ = false := by
       unfold lockB
       first | (simp [q1, k1, k2, k3, k4]; done) | (simp [q1, k1, k2, k3, k4]; omega)
      have HLE := Aside0.mk hl
      clear hl HL K1 K2 q1 k1 k2 k3 k4
      go_wp2_with fail
      go_ret
      exact ⟨by rw [HLE.out]; rfl, HB.out⟩
    ·
     have k3a : decide (ge ≤ g) = false := decide_eq_false k3
     have hl : lockB e g ⟨p, v, o, m, h, ep, ge, wa⟩ = false := by
      unfold lockB
      first | (simp [q1, k1, k2, k3]; done) | (simp [q1, k1, k2, k3]; omega)
     have HLE := Aside0.mk hl
     clear hl HL K1 K2 q1 k1 k2 k3
     go_wp2_with fail
     go_ret
     exact ⟨by rw [HLE.out]; rfl, HB.out⟩
   ·
    have k2a : decide (1 ≤ ge) = false := decide_eq_false k2
    have hl : lockB e g ⟨p, v, o, m, h, ep, ge, wa⟩ = false := by
     unfold lockB
     first | (simp [q1, k1, k2]; done) | (simp [q1, k1, k2]; omega)
    have HLE := Aside0.mk hl
    clear hl HL K1 K2 q1 k1 k2
    go_wp2_with fail
    go_ret
    exact ⟨by rw [HLE.out]; rfl, HB.out⟩
  ·
   obtain ⟨k1a, k1b⟩ := K2 (h.length : Int) 1 (by omega)
   have hl : lockB e g ⟨p, v, o, m, h, ep, ge, wa⟩ = false := by
    unfold lockB
    first | (simp [q1, k1]; done) | (simp [q1, k1]; omega)
   have HLE := Aside0.mk hl
   clear hl HL K1 K2 q1 k1
   go_wp2_with fail
   go_ret
   exact ⟨by rw [HLE.out]; rfl, HB.out⟩
 ·
  obtain ⟨q1a, q1b⟩ := K2 _ _ q1
  rcases Decidable.em (ep = 0) with k6 | k6
  ·
   obtain ⟨k6a, k6b⟩ := K1 _ _ k6
   rcases Decidable.em (ge = 0) with k7 | k7
   ·
    obtain ⟨k7a, k7b⟩ := K1 _ _ k7
    rcases Decidable.em (m = 0) with q0 | q0
    ·
     obtain ⟨q0a, q0b⟩ := K1 _ _ q0
     rcases Decidable.em (h.length = 0) with k5 | k5
     ·
      obtain ⟨k5a, k5b⟩ := K1 (h.length : Int) 0 (by omega)
      have k5e : (h = []) = True := by cases h <;> simp_all
      have hl : lockB e g ⟨p, v, o, m, h, ep, ge, wa⟩ = true := by
       unfold lockB
       first | (simp [q1, q0, k5, k6, k7]; done) | (simp [q1, q0, k5, k6, k7]; omega)
      have HLE := Aside0.mk hl
      clear hl HL K1 K2 q1 q0 k5 k6 k7
      go_wp2_with fail
      go_ret
      exact ⟨by rw [HLE.out]; rfl, HB.out⟩
     ·
      obtain ⟨k5a, k5b⟩ := K2 (h.length : Int) 0 (by omega)
      have k5e : (h = []) = False := by cases h <;> simp_all
      have hl : lockB e g ⟨p, v, o, m, h, ep, ge, wa⟩ = false := by
       unfold lockB
       first | (simp [q1, q0, k5, k6, k7]; done) | (simp [q1, q0, k5, k6, k7]; omega)
      have HLE := Aside0.mk hl
      clear hl HL K1 K2 q1 q0 k5 k6 k7
      go_wp2_with fail
      go_ret
      exact ⟨by rw [HLE.out]; rfl, HB.out⟩
    ·
     obtain ⟨q0a, q0b⟩ := K2 _ _ q0
     rcases Decidable.em (m = 2) with q2 | q2
     ·
      obtain ⟨q2a, q2b⟩ := K1 _ _ q2
      rcases Decidable.em (1 ≤ h.length) with k5 | k5
      ·
       have k5a : decide (1 ≤ (h.length : Int)) = true := decide_eq_true (by omega)
       have k5b : decide (1 ≤ h.length) = true := decide_eq_true k5
       have hl : lockB e g ⟨p, v, o, m, h, ep, ge, wa⟩ = true := by
        unfold lockB
        first | (simp [q1, q0, q2, k5, k6, k7]; done) | (simp [q1, q0, q2, k5, k6, k7]; omega)
       have HLE := Aside0.mk hl
       clear hl HL K1 K2 q1 q0 q2 k5 k6 k7
       go_wp2_with fail
       go_ret
       exact ⟨by rw [HLE.out]; rfl, HB.out⟩
      ·
       have k5a : decide (1 ≤ (h.length : Int)) = false := decide_eq_false (by omega)
       have k5b : decide (1 ≤ h.length) = false := decide_eq_false k5
       have hl : lockB e g ⟨p, v, o, m, h, ep, ge, wa⟩ = false := by
        unfold lockB
        first | (simp [q1, q0, q2, k5, k6, k7]; done) | (simp [q1, q0, q2, k5, k6, k7]; omega)
       have HLE := Aside0.mk hl
       clear hl HL K1 K2 q1 q0 q2 k5 k6 k7
       go_wp2_with fail
       go_ret
       exact ⟨by rw [HLE.out]; rfl, HB.out⟩
     ·
      obtain ⟨q2a, q2b⟩ := K2 _ _ q2
      have hl : lockB e g ⟨p, v, o, m, h, ep, ge, wa⟩ = false := by
       unfold lockB
       first | (simp [q1, q0, q2, k6, k7]; done) | (simp [q1, q0, q2, k6, k7]; omega)
      have HLE := Aside0.mk hl
      clear hl HL K1 K2 q1 q0 q2 k6 k7
      go_wp2_with fail
      go_ret
      exact ⟨by rw [HLE.out]; rfl, HB.out⟩
   ·
    obtain ⟨k7a, k7b⟩ := K2 _ _ k7
    have hl : lockB e g ⟨p, v, o, m, h, ep, ge, wa⟩ = false := by
     unfold lockB
     first | (simp [q1, k6, k7]; done) | (simp [q1, k6, k7]; omega)
    have HLE := Aside0.mk hl
    clear hl HL K1 K2 q1 k6 k7
    go_wp2_with fail
    go_ret
    exact ⟨by rw [HLE.out]; rfl, HB.out⟩
  ·
   obtain ⟨k6a, k6b⟩ := K2 _ _ k6
   have hl : lockB e g ⟨p, v, o, m, h, ep, ge, wa⟩ = false := by
    unfold lockB
    first | (simp [q1, k6]; done) | (simp [q1, k6]; omega)
   have HLE := Aside0.mk hl
   clear hl HL K1 K2 q1 k6
   go_wp2_with fail
   go_ret
   exact ⟨by rw [HLE.out]; rfl, HB.out⟩
end Go.Proofs.YtbgbocdohadhoaaDoor.Print
