/- Texts of this session, joined by its own program. -/
import Derived.Test.YtbgbocdohadhoaaCEO0
import Derived.Test.YtbgbocdohadhoaaCEO1
import Derived.RangeFuncOwn
import Derived.Carry
import Derived.WalkSpells
import Derived.WalkMore
namespace Go.Proofs.Ytbgbocdohadhoaa.Print
open Go.RowKit Go.Proofs.YtbgbocdohadhoaaW.PrintWords Go.Proofs.YtbgbocdohadhoaaW.PrintLast Go.Proofs.YtbgbocdohadhoaaW.PrintMore
attribute [local go_sem] max2_int min2_int max_two min_two max_three min_three max_four min_four
set_option linter.unusedVariables false
set_option linter.unusedSimpArgs false
def laws_szOp.f (a0_0 : Int) (a0_1 : Int) (l0_2 : List Int) (a0_3 : Int) (l0_4 : List Int) (a0_5 : Int) (a0_6 : Int) (a1 : Int) : Option (Int) := (laws_szByteS.f l0_2 a1).bind fun t102 => (if t102 < 0 then (some (-1)) else ((laws_szByteS.f l0_4 t102).bind fun t103 => (if t103 < 0 then (some (-1)) else (some t103))))
set_option maxHeartbeats 8000000 in
set_option maxRecDepth 100000 in
theorem laws_szOp.calls (a0_0 : Int) (a0_1 : Int) (A0_2 : Option Addr) (c0_2 : Nat) (l0_2 : List Int) (a0_3 : Int) (A0_4 : Option Addr) (c0_4 : Nat) (l0_4 : List Int) (a0_5 : Int) (a0_6 : Int) (a1 : Int) (r : Int) (w : World) (hr0_2 : Kd.C (Kd.int .u8) w A0_2 l0_2.length l0_2) (hc0_2 : l0_2.length ≤ c0_2) (hr0_4 : Kd.C (Kd.int .u8) w A0_4 l0_4.length l0_4) (hc0_4 : l0_4.length ≤ c0_4) (h : laws_szOp.f a0_0 a0_1 l0_2 a0_3 l0_4 a0_5 a0_6 a1 = some r) :
    Calls Try.prog 5 #[.agg #[.int .i64 a0_0, .int .u64 a0_1, .slice A0_2 l0_2.length c0_2, .int .i64 a0_3, .slice A0_4 l0_4.length c0_4, .int .u64 a0_5, .int .u64 a0_6], .int .i64 a1] w fun e w' => e = .returned (.int .i64 r) ∧ Below w.heap.size w w' := by
  have hu25 := Try.underlying25
  have HR0_2 := Aside0.mk hr0_2
  have HC0_2 := Aside0.mk hc0_2
  clear hr0_2 hc0_2
  have HR0_4 := Aside0.mk hr0_4
  have HC0_4 := Aside0.mk hc0_4
  clear hr0_4 hc0_4
  have HB := Aside0.mk (Below.refl w.heap.size w)
  have H : ((laws_szByteS.f l0_2 a1).bind fun t102 => (if t102 < 0 then (some (-1)) else ((laws_szByteS.f l0_4 t102).bind fun t103 => (if t103 < 0 then (some (-1)) else (some t103))))) = some r := h
  clear h
  replace H := Option.bind_eq_some_iff.mp H
  obtain ⟨t102, A30, H⟩ := H
  replace H : (if t102 < 0 then (some (-1)) else ((laws_szByteS.f l0_4 t102).bind fun t103 => (if t103 < 0 then (some (-1)) else (some t103)))) = some r := H
  have A3 := Aside0.mk A30
  clear A30
  by_cases c4 : t102 < 0
  · rw [if_pos c4] at H
    have c4b0 : decide (t102 < 0) = true := decide_eq_true c4
    clear c4
    obtain rfl := Option.some.inj H
    go_enter Try.func5, Try.ntmps5
    go_wp2_with (first | ((with_reducible refine gate_dst (N := 2) rfl ?_); refine box_event ?hg (N := 2) ?hd (cs := #[.int .i64 a0_0, .int .u64 a0_1, .slice A0_2 l0_2.length c0_2, .int .i64 a0_3, .slice A0_4 l0_4.length c0_4, .int .u64 a0_5, .int .u64 a0_6]) (t := 25) ?hr ?_; (case hd => rfl); (case hg => rfl); (case hr => first | (go_simp; done) | (go_simp; rfl)); intro gb101 hg w5 hbox hb; have n0_ := Aside0.mk (below_step (by repeat (first | (with_reducible first | exact HB.out | apply below_alloc | apply pw_below_drewN | apply below_drew1) | exact HB.out)) hb); have n1_ := Aside0.mk (hbox); have n2_ := Aside0.mk ((by rw [hg]; exact (below_size (by repeat (first | (with_reducible first | exact HB.out | apply below_alloc | apply pw_below_drewN | apply below_drew1) | exact HB.out))) : w.heap.size ≤ gb101)); have n3_ := Aside0.mk ((by rw [hg]; exact (below_size (by repeat (first | (with_reducible first | exact HB.out | apply below_alloc | apply pw_below_drewN | apply below_drew1) | exact HB.out))) : w.heap.size ≤ gb101)); clear HB; have HB := n0_; have BK101 := n1_; have GW101 := n2_; have GE101 := n3_; clear n0_ n1_ n2_ n3_; clear hb hbox hg; have hcz6_0 : w5.cell? ⟨gb101, 0, none⟩ = some (.int .i64 a0_0) := (blk_cell BK101.out 0).trans rfl; have hcz6_1 : w5.cell? ⟨gb101, 1, none⟩ = some (.int .u64 a0_1) := (blk_cell BK101.out 1).trans rfl; have hcz6_2 : w5.cell? ⟨gb101, 2, none⟩ = some (.slice A0_2 l0_2.length c0_2) := (blk_cell BK101.out 2).trans rfl; have hcz6_3 : w5.cell? ⟨gb101, 3, none⟩ = some (.int .i64 a0_3) := (blk_cell BK101.out 3).trans rfl; have hcz6_4 : w5.cell? ⟨gb101, 4, none⟩ = some (.slice A0_4 l0_4.length c0_4) := (blk_cell BK101.out 4).trans rfl; have hcz6_5 : w5.cell? ⟨gb101, 5, none⟩ = some (.int .u64 a0_5) := (blk_cell BK101.out 5).trans rfl; have hcz6_6 : w5.cell? ⟨gb101, 6, none⟩ = some (.int .u64 a0_6) := (blk_cell BK101.out 6).trans rfl; have hfz6_0 := blk_frozen BK101.out 0; have hfz6_1 := blk_frozen BK101.out 1; have hfz6_2 := blk_frozen BK101.out 2; have hfz6_3 := blk_frozen BK101.out 3; have hfz6_4 := blk_frozen BK101.out 4; have hfz6_5 := blk_frozen BK101.out 5; have hfz6_6 := blk_frozen BK101.out 6) | ((with_reducible refine gate_callee (f := 18) rfl ?_); refine goesL_ (some 8) rfl rfl Try.func18 (by kernel_rfl) rfl #[.slice A0_2 l0_2.length c0_2, .int .i64 a1] rfl (by (try simp only [List.map_toArray, List.map_cons, List.map_nil]); first | done | rfl | (simp only [List.length_drop, List.length_take]; rfl)) ?_; (with_reducible refine (laws_szByteS.calls _ _ l0_2 a1 t102 _ ?side1 ?side2 A3.out).mono ?_); (case side1 => repeat (first | exact (Kd.C_below HR0_2.out HB.out) | (with_reducible refine Kd.C_alloc ?_ _) | (with_reducible refine Kd.C_drewN ?_ _) | (with_reducible refine Kd.C_drew ?_))); (case side2 => exact HC0_2.out); rintro e w' ⟨rfl, ⟨nd, rfl⟩⟩; refine ⟨_, rfl, ?_⟩))
    go_ret
    exact ⟨by first | rfl | (simp [errW_none, errW_some] <;> rfl) | (simp [*, errW_none, errW_some] <;> rfl), by repeat (first | (with_reducible first | exact HB.out | apply below_alloc | apply pw_below_drewN | apply below_drew1 | refine below_set ?_ GE101.out) | exact HB.out)⟩
  · rw [if_neg c4] at H
    have c4b0 : decide (t102 < 0) = false := decide_eq_false c4
    clear c4
    replace H := Option.bind_eq_some_iff.mp H
    obtain ⟨t103, A70, H⟩ := H
    replace H : (if t103 < 0 then (some (-1)) else (some t103)) = some r := H
    have A7 := Aside0.mk A70
    clear A70
    by_cases c8 : t103 < 0
    · rw [if_pos c8] at H
      have c8b0 : decide (t103 < 0) = true := decide_eq_true c8
      clear c8
      obtain rfl := Option.some.inj H
      go_enter Try.func5, Try.ntmps5
      go_wp2_with (first | ((with_reducible refine gate_dst (N := 2) rfl ?_); refine box_event ?hg (N := 2) ?hd (cs := #[.int .i64 a0_0, .int .u64 a0_1, .slice A0_2 l0_2.length c0_2, .int .i64 a0_3, .slice A0_4 l0_4.length c0_4, .int .u64 a0_5, .int .u64 a0_6]) (t := 25) ?hr ?_; (case hd => rfl); (case hg => rfl); (case hr => first | (go_simp; done) | (go_simp; rfl)); intro gb101 hg w9 hbox hb; have n0_ := Aside0.mk (below_step (by repeat (first | (with_reducible first | exact HB.out | apply below_alloc | apply pw_below_drewN | apply below_drew1) | exact HB.out)) hb); have n1_ := Aside0.mk (hbox); have n2_ := Aside0.mk ((by rw [hg]; exact (below_size (by repeat (first | (with_reducible first | exact HB.out | apply below_alloc | apply pw_below_drewN | apply below_drew1) | exact HB.out))) : w.heap.size ≤ gb101)); have n3_ := Aside0.mk ((by rw [hg]; exact (below_size (by repeat (first | (with_reducible first | exact HB.out | apply below_alloc | apply pw_below_drewN | apply below_drew1) | exact HB.out))) : w.heap.size ≤ gb101)); clear HB; have HB := n0_; have BK101 := n1_; have GW101 := n2_; have GE101 := n3_; clear n0_ n1_ n2_ n3_; clear hb hbox hg; have hcz10_0 : w9.cell? ⟨gb101, 0, none⟩ = some (.int .i64 a0_0) := (blk_cell BK101.out 0).trans rfl; have hcz10_1 : w9.cell? ⟨gb101, 1, none⟩ = some (.int .u64 a0_1) := (blk_cell BK101.out 1).trans rfl; have hcz10_2 : w9.cell? ⟨gb101, 2, none⟩ = some (.slice A0_2 l0_2.length c0_2) := (blk_cell BK101.out 2).trans rfl; have hcz10_3 : w9.cell? ⟨gb101, 3, none⟩ = some (.int .i64 a0_3) := (blk_cell BK101.out 3).trans rfl; have hcz10_4 : w9.cell? ⟨gb101, 4, none⟩ = some (.slice A0_4 l0_4.length c0_4) := (blk_cell BK101.out 4).trans rfl; have hcz10_5 : w9.cell? ⟨gb101, 5, none⟩ = some (.int .u64 a0_5) := (blk_cell BK101.out 5).trans rfl; have hcz10_6 : w9.cell? ⟨gb101, 6, none⟩ = some (.int .u64 a0_6) := (blk_cell BK101.out 6).trans rfl; have hfz10_0 := blk_frozen BK101.out 0; have hfz10_1 := blk_frozen BK101.out 1; have hfz10_2 := blk_frozen BK101.out 2; have hfz10_3 := blk_frozen BK101.out 3; have hfz10_4 := blk_frozen BK101.out 4; have hfz10_5 := blk_frozen BK101.out 5; have hfz10_6 := blk_frozen BK101.out 6) | ((with_reducible refine gate_callee (f := 18) rfl ?_); refine goesL_ (some 8) rfl rfl Try.func18 (by kernel_rfl) rfl #[.slice A0_2 l0_2.length c0_2, .int .i64 a1] rfl (by (try simp only [List.map_toArray, List.map_cons, List.map_nil]); first | done | rfl | (simp only [List.length_drop, List.length_take]; rfl)) ?_; (with_reducible refine (laws_szByteS.calls _ _ l0_2 a1 t102 _ ?side1 ?side2 A3.out).mono ?_); (case side1 => repeat (first | exact (Kd.C_below HR0_2.out HB.out) | (with_reducible refine Kd.C_alloc ?_ _) | (with_reducible refine Kd.C_drewN ?_ _) | (with_reducible refine Kd.C_drew ?_))); (case side2 => exact HC0_2.out); rintro e w' ⟨rfl, ⟨nd, rfl⟩⟩; refine ⟨_, rfl, ?_⟩) | ((with_reducible refine gate_callee (f := 18) rfl ?_); refine goesL_ (some 14) rfl rfl Try.func18 (by kernel_rfl) rfl #[.slice A0_4 l0_4.length c0_4, .int .i64 t102] rfl (by (try simp only [List.map_toArray, List.map_cons, List.map_nil]); first | done | rfl | (simp only [List.length_drop, List.length_take]; rfl)) ?_; (with_reducible refine (laws_szByteS.calls _ _ l0_4 t102 t103 _ ?side1 ?side2 A7.out).mono ?_); (case side1 => repeat (first | exact (Kd.C_below HR0_4.out (by repeat (first | (with_reducible first | exact HB.out | apply below_alloc | apply pw_below_drewN | apply below_drew1 | refine below_set ?_ GE101.out) | exact HB.out))) | (with_reducible refine Kd.C_alloc ?_ _) | (with_reducible refine Kd.C_drewN ?_ _) | (with_reducible refine Kd.C_drew ?_))); (case side2 => exact HC0_4.out); rintro e w' ⟨rfl, ⟨nd, rfl⟩⟩; refine ⟨_, rfl, ?_⟩))
      go_ret
      exact ⟨by first | rfl | (simp [errW_none, errW_some] <;> rfl) | (simp [*, errW_none, errW_some] <;> rfl), by repeat (first | (with_reducible first | exact HB.out | apply below_alloc | apply pw_below_drewN | apply below_drew1 | refine below_set ?_ GE101.out) | exact HB.out)⟩
    · rw [if_neg c8] at H
      have c8b0 : decide (t103 < 0) = false := decide_eq_false c8
      clear c8
      obtain rfl := Option.some.inj H
      go_enter Try.func5, Try.ntmps5
      go_wp2_with (first | ((with_reducible refine gate_dst (N := 2) rfl ?_); refine box_event ?hg (N := 2) ?hd (cs := #[.int .i64 a0_0, .int .u64 a0_1, .slice A0_2 l0_2.length c0_2, .int .i64 a0_3, .slice A0_4 l0_4.length c0_4, .int .u64 a0_5, .int .u64 a0_6]) (t := 25) ?hr ?_; (case hd => rfl); (case hg => rfl); (case hr => first | (go_simp; done) | (go_simp; rfl)); intro gb101 hg w11 hbox hb; have n0_ := Aside0.mk (below_step (by repeat (first | (with_reducible first | exact HB.out | apply below_alloc | apply pw_below_drewN | apply below_drew1) | exact HB.out)) hb); have n1_ := Aside0.mk (hbox); have n2_ := Aside0.mk ((by rw [hg]; exact (below_size (by repeat (first | (with_reducible first | exact HB.out | apply below_alloc | apply pw_below_drewN | apply below_drew1) | exact HB.out))) : w.heap.size ≤ gb101)); have n3_ := Aside0.mk ((by rw [hg]; exact (below_size (by repeat (first | (with_reducible first | exact HB.out | apply below_alloc | apply pw_below_drewN | apply below_drew1) | exact HB.out))) : w.heap.size ≤ gb101)); clear HB; have HB := n0_; have BK101 := n1_; have GW101 := n2_; have GE101 := n3_; clear n0_ n1_ n2_ n3_; clear hb hbox hg; have hcz12_0 : w11.cell? ⟨gb101, 0, none⟩ = some (.int .i64 a0_0) := (blk_cell BK101.out 0).trans rfl; have hcz12_1 : w11.cell? ⟨gb101, 1, none⟩ = some (.int .u64 a0_1) := (blk_cell BK101.out 1).trans rfl; have hcz12_2 : w11.cell? ⟨gb101, 2, none⟩ = some (.slice A0_2 l0_2.length c0_2) := (blk_cell BK101.out 2).trans rfl; have hcz12_3 : w11.cell? ⟨gb101, 3, none⟩ = some (.int .i64 a0_3) := (blk_cell BK101.out 3).trans rfl; have hcz12_4 : w11.cell? ⟨gb101, 4, none⟩ = some (.slice A0_4 l0_4.length c0_4) := (blk_cell BK101.out 4).trans rfl; have hcz12_5 : w11.cell? ⟨gb101, 5, none⟩ = some (.int .u64 a0_5) := (blk_cell BK101.out 5).trans rfl; have hcz12_6 : w11.cell? ⟨gb101, 6, none⟩ = some (.int .u64 a0_6) := (blk_cell BK101.out 6).trans rfl; have hfz12_0 := blk_frozen BK101.out 0; have hfz12_1 := blk_frozen BK101.out 1; have hfz12_2 := blk_frozen BK101.out 2; have hfz12_3 := blk_frozen BK101.out 3; have hfz12_4 := blk_frozen BK101.out 4; have hfz12_5 := blk_frozen BK101.out 5; have hfz12_6 := blk_frozen BK101.out 6) | ((with_reducible refine gate_callee (f := 18) rfl ?_); refine goesL_ (some 8) rfl rfl Try.func18 (by kernel_rfl) rfl #[.slice A0_2 l0_2.length c0_2, .int .i64 a1] rfl (by (try simp only [List.map_toArray, List.map_cons, List.map_nil]); first | done | rfl | (simp only [List.length_drop, List.length_take]; rfl)) ?_; (with_reducible refine (laws_szByteS.calls _ _ l0_2 a1 t102 _ ?side1 ?side2 A3.out).mono ?_); (case side1 => repeat (first | exact (Kd.C_below HR0_2.out HB.out) | (with_reducible refine Kd.C_alloc ?_ _) | (with_reducible refine Kd.C_drewN ?_ _) | (with_reducible refine Kd.C_drew ?_))); (case side2 => exact HC0_2.out); rintro e w' ⟨rfl, ⟨nd, rfl⟩⟩; refine ⟨_, rfl, ?_⟩) | ((with_reducible refine gate_callee (f := 18) rfl ?_); refine goesL_ (some 14) rfl rfl Try.func18 (by kernel_rfl) rfl #[.slice A0_4 l0_4.length c0_4, .int .i64 t102] rfl (by (try simp only [List.map_toArray, List.map_cons, List.map_nil]); first | done | rfl | (simp only [List.length_drop, List.length_take]; rfl)) ?_; (with_reducible refine (laws_szByteS.calls _ _ l0_4 t102 t103 _ ?side1 ?side2 A7.out).mono ?_); (case side1 => repeat (first | exact (Kd.C_below HR0_4.out (by repeat (first | (with_reducible first | exact HB.out | apply below_alloc | apply pw_below_drewN | apply below_drew1 | refine below_set ?_ GE101.out) | exact HB.out))) | (with_reducible refine Kd.C_alloc ?_ _) | (with_reducible refine Kd.C_drewN ?_ _) | (with_reducible refine Kd.C_drew ?_))); (case side2 => exact HC0_4.out); rintro e w' ⟨rfl, ⟨nd, rfl⟩⟩; refine ⟨_, rfl, ?_⟩))
      go_ret
      exact ⟨by first | rfl | (simp [errW_none, errW_some] <;> rfl) | (simp [*, errW_none, errW_some] <;> rfl), by repeat (first | (with_reducible first | exact HB.out | apply below_alloc | apply pw_below_drewN | apply below_drew1 | refine below_set ?_ GE101.out) | exact HB.out)⟩
end Go.Proofs.Ytbgbocdohadhoaa.Print
namespace Go.Proofs.Ytbgbocdohadhoaa.Print
open Go.RowKit Go.Proofs.YtbgbocdohadhoaaW.PrintWords Go.Proofs.YtbgbocdohadhoaaW.PrintLast Go.Proofs.YtbgbocdohadhoaaW.PrintMore
set_option linter.unusedVariables false
set_option linter.unusedSimpArgs false
theorem toByteS_bk (k : Nat) (w0 : World) (A : Option Addr) (c : Nat) (l : List Int) (w : World) (hB : Below w0.heap.size w0 w) (h0 : Kd.C (Kd.int .u8) w A l.length l) (hc : l.length ≤ c) (hl : l.length ≤ 2097152) (hk : 2097152 < k) :
    Calls Try.prog 15 #[.slice A l.length c] w fun e w' => ∃ B d, e = .returned (.slice B l.length d) ∧ BK w0 w' w.heap.size w'.heap.size B d l ∧ Below w.heap.size w w' := by
  refine (laws_toByteS.calls k A c l l w h0 hc (toByteS_f l (by omega) k (by omega))).mono ?_
  rintro e w' ⟨v, rfl, hr, hb⟩
  obtain ⟨B, d, rfl⟩ := Kd.R_slice hr
  exact ⟨B, d, rfl, BK.of hr hB, hb⟩
theorem markByteS_bk (k m : Nat) (w0 : World) (lo hi : Nat) (A : Option Addr) (c : Nat) (l : List Int) (w : World) (hB : Below w0.heap.size w0 w) (hd : BK w0 w lo hi A c l) (hl : l.length ≤ 2097152) (hm : m ≤ 100000000) (hk : 2097152 < k) :
    Calls Try.prog 12 #[.slice A l.length c, .int .i64 m] w fun e w' => e = .returned (.int .i64 ((m + l.length : Nat) : Int)) ∧ BK w0 w' lo hi A c (marksB l.length m) ∧ Below w0.heap.size w0 w' ∧ Kept w w' (fun k => lo ≤ k ∧ k < hi) := by
  refine (laws_markByteS.calls k (OB A l.length c) _ l m _ _ w0 w hB hd.r (markByteS_f l m (by omega) k (by omega))).mono ?_
  rintro e w' ⟨rfl, hr, hb, hkp⟩
  refine ⟨rfl, ⟨?_, ?_⟩, hb, hkp.1, fun i hi hn => hkp.2 i hi (fun h => hn (hd.b i h))⟩
  · rw [marksB_length]
    exact Kd.R_tight rfl hr
  · rw [marksB_length]
    exact hd.b
theorem eqByteS_bk (k : Nat) (w0 w1 : World) (lo hi lo' hi' : Nat) (A : Option Addr) (c : Nat) (l : List Int) (B : Option Addr) (d : Nat) (w : World) (hd : BK w0 w lo hi A c l) (hd' : BK w1 w lo' hi' B d l) (hl : l.length ≤ 2097152) (hk : 2097152 < k) :
    Calls Try.prog 9 #[.slice A l.length c, .slice B l.length d] w fun e w' => e = .returned (.bool true) ∧ Below w.heap.size w w' := by
  refine (laws_eqByteS.calls k A c l B d l true w hd.reads.1 hd.reads.2 hd'.reads.1 hd'.reads.2 (eqByteS_self l (by omega) k (by omega))).mono ?_
  rintro e w' ⟨rfl, hb⟩
  exact ⟨rfl, hb.below⟩
theorem heldByteS_bk (k m n : Nat) (w0 : World) (lo hi : Nat) (A : Option Addr) (c : Nat) (w : World) (hd : BK w0 w lo hi A c (marksB n m)) (hl : n ≤ 2097152) (hm : m ≤ 100000000) (hk : 2097152 < k) :
    Calls Try.prog 13 #[.slice A n c, .int .i64 m] w fun e w' => e = .returned (.int .i64 ((m + n : Nat) : Int)) ∧ Below w.heap.size w w' := by
  have h := laws_heldByteS.calls k A c (marksB n m) m _ w hd.reads.1 hd.reads.2 (heldByteS_f n m (by omega) k (by omega))
  rw [marksB_length] at h
  refine h.mono ?_
  rintro e w' ⟨rfl, hb⟩
  exact ⟨rfl, hb.below⟩
theorem BK.of2 {w0 w W : World} {ok : Nat → Prop} {v : Value} {l : List Int} (h : Kd.R (Kd.int .u8) 5 W w.heap.size ok v l) (hB : Below w0.heap.size w0 w) : ∃ A c, v = .slice A l.length c ∧ BK w0 W w.heap.size W.heap.size A c l := by
  obtain ⟨A, c, rfl⟩ := Kd.R_slice h
  exact ⟨A, c, rfl, BK.of h hB⟩
structure OPK (w0 W : World) (lo hi : Nat) (A2 : Option Addr) (c2 : Nat) (l2 : List Int) (A4 : Option Addr) (c4 : Nat) (l4 : List Int) : Prop where
  p : BK w0 W lo hi A2 c2 l2
  v : BK w0 W lo hi A4 c4 l4
  d : ∀ k, OB A2 l2.length c2 k → ¬ OB A4 l4.length c4 k
theorem OPK.below {w0 W W' : World} {lo hi : Nat} {A2 A4 : Option Addr} {c2 c4 : Nat} {l2 l4 : List Int} (h : OPK w0 W lo hi A2 c2 l2 A4 c4 l4) (hb : Below W.heap.size W W') : OPK w0 W' lo hi A2 c2 l2 A4 c4 l4 := ⟨h.p.below hb, h.v.below hb, h.d⟩
theorem OPK.of {w0 w W : World} {v2 v4 : Value} {l2 l4 : List Int} (h2 : Kd.R (Kd.int .u8) 5 W w.heap.size (fun k_ => some k_ ≠ (v4 : Value).ownBlock) v2 l2) (h4 : Kd.R (Kd.int .u8) 5 W w.heap.size (fun k_ => some k_ ≠ (v2 : Value).ownBlock) v4 l4) (hB : Below w0.heap.size w0 w) :
    ∃ A2 c2 A4 c4, v2 = .slice A2 l2.length c2 ∧ v4 = .slice A4 l4.length c4 ∧ OPK w0 W w.heap.size W.heap.size A2 c2 l2 A4 c4 l4 := by
  obtain ⟨A2, c2, rfl⟩ := Kd.R_slice h2
  obtain ⟨A4, c4, rfl⟩ := Kd.R_slice h4
  exact ⟨A2, c2, A4, c4, rfl, rfl, BK.of h2 hB, BK.of h4 hB, fun k hk => h2.1 k hk.symm⟩
theorem toOp_ok (k : Nat) (w0 : World) (n s : Int) (A2 : Option Addr) (c2 : Nat) (l2 : List Int) (f : Int) (A4 : Option Addr) (c4 : Nat) (l4 : List Int) (e g : Int) (w : World) (hB : Below w0.heap.size w0 w) (h2 : Kd.C (Kd.int .u8) w A2 l2.length l2) (hc2 : l2.length ≤ c2) (h4 : Kd.C (Kd.int .u8) w A4 l4.length l4) (hc4 : l4.length ≤ c4) (g2 : l2.length ≤ 2097152) (g4 : l4.length ≤ 2097152) (hk : 2097152 < k) :
    Calls Try.prog 7 #[.agg #[.int .i64 n, .int .u64 s, .slice A2 l2.length c2, .int .i64 f, .slice A4 l4.length c4, .int .u64 e, .int .u64 g]] w fun r w' => ∃ B2 d2 B4 d4, r = .returned (.agg #[.int .i64 n, .int .u64 s, .slice B2 l2.length d2, .int .i64 f, .slice B4 l4.length d4, .int .u64 e, .int .u64 g]) ∧ OPK w0 w' w.heap.size w'.heap.size B2 d2 l2 B4 d4 l4 ∧ Below w.heap.size w w' := by
  refine (laws_toOp.calls k n s A2 c2 l2 f A4 c4 l4 e g n s l2 f l4 e g w h2 hc2 h4 hc4 (by unfold laws_toOp.f; rw [toByteS_f l2 (by omega) k (by omega), Option.bind_some, toByteS_f l4 (by omega) k (by omega)]; rfl)).mono ?_
  rintro r w' ⟨v2, v4, rfl, r2, r4, hb⟩
  obtain ⟨B2, d2, B4, d4, rfl, rfl, hd⟩ := OPK.of r2 r4 hB
  exact ⟨B2, d2, B4, d4, rfl, hd, hb⟩
theorem eqOp_ok (k : Nat) (w0 w1 : World) (lo hi lo' hi' : Nat) (n s : Int) (A2 : Option Addr) (c2 : Nat) (l2 : List Int) (f : Int) (A4 : Option Addr) (c4 : Nat) (l4 : List Int) (e g : Int) (B2 : Option Addr) (d2 : Nat) (B4 : Option Addr) (d4 : Nat) (w : World) (hd : OPK w0 w lo hi A2 c2 l2 A4 c4 l4) (hd' : OPK w1 w lo' hi' B2 d2 l2 B4 d4 l4) (g2 : l2.length ≤ 2097152) (g4 : l4.length ≤ 2097152) (hk : 2097152 < k) :
    Calls Try.prog 10 #[.agg #[.int .i64 n, .int .u64 s, .slice A2 l2.length c2, .int .i64 f, .slice A4 l4.length c4, .int .u64 e, .int .u64 g], .agg #[.int .i64 n, .int .u64 s, .slice B2 l2.length d2, .int .i64 f, .slice B4 l4.length d4, .int .u64 e, .int .u64 g]] w fun r w' => r = .returned (.bool true) ∧ Below w.heap.size w w' :=
  laws_eqOp.calls k n s A2 c2 l2 f A4 c4 l4 e g n s B2 d2 l2 f B4 d4 l4 e g true w hd.p.reads.1 hd.p.reads.2 hd.v.reads.1 hd.v.reads.2 hd'.p.reads.1 hd'.p.reads.2 hd'.v.reads.1 hd'.v.reads.2 (by unfold laws_eqOp.f; rw [if_pos rfl, if_pos rfl, eqByteS_self l2 (by omega) k (by omega), Option.bind_some, if_pos rfl, if_pos rfl, eqByteS_self l4 (by omega) k (by omega), Option.bind_some, if_pos rfl, if_pos rfl, if_pos rfl])
theorem markOp_ok (k m : Nat) (w0 : World) (lo hi : Nat) (n s : Int) (A2 : Option Addr) (c2 : Nat) (l2 : List Int) (f : Int) (A4 : Option Addr) (c4 : Nat) (l4 : List Int) (e g : Int) (w : World) (hB : Below w0.heap.size w0 w) (hd : OPK w0 w lo hi A2 c2 l2 A4 c4 l4) (g2 : l2.length ≤ 2097152) (g4 : l4.length ≤ 2097152) (hm : m ≤ 100000000) (hk : 2097152 < k) :
    Calls Try.prog 11 #[.agg #[.int .i64 n, .int .u64 s, .slice A2 l2.length c2, .int .i64 f, .slice A4 l4.length c4, .int .u64 e, .int .u64 g], .int .i64 m] w fun r w' => r = .returned (.int .i64 ((m + l2.length + l4.length : Nat) : Int)) ∧ OPK w0 w' lo hi A2 c2 (marksB l2.length m) A4 c4 (marksB l4.length (m + l2.length)) ∧ Below w0.heap.size w0 w' ∧ Kept w w' (fun k => lo ≤ k ∧ k < hi) := by
  refine (laws_markOp.calls k n s (OB A2 l2.length c2) _ l2 f (OB A4 l4.length c4) _ l4 e g m _ _ _ w0 w hB hd.p.r hd.d hd.v.r (fun k h4 h2 => hd.d k h2 h4) (by unfold laws_markOp.f; rw [markByteS_f l2 m (by omega) k (by omega), Option.bind_some, markByteS_f l4 (m + l2.length) (by omega) k (by omega)]; rfl)).mono ?_
  rintro r w' ⟨rfl, r2, r4, hb, hkp⟩
  refine ⟨rfl, ⟨⟨?_, ?_⟩, ⟨?_, ?_⟩, ?_⟩, hb, hkp.1, fun i hi hn => hkp.2 i hi (fun h => hn (h.elim (hd.p.b i) (hd.v.b i)))⟩
  · rw [marksB_length]
    exact Kd.R_tight rfl r2
  · rw [marksB_length]
    exact hd.p.b
  · rw [marksB_length]
    exact Kd.R_tight rfl r4
  · rw [marksB_length]
    exact hd.v.b
  · rw [marksB_length, marksB_length]
    exact hd.d
theorem szOp_f (n s : Int) (l2 : List Int) (f : Int) (l4 : List Int) (e g : Int) (g2 : l2.length ≤ 140737488351232) (g4 : l4.length ≤ 140737488351232) : ∃ r, laws_szOp.f n s l2 f l4 e g 1048576 = some r ∧ (¬ r < 0 → l2.length + l4.length ≤ 1048576) := by
  unfold laws_szOp.f
  rw [szByteS_f l2 1048576 (by omega) (by omega) g2, Option.bind_some]
  by_cases c : (1048576 : Int) - l2.length < 0
  · rw [if_pos c, if_pos (by omega)]
    exact ⟨_, rfl, fun h => absurd (by omega) h⟩
  · rw [if_neg c, if_neg c, szByteS_f l4 _ (by omega) (by omega) g4, Option.bind_some]
    by_cases c' : (1048576 : Int) - l2.length - l4.length < 0
    · rw [if_pos c', if_pos (by omega)]
      exact ⟨_, rfl, fun h => absurd (by omega) h⟩
    · rw [if_neg c', if_neg c']
      exact ⟨_, rfl, fun _ => by omega⟩
end Go.Proofs.Ytbgbocdohadhoaa.Print
namespace Go.Proofs.Ytbgbocdohadhoaa.Print
open Go Go.RowKit Go.Proofs.YtbgbocdohadhoaaW.PrintWords Go.Proofs.YtbgbocdohadhoaaW.PrintLast Go.Proofs.YtbgbocdohadhoaaW.PrintMore
set_option linter.unusedVariables false
set_option linter.unusedSimpArgs false
def TabI (es : Array MapEntry) (L : List (Int × Value)) : Prop := es.toList.map (fun e => (e.key, e.val)) = L.map (fun p => (Value.int .i64 p.1, p.2))
theorem findNow_tab (n : Int) : ∀ (l : List MapEntry) (L : List (Int × Value)) (i : Nat), l.map (fun e => (e.key, e.val)) = L.map (fun p => (Value.int .i64 p.1, p.2)) → ∃ r, Instr.findNow (.int .i64) (.int .i64 n) l i = some r ∧ r.map (·.2) = (L.find? (fun p => p.1 == n)).map (·.2) := by
  intro l
  induction l with
  | nil =>
    intro L i h
    cases L with
    | nil => exact ⟨none, rfl, rfl⟩
    | cons p L => simp at h
  | cons e l ih =>
    intro L i h
    cases L with
    | nil => simp at h
    | cons p L =>
      simp only [List.map_cons, List.cons.injEq, Prod.mk.injEq] at h
      obtain ⟨⟨h1, h2⟩, h3⟩ := h
      unfold Instr.findNow
      rw [h1]
      simp only [Instr.sameNow, if_true]
      by_cases c : n = p.1
      · have e1 : (n == p.1) = true := beq_iff_eq.2 c
        have e2 : (p.1 == n) = true := beq_iff_eq.2 c.symm
        rw [e1]
        refine ⟨_, rfl, ?_⟩
        rw [List.find?_cons_of_pos (by exact e2)]
        simp [h2]
      · have e1 : (n == p.1) = false := beq_eq_false_iff_ne.2 c
        have e2 : ¬ (p.1 == n) = true := by simp; exact fun h => c h.symm
        rw [e1, List.find?_cons_of_neg (by exact e2)]
        exact ih L (i + 1) h3
theorem run_insertI {P : Program} {w : World} {t k e : TypeId} {b : Nat} {es : Array MapEntry} {L : List (Int × Value)} {c : Nat} (ht : P.underlying t = some (.map k e)) (hk : P.underlying k = some (.int .i64)) (hb : w.heap[b]? = some (.map es c)) (hL : TabI es L) (n : Int) (v : Value) (hno : L.find? (fun p => p.1 == n) = none) :
    (Instr.mapUpdate t (.map (some b)) (.int .i64 n) v).run P w = .ok () (w.putObj b (.map (es.push { key := .int .i64 n, val := v, born := c }) (c + 1))) := by
  obtain ⟨r, hr, hr2⟩ := findNow_tab n es.toList L 0 hL
  rw [hno] at hr2
  obtain rfl : r = none := by cases r <;> simp_all
  have hc : (Instr.checkKey false 10000 k (.int .i64 n)).run P w = .ok () w := MapKept.run_checkKey (k := .int .i64 n) hk (by simp [MapKept.IsKey]) false 9999
  simp [Instr.mapUpdate, run_underlying ht, MapKept.run_getObj_map hb, hc, MapKept.run_findKey hk hr, MapKept.run_setObj_map _ hb, Result.andThen]
  rfl
theorem run_lookupI {P : Program} {w : World} {t k e : TypeId} {b : Nat} {es : Array MapEntry} {L : List (Int × Value)} {c : Nat} (ht : P.underlying t = some (.map k e)) (hk : P.underlying k = some (.int .i64)) (hb : w.heap[b]? = some (.map es c)) (hL : TabI es L) (n : Int) (z : Value) (hz : (zeroValue e).run P w = .ok z w) :
    (Instr.lookup t (.map (some b)) (.int .i64 n) true).run P w = .ok (.tuple #[((L.find? (fun p => p.1 == n)).map (·.2)).getD z, .bool (L.find? (fun p => p.1 == n)).isSome]) w := by
  obtain ⟨r, hr, hr2⟩ := findNow_tab n es.toList L 0 hL
  have hc : (Instr.checkKey es.isEmpty 10000 k (.int .i64 n)).run P w = .ok () w := MapKept.run_checkKey (k := .int .i64 n) hk (by simp [MapKept.IsKey]) es.isEmpty 9999
  cases hf : L.find? (fun p => p.1 == n) with
  | none =>
    rw [hf] at hr2
    obtain rfl : r = none := by cases r <;> simp_all
    simp [Instr.lookup, run_underlying ht, MapKept.run_getObj_map hb, hc, MapKept.run_findKey hk hr, Result.andThen, hz]
  | some p =>
    rw [hf] at hr2
    obtain ⟨q, rfl⟩ : ∃ q, r = some q := by cases r <;> simp_all
    have hq : q.2 = p.2 := by simpa using hr2
    obtain ⟨q1, q2⟩ := q
    simp only at hq
    subst hq
    simp [Instr.lookup, run_underlying ht, MapKept.run_getObj_map hb, hc, MapKept.run_findKey hk hr, Result.andThen]
theorem TabI.push {es : Array MapEntry} {L : List (Int × Value)} (h : TabI es L) (n : Int) (v : Value) (c : Nat) : TabI (es.push { key := .int .i64 n, val := v, born := c }) (L ++ [(n, v)]) := by
  unfold TabI at *
  simp [h]
structure KS (w W : World) (b1 b2 b3 b : Nat) (t : TypeId) (u1 u2 u3 : Array Value) (L : List (Int × Value)) : Prop where
  k1 : W.heap[b1]? = some (.cells u1 t (0, 0))
  k2 : W.heap[b2]? = some (.cells u2 t (0, 0))
  k3 : W.heap[b3]? = some (.cells u3 t (0, 0))
  m : ∃ es c, W.heap[b]? = some (.map es c) ∧ TabI es L
  be : Below w.heap.size w W
  hb : w.heap.size ≤ b
theorem KS.step {w W : World} {b1 b2 b3 b : Nat} {t : TypeId} {u1 u2 u3 : Array Value} {L : List (Int × Value)} (h : KS w W b1 b2 b3 b t u1 u2 u3 L) (n : Int) (v : Value) {es : Array MapEntry} {c : Nat} (hm : W.heap[b]? = some (.map es c)) (ht : TabI es L) :
    KS w (W.putObj b (.map (es.push { key := .int .i64 n, val := v, born := c }) (c + 1))) b1 b2 b3 b t u1 u2 u3 (L ++ [(n, v)]) := by
  have ne : ∀ {g : Nat} {u : Array Value}, W.heap[g]? = some (.cells u t (0, 0)) → g ≠ b := fun hg e => by rw [e, hm] at hg; cases hg
  have hlt := blk_lt hm
  refine ⟨(World.putObj_heap_other (ne h.k1)).trans h.k1, (World.putObj_heap_other (ne h.k2)).trans h.k2, (World.putObj_heap_other (ne h.k3)).trans h.k3, ⟨_, _, World.putObj_heap_same hlt, ht.push n v c⟩, ?_, h.hb⟩
  exact h.be.grown (grownBy_putObj' W b _) h.be.size (fun k e => by cases e; exact h.hb)
theorem wpList_insertI {P : Program} {ops : Array Oper} {rest : List Oper} {o : Oper} {a : Act} {Q : Exit → Act → World → Prop} {w W : World} {b1 b2 b3 b : Nat} {ty : TypeId} {u1 u2 u3 : Array Value} {L : List (Int × Value)} (hg : o.guard = none) (t k e : TypeId) (m x : Operand) (n : Int) (hop : o.op = .insert t m (.const (.int .i64 n)) x) (ht : P.underlying t = some (.map k e)) (hk : P.underlying k = some (.int .i64)) (hm : a.eval m = .map (some b))
    (H : KS w W b1 b2 b3 b ty u1 u2 u3 L) (hno : L.find? (fun p => p.1 == n) = none) (v : Value) (hv : a.eval x = v) (h : ∀ W', KS w W' b1 b2 b3 b ty u1 u2 u3 (L ++ [(n, v)]) → wpList P ops Q rest (a.put o.dst undef) W') : wpList P ops Q (o :: rest) a W := by
  obtain ⟨es, c, he, hT⟩ := H.m
  have hr := run_insertI (P := P) ht hk he hT n v hno
  refine wpList_plain hg fun K hK => ?_
  unfold Oper.wp
  have hcn : a.eval (Operand.const (.int .i64 n)) = .int .i64 n := rfl
  simp [execOp, hop, hm, hv, hcn, hr, Result.andThen]
  exact hK _ _ (h _ (H.step n v he hT))
end Go.Proofs.Ytbgbocdohadhoaa.Print
namespace Go.Proofs.Ytbgbocdohadhoaa.Print
open Go Go.RowKit Go.Proofs.YtbgbocdohadhoaaW.PrintWords Go.Proofs.YtbgbocdohadhoaaW.PrintLast Go.Proofs.YtbgbocdohadhoaaW.PrintMore
set_option linter.unusedVariables false
set_option linter.unusedSimpArgs false
def kb (a b c d e : Bool) : Value := .agg #[.bool a, .bool b, .bool c, .bool d, .bool e]
def kindsL : List (Int × Value) := [(1, kb false false false false false), (2, kb true false false false false), (3, kb true false false false false), (12, kb true false false false false), (4, kb true true true true false), (5, kb true true false false false), (9, kb true true false false false), (11, kb true true false false false), (6, kb false true false false false), (13, kb false true false false false), (7, kb true true false true false), (8, kb true true true false false), (10, kb true true false false true)]
set_option maxHeartbeats 2000000 in
set_option maxRecDepth 100000 in
theorem impl_kinds_calls (w : World) :
    Calls Try.prog 38 #[] w fun e w' => ∃ b es c, e = .returned (.map (some b)) ∧ w'.heap[b]? = some (.map es c) ∧ TabI es kindsL ∧ w.heap.size ≤ b ∧ Below w.heap.size w w' := by
  have HK := Aside0.mk (show KS w ((((w.alloc (.cells #[.bool true, .bool false, .bool false, .bool false, .bool false] 60)).alloc (.cells #[.bool true, .bool true, .bool false, .bool false, .bool false] 60)).alloc (.cells #[.bool false, .bool true, .bool false, .bool false, .bool false] 60)).alloc (.map #[] 0)) w.heap.size (w.heap.size + 1) (w.heap.size + 1 + 1) (w.heap.size + 1 + 1 + 1) 60 #[.bool true, .bool false, .bool false, .bool false, .bool false] #[.bool true, .bool true, .bool false, .bool false, .bool false] #[.bool false, .bool true, .bool false, .bool false, .bool false] [] from by
    have a1 := blk_new w (.cells #[.bool true, .bool false, .bool false, .bool false, .bool false] 60)
    have a2 := blk_new (w.alloc (.cells #[.bool true, .bool false, .bool false, .bool false, .bool false] 60)) (.cells #[.bool true, .bool true, .bool false, .bool false, .bool false] 60)
    have a3 := blk_new ((w.alloc (.cells #[.bool true, .bool false, .bool false, .bool false, .bool false] 60)).alloc (.cells #[.bool true, .bool true, .bool false, .bool false, .bool false] 60)) (.cells #[.bool false, .bool true, .bool false, .bool false, .bool false] 60)
    have a4 := blk_new (((w.alloc (.cells #[.bool true, .bool false, .bool false, .bool false, .bool false] 60)).alloc (.cells #[.bool true, .bool true, .bool false, .bool false, .bool false] 60)).alloc (.cells #[.bool false, .bool true, .bool false, .bool false, .bool false] 60)) (.map #[] 0)
    simp only [World.size_alloc] at a2 a3 a4
    exact ⟨blk_alloc (blk_alloc (blk_alloc a1 _) _) _, blk_alloc (blk_alloc a2 _) _, blk_alloc a3 _, ⟨#[], 0, a4, rfl⟩, by repeat (first | exact Below.refl _ _ | apply below_alloc), by omega⟩)
  have hmm := @run_makeMap Try.prog
  go_enter Try.func38, Try.ntmps38
  go_wp2_with (refine wpList_insertI (w := w) rfl 62 3 60 (.tmp 7) _ _ rfl Try.underlying62 Try.underlying3 rfl HK.out (by rfl) _ rfl ?_; intro W' h'; have n_ := Aside0.mk h'; clear HK h'; (try clear z10) ; (try clear z11) ; (try clear z12) ; (try clear z13) ; (try clear z14) ; (try clear z20) ; (try clear z21) ; (try clear z22) ; (try clear z23) ; (try clear z24) ; (try clear z30) ; (try clear z31) ; (try clear z32) ; (try clear z33) ; (try clear z34); have HK := n_; clear n_; have z10 : W'.cell? ⟨w.heap.size, 0, none⟩ = some (.bool true) := (blk_cell HK.out.k1 0).trans rfl; have z11 : W'.cell? ⟨w.heap.size, 1, none⟩ = some (.bool false) := (blk_cell HK.out.k1 1).trans rfl; have z12 : W'.cell? ⟨w.heap.size, 2, none⟩ = some (.bool false) := (blk_cell HK.out.k1 2).trans rfl; have z13 : W'.cell? ⟨w.heap.size, 3, none⟩ = some (.bool false) := (blk_cell HK.out.k1 3).trans rfl; have z14 : W'.cell? ⟨w.heap.size, 4, none⟩ = some (.bool false) := (blk_cell HK.out.k1 4).trans rfl; have z20 : W'.cell? ⟨w.heap.size + 1, 0, none⟩ = some (.bool true) := (blk_cell HK.out.k2 0).trans rfl; have z21 : W'.cell? ⟨w.heap.size + 1, 1, none⟩ = some (.bool true) := (blk_cell HK.out.k2 1).trans rfl; have z22 : W'.cell? ⟨w.heap.size + 1, 2, none⟩ = some (.bool false) := (blk_cell HK.out.k2 2).trans rfl; have z23 : W'.cell? ⟨w.heap.size + 1, 3, none⟩ = some (.bool false) := (blk_cell HK.out.k2 3).trans rfl; have z24 : W'.cell? ⟨w.heap.size + 1, 4, none⟩ = some (.bool false) := (blk_cell HK.out.k2 4).trans rfl; have z30 : W'.cell? ⟨w.heap.size + 1 + 1, 0, none⟩ = some (.bool false) := (blk_cell HK.out.k3 0).trans rfl; have z31 : W'.cell? ⟨w.heap.size + 1 + 1, 1, none⟩ = some (.bool true) := (blk_cell HK.out.k3 1).trans rfl; have z32 : W'.cell? ⟨w.heap.size + 1 + 1, 2, none⟩ = some (.bool false) := (blk_cell HK.out.k3 2).trans rfl; have z33 : W'.cell? ⟨w.heap.size + 1 + 1, 3, none⟩ = some (.bool false) := (blk_cell HK.out.k3 3).trans rfl; have z34 : W'.cell? ⟨w.heap.size + 1 + 1, 4, none⟩ = some (.bool false) := (blk_cell HK.out.k3 4).trans rfl)
  go_ret
  obtain ⟨es, c, h1, h2⟩ := HK.out.m
  exact ⟨_, es, c, rfl, h1, h2, HK.out.hb, HK.out.be⟩
end Go.Proofs.Ytbgbocdohadhoaa.Print
namespace Go.Proofs.Ytbgbocdohadhoaa.Print
open Go.RowKit Go.Proofs.YtbgbocdohadhoaaW.PrintWords Go.Proofs.YtbgbocdohadhoaaW.PrintLast Go.Proofs.YtbgbocdohadhoaaW.PrintMore
attribute [local go_sem] max2_int min2_int max_two min_two max_three min_three max_four min_four
set_option linter.unusedVariables false
set_option linter.unusedSimpArgs false
def spec_l3hasSession.f (a0 : Int) : Option (Bool) := if a0 = 1 then (some false) else (if a0 = 6 then (some false) else (some (a0 != 13)))
set_option maxHeartbeats 8000000 in
set_option maxRecDepth 100000 in
theorem spec_l3hasSession.calls (a0 : Int) (r : Bool) (w : World) (h : spec_l3hasSession.f a0 = some r) :
    Calls Try.prog 34 #[.int .i64 a0] w fun e w' => e = .returned (.bool r) ∧ Drawn0 w w' := by
  have H : (if a0 = 1 then (some false) else (if a0 = 6 then (some false) else (some (a0 != 13)))) = some r := h
  clear h
  by_cases c2 : a0 = 1
  · rw [if_pos c2] at H
    have c2b0 : (a0 == 1) = true := beq_iff_eq.mpr c2
    have c2b1 : (a0 != 1) = false := bne_eq_false_iff_eq.mpr c2
    clear c2
    obtain rfl := Option.some.inj H
    go_enter Try.func34, Try.ntmps34
    go_wp2
    go_ret
    exact ⟨by first | rfl | (simp; done) | (simp [*]; done), by repeat (first | exact Drawn0.refl _ | apply Drawn0.step)⟩
  · rw [if_neg c2] at H
    have c2b0 : (a0 == 1) = false := beq_eq_false_iff_ne.mpr c2
    have c2b1 : (a0 != 1) = true := bne_iff_ne.mpr c2
    by_cases c3 : a0 = 6
    · rw [if_pos c3] at H
      have c3b0 : (a0 == 6) = true := beq_iff_eq.mpr c3
      have c3b1 : (a0 != 6) = false := bne_eq_false_iff_eq.mpr c3
      clear c3
      obtain rfl := Option.some.inj H
      go_enter Try.func34, Try.ntmps34
      go_wp2
      go_ret
      exact ⟨by first | rfl | (simp; done) | (simp [*]; done), by repeat (first | exact Drawn0.refl _ | apply Drawn0.step)⟩
    · rw [if_neg c3] at H
      have c3b0 : (a0 == 6) = false := beq_eq_false_iff_ne.mpr c3
      have c3b1 : (a0 != 6) = true := bne_iff_ne.mpr c3
      obtain rfl := Option.some.inj H
      go_enter Try.func34, Try.ntmps34
      go_wp2
      go_ret
      exact ⟨by first | rfl | (simp; done) | (simp [*]; done), by repeat (first | exact Drawn0.refl _ | apply Drawn0.step)⟩
end Go.Proofs.Ytbgbocdohadhoaa.Print
namespace Go.Proofs.Ytbgbocdohadhoaa.Print
open Go.RowKit Go.Proofs.YtbgbocdohadhoaaW.PrintWords Go.Proofs.YtbgbocdohadhoaaW.PrintLast Go.Proofs.YtbgbocdohadhoaaW.PrintMore
attribute [local go_sem] max2_int min2_int max_two min_two max_three min_three max_four min_four
set_option linter.unusedVariables false
set_option linter.unusedSimpArgs false
def spec_l3hasPath.f (a0 : Int) : Option (Bool) := if a0 = 1 then (some false) else (if a0 = 2 then (some false) else (if a0 = 3 then (some false) else (some (a0 != 12))))
set_option maxHeartbeats 8000000 in
set_option maxRecDepth 100000 in
theorem spec_l3hasPath.calls (a0 : Int) (r : Bool) (w : World) (h : spec_l3hasPath.f a0 = some r) :
    Calls Try.prog 35 #[.int .i64 a0] w fun e w' => e = .returned (.bool r) ∧ Drawn0 w w' := by
  have H : (if a0 = 1 then (some false) else (if a0 = 2 then (some false) else (if a0 = 3 then (some false) else (some (a0 != 12))))) = some r := h
  clear h
  by_cases c2 : a0 = 1
  · rw [if_pos c2] at H
    have c2b0 : (a0 == 1) = true := beq_iff_eq.mpr c2
    have c2b1 : (a0 != 1) = false := bne_eq_false_iff_eq.mpr c2
    clear c2
    obtain rfl := Option.some.inj H
    go_enter Try.func35, Try.ntmps35
    go_wp2
    go_ret
    exact ⟨by first | rfl | (simp; done) | (simp [*]; done), by repeat (first | exact Drawn0.refl _ | apply Drawn0.step)⟩
  · rw [if_neg c2] at H
    have c2b0 : (a0 == 1) = false := beq_eq_false_iff_ne.mpr c2
    have c2b1 : (a0 != 1) = true := bne_iff_ne.mpr c2
    by_cases c3 : a0 = 2
    · rw [if_pos c3] at H
      have c3b0 : (a0 == 2) = true := beq_iff_eq.mpr c3
      have c3b1 : (a0 != 2) = false := bne_eq_false_iff_eq.mpr c3
      clear c3
      obtain rfl := Option.some.inj H
      go_enter Try.func35, Try.ntmps35
      go_wp2
      go_ret
      exact ⟨by first | rfl | (simp; done) | (simp [*]; done), by repeat (first | exact Drawn0.refl _ | apply Drawn0.step)⟩
    · rw [if_neg c3] at H
      have c3b0 : (a0 == 2) = false := beq_eq_false_iff_ne.mpr c3
      have c3b1 : (a0 != 2) = true := bne_iff_ne.mpr c3
      by_cases c4 : a0 = 3
      · rw [if_pos c4] at H
        have c4b0 : (a0 == 3) = true := beq_iff_eq.mpr c4
        have c4b1 : (a0 != 3) = false := bne_eq_false_iff_eq.mpr c4
        clear c4
        obtain rfl := Option.some.inj H
        go_enter Try.func35, Try.ntmps35
        go_wp2
        go_ret
        exact ⟨by first | rfl | (simp; done) | (simp [*]; done), by repeat (first | exact Drawn0.refl _ | apply Drawn0.step)⟩
      · rw [if_neg c4] at H
        have c4b0 : (a0 == 3) = false := beq_eq_false_iff_ne.mpr c4
        have c4b1 : (a0 != 3) = true := bne_iff_ne.mpr c4
        obtain rfl := Option.some.inj H
        go_enter Try.func35, Try.ntmps35
        go_wp2
        go_ret
        exact ⟨by first | rfl | (simp; done) | (simp [*]; done), by repeat (first | exact Drawn0.refl _ | apply Drawn0.step)⟩
end Go.Proofs.Ytbgbocdohadhoaa.Print
