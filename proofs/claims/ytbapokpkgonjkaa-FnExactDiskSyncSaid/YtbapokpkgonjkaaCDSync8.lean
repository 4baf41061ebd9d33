/- Texts of this session, joined by its own program. -/
import Derived.Test.YtbapokpkgonjkaaCDSync7
import Derived.Test.YtbapokpkgonjkaaCDSync2
import Derived.Test.YtbapokpkgonjkaaCDSync0
import Derived.WalkKit
import Derived.Below
/- What DiskRename, DiskReset and DiskSync answer is short enough. -/
namespace Go.Proofs.Ytbapokpkgonjkaa.Print
open Go.RowKit Go.Proofs.YtbapokpkgonjkaaW.PrintWords Go.Proofs.YtbapokpkgonjkaaW.PrintLast Go.Proofs.YtbapokpkgonjkaaW.PrintMore
set_option linter.unusedVariables false
set_option linter.unusedSimpArgs false
theorem DiskRename_same (l0 l2 l4 : List Int) (a1 a3 a5 : Int) : ∃ (ks : Nat) (r1 : List Int) (r2 : Int) (r3 : List Int) (r4 : Int) (r5 : List Int) (r6 r7 : Int), impl_DiskRename.f l0 a1 l2 a3 l4 a5 = some (r1, r2, r3, r4, r5, r6, r7) ∧ impl_DiskRename.f l0 a1 l2 a3 l4 a5 = some (r1, r2, r3, r4, r5, r6, r7) ∧ r1.length ≤ 2097152 ∧ r3.length ≤ 2097152 ∧ r5.length ≤ 2097152 := by
  unfold impl_DiskRename.f
  split
  · rename_i hv
    obtain ⟨⟨x0, x1, x2⟩, ⟨y0, y1, y2⟩, ⟨z0, z1, z2⟩⟩ := okDisk_iff hv
    exact ⟨0, _, _, _, _, _, _, _, rfl, rfl, by first | omega | (simp; done) | (simp; omega), by first | omega | (simp; done) | (simp; omega), by simp⟩
  · exact ⟨0, _, _, _, _, _, _, _, rfl, rfl, by simp, by simp, by simp⟩
theorem DiskReset_same (l0 l2 l4 : List Int) (a1 a3 a5 n : Int) : ∃ (ks : Nat) (r1 : List Int) (r2 : Int) (r3 : List Int) (r4 : Int) (r5 : List Int) (r6 r7 : Int), impl_DiskReset.f l0 a1 l2 a3 l4 a5 n = some (r1, r2, r3, r4, r5, r6, r7) ∧ impl_DiskReset.f l0 a1 l2 a3 l4 a5 n = some (r1, r2, r3, r4, r5, r6, r7) ∧ r1.length ≤ 2097152 ∧ r3.length ≤ 2097152 ∧ r5.length ≤ 2097152 := by
  unfold impl_DiskReset.f
  split
  · rename_i hv
    obtain ⟨⟨x0, x1, x2⟩, ⟨y0, y1, y2⟩, ⟨z0, z1, z2⟩⟩ := okDisk_iff hv
    repeat' split
    all_goals exact ⟨0, _, _, _, _, _, _, _, rfl, rfl, by first | omega | (simp; done) | (simp; omega), by first | omega | (simp; done) | (simp; omega), by first | omega | (simp; done) | (simp; omega)⟩
  · exact ⟨0, _, _, _, _, _, _, _, rfl, rfl, by simp, by simp, by simp⟩
theorem DiskSync_same (l0 l2 l4 : List Int) (a1 a3 a5 n : Int) : ∃ (ks : Nat) (r1 : List Int) (r2 : Int) (r3 : List Int) (r4 : Int) (r5 : List Int) (r6 r7 : Int), impl_DiskSync.f l0 a1 l2 a3 l4 a5 n = some (r1, r2, r3, r4, r5, r6, r7) ∧ impl_DiskSync.f l0 a1 l2 a3 l4 a5 n = some (r1, r2, r3, r4, r5, r6, r7) ∧ r1.length ≤ 2097152 ∧ r3.length ≤ 2097152 ∧ r5.length ≤ 2097152 := by
  unfold impl_DiskSync.f
  split
  · rename_i hv
    obtain ⟨⟨x0, x1, x2⟩, ⟨y0, y1, y2⟩, ⟨z0, z1, z2⟩⟩ := okDisk_iff hv
    repeat' split
    all_goals exact ⟨0, _, _, _, _, _, _, _, rfl, rfl, by first | omega | (simp; done) | (simp; omega), by first | omega | (simp; done) | (simp; omega), by first | omega | (simp; done) | (simp; omega)⟩
  · exact ⟨0, _, _, _, _, _, _, _, rfl, rfl, by simp, by simp, by simp⟩
end Go.Proofs.Ytbapokpkgonjkaa.Print

/- The law FnExactDiskSync: on every disk (and further arguments) small enough, what the program answers is what the reference answers, in memory of its own. The walk; its plain part is a premise. -/
namespace Go.Proofs.Ytbapokpkgonjkaa.Print
open Go.RowKit Go.Proofs.YtbapokpkgonjkaaW.PrintWords Go.Proofs.YtbapokpkgonjkaaW.PrintLast Go.Proofs.YtbapokpkgonjkaaW.PrintMore
set_option linter.unusedVariables false
set_option linter.unusedSimpArgs false

set_option maxHeartbeats 2000000 in
set_option maxRecDepth 100000 in
theorem FnExactDiskSync_walk (A0 : Option Addr) (c0 : Nat) (l0 : List Int) (a1_ : Int) (A2 : Option Addr) (c2 : Nat) (l2 : List Int) (a3_ : Int) (A4 : Option Addr) (c4 : Nat) (l4 : List Int) (a5_ : Int) (a1 : Int) (w : World) (h0 : Kd.C (Kd.int .u8) w A0 l0.length l0) (hc0 : l0.length ≤ c0) (h2 : Kd.C (Kd.int .u8) w A2 l2.length l2) (hc2 : l2.length ≤ c2) (h4 : Kd.C (Kd.int .u8) w A4 l4.length l4) (hc4 : l4.length ≤ c4) (g0 : l0.length ≤ 140737488351232) (g2 : l2.length ≤ 140737488351232) (g4 : l4.length ≤ 140737488351232)
    (hsame : l0.length + l2.length + l4.length ≤ 1048576 → ∃ (ks : Nat) (r1 : List Int) (r2 : Int) (r3 : List Int) (r4 : Int) (r5 : List Int) (r6 r7 : Int), impl_DiskSync.f l0 a1_ l2 a3_ l4 a5_ a1 = some (r1, r2, r3, r4, r5, r6, r7) ∧ impl_DiskSync.f l0 a1_ l2 a3_ l4 a5_ a1 = some (r1, r2, r3, r4, r5, r6, r7) ∧ r1.length ≤ 2097152 ∧ r3.length ≤ 2097152 ∧ r5.length ≤ 2097152) :
    Calls Try.prog 11 #[.agg #[.slice A0 l0.length c0, .int .i64 a1_, .slice A2 l2.length c2, .int .i64 a3_, .slice A4 l4.length c4, .int .i64 a5_], .int .i64 a1] w fun e w' => e = .returned (.bool true) ∧ Below w.heap.size w w' := by
  have R0 := Aside0.mk h0
  have R2 := Aside0.mk h2
  have R4 := Aside0.mk h4
  have HS := Aside0.mk hsame
  clear h0 h2 h4 hsame
  go_enter Try.func11, Try.ntmps11
  go_wp2_with fail
  refine (laws_szDisk.calls A0 c0 l0 a1_ A2 c2 l2 a3_ A4 c4 l4 a5_ 1048576 _ _ (Kd.C_alloc R0.out _) hc0 (Kd.C_alloc R2.out _) hc2 (Kd.C_alloc R4.out _) hc4 (szDisk_f l0 l2 l4 a1_ a3_ a5_ 1048576 (by omega) (by omega) g0 g2 g4)).mono ?_
  rintro e w1 ⟨rfl, hb⟩
  have HB1 := Aside0.mk (below_step (below_alloc (Below.refl w.heap.size w) _) hb)
  have X1 := Aside0.mk (blk_below (blk_new w (.cells #[.slice A0 l0.length c0, .int .i64 a1_, .slice A2 l2.length c2, .int .i64 a3_, .slice A4 l4.length c4, .int .i64 a5_] 26)) hb)
  clear hb
  by_cases hlt : leftD l0.length l2.length l4.length 1048576 < 0
  · have hlt' : decide (leftD l0.length l2.length l4.length 1048576 < 0) = true := decide_eq_true hlt
    go_wp2_with fail
    go_ret
    exact ⟨rfl, HB1.out⟩
  have hle := leftD_ok hlt
  have hlt' : decide (leftD l0.length l2.length l4.length 1048576 < 0) = false := decide_eq_false hlt
  obtain ⟨ks, r1, r2, r3, r4, r5, r6, r7, hs, hi, q1, q3, q5⟩ := HS.out hle
  have SP := Aside0.mk hs
  have IM := Aside0.mk hi
  clear hs hi
  have z1_l := blk_lt X1.out
  have z1_0 := blk_cell X1.out 0
  have z1_1 := blk_cell X1.out 1
  have z1_2 := blk_cell X1.out 2
  have z1_3 := blk_cell X1.out 3
  have z1_4 := blk_cell X1.out 4
  have z1_5 := blk_cell X1.out 5
  simp only [List.getElem?_toArray, List.getElem?_cons_zero, List.getElem?_cons_succ] at z1_0 z1_1 z1_2 z1_3 z1_4 z1_5
  go_wp2_with fail
  refine (toDisk_dk 3000000 w A0 c0 l0 a1_ A2 c2 l2 a3_ A4 c4 l4 a5_ w1 HB1.out (Kd.C_below R0.out HB1.out) hc0 (Kd.C_below R2.out HB1.out) hc2 (Kd.C_below R4.out HB1.out) hc4 hle (by omega)).mono ?_
  rintro e w2 ⟨T0, t0, T2, t2, T4, t4, rfl, hd, hb⟩
  have HB2 := Aside0.mk (below_step HB1.out hb)
  have X2 := Aside0.mk (blk_below X1.out hb)
  have DT := Aside0.mk hd
  clear hd hb
  clear z1_0 z1_1 z1_2 z1_3 z1_4 z1_5 z1_l
  go_wp2_with fail
  refine (spec_DiskSync.calls T0 t0 l0 a1_ T2 t2 l2 a3_ T4 t4 l4 a5_ a1 r1 r2 r3 r4 r5 r6 r7 w2 DT.out.k0.reads.1 DT.out.k0.reads.2 DT.out.k2.reads.1 DT.out.k2.reads.2 DT.out.k4.reads.1 DT.out.k4.reads.2 SP.out).mono ?_
  rintro e w3 ⟨v0, v2, v4, rfl, o0, o2, o4, hb⟩
  obtain ⟨W0, u0, W2, u2, W4, u4, rfl, rfl, rfl, hd⟩ := DK.of o0 o2 o4 HB2.out
  have HB3 := Aside0.mk (below_step HB2.out hb)
  have X3 := Aside0.mk (blk_below X2.out hb)
  have DW := Aside0.mk hd
  clear hd hb o0 o2 o4 DT
  have z3_l := blk_lt X3.out
  have z3_0 := blk_cell X3.out 0
  have z3_1 := blk_cell X3.out 1
  have z3_2 := blk_cell X3.out 2
  have z3_3 := blk_cell X3.out 3
  have z3_4 := blk_cell X3.out 4
  have z3_5 := blk_cell X3.out 5
  simp only [List.getElem?_toArray, List.getElem?_cons_zero, List.getElem?_cons_succ] at z3_0 z3_1 z3_2 z3_3 z3_4 z3_5
  go_wp2_with fail
  have hb3 := below_alloc (Below.refl w3.heap.size w3) (.cells #[.slice W0 r1.length u0, .int .i64 r2, .slice W2 r3.length u2, .int .i64 r4, .slice W4 r5.length u4, .int .i64 r6] 31)
  refine (toDisk_dk 3000000 w A0 c0 l0 a1_ A2 c2 l2 a3_ A4 c4 l4 a5_ _ (below_step HB3.out hb3) (Kd.C_below R0.out (below_step HB3.out hb3)) hc0 (Kd.C_below R2.out (below_step HB3.out hb3)) hc2 (Kd.C_below R4.out (below_step HB3.out hb3)) hc4 hle (by omega)).mono ?_
  rintro e w4 ⟨X0, x0, X2_, x2, X4, x4, rfl, hd, hb⟩
  have HB4 := Aside0.mk (below_step (below_step HB3.out hb3) hb)
  have X4b := Aside0.mk (blk_below (blk_below X3.out hb3) hb)
  have Y4 := Aside0.mk (blk_below (blk_new w3 (.cells #[.slice W0 r1.length u0, .int .i64 r2, .slice W2 r3.length u2, .int .i64 r4, .slice W4 r5.length u4, .int .i64 r6] 31)) hb)
  have DW4 := Aside0.mk ((DW.out.below hb3).below hb)
  have s4 : w3.heap.size + 1 ≤ w4.heap.size := by have := hb.size; simp at this; omega
  have DX := Aside0.mk hd
  clear hd hb DW
  clear z3_0 z3_1 z3_2 z3_3 z3_4 z3_5 z3_l
  go_wp2_with fail
  have hb4 := below_alloc (Below.refl w4.heap.size w4) (.cells #[.slice X0 l0.length x0, .int .i64 a1_, .slice X2_ l2.length x2, .int .i64 a3_, .slice X4 l4.length x4, .int .i64 a5_] 31)
  have DX5 := DX.out.below hb4
  refine (impl_DiskSync.calls X0 x0 l0 a1_ X2_ x2 l2 a3_ X4 x4 l4 a5_ a1 r1 r2 r3 r4 r5 r6 r7 _ DX5.k0.reads.1 DX5.k0.reads.2 DX5.k2.reads.1 DX5.k2.reads.2 DX5.k4.reads.1 DX5.k4.reads.2 IM.out).mono ?_
  rintro e w5 ⟨v0, v2, v4, rfl, o0, o2, o4, hb⟩
  obtain ⟨G0, g0_, G2, g2_, G4, g4_, rfl, rfl, rfl, hd⟩ := DK.of o0 o2 o4 (below_step HB4.out hb4)
  have HB5 := Aside0.mk (below_step (below_step HB4.out hb4) hb)
  have X5 := Aside0.mk (blk_below (blk_below X4b.out hb4) hb)
  have Y5 := Aside0.mk (blk_below (blk_below Y4.out hb4) hb)
  have Z5 := Aside0.mk (blk_below (blk_new w4 (.cells #[.slice X0 l0.length x0, .int .i64 a1_, .slice X2_ l2.length x2, .int .i64 a3_, .slice X4 l4.length x4, .int .i64 a5_] 31)) hb)
  have DW5 := Aside0.mk ((DW4.out.below hb4).below hb)
  have DX6 := Aside0.mk (DX5.below hb)
  have s5 : w4.heap.size + 1 ≤ w5.heap.size := by have := hb.size; simp at this; omega
  have DG := Aside0.mk hd
  clear hd hb o0 o2 o4 DX5 DX DW4
  have z5_l := blk_lt Y5.out
  have z5_0 := blk_cell Y5.out 0
  have z5_1 := blk_cell Y5.out 1
  have z5_2 := blk_cell Y5.out 2
  have z5_3 := blk_cell Y5.out 3
  have z5_4 := blk_cell Y5.out 4
  have z5_5 := blk_cell Y5.out 5
  simp only [List.getElem?_toArray, List.getElem?_cons_zero, List.getElem?_cons_succ] at z5_0 z5_1 z5_2 z5_3 z5_4 z5_5
  go_wp2_with fail
  have hb5 := below_alloc (Below.refl w5.heap.size w5) (.cells #[.slice G0 r1.length g0_, .int .i64 r2, .slice G2 r3.length g2_, .int .i64 r4, .slice G4 r5.length g4_, .int .i64 r6] 31)
  refine (eqDisk_dk 3000000 w _ _ _ _ G0 g0_ r1 r2 G2 g2_ r3 r4 G4 g4_ r5 r6 W0 u0 W2 u2 W4 u4 _ (DG.out.below hb5) (DW5.out.below hb5) q1 q3 q5 (by omega)).mono ?_
  rintro e w6 ⟨rfl, hb⟩
  have HB6 := Aside0.mk (below_step (below_step HB5.out hb5) hb)
  have X6 := Aside0.mk (blk_below (blk_below X5.out hb5) hb)
  have Y6 := Aside0.mk (blk_below (blk_below Y5.out hb5) hb)
  have Z6 := Aside0.mk (blk_below (blk_below Z5.out hb5) hb)
  have G6 := Aside0.mk (blk_below (blk_new w5 (.cells #[.slice G0 r1.length g0_, .int .i64 r2, .slice G2 r3.length g2_, .int .i64 r4, .slice G4 r5.length g4_, .int .i64 r6] 31)) hb)
  have DW6 := Aside0.mk ((DW5.out.below hb5).below hb)
  have DX7 := Aside0.mk ((DX6.out.below hb5).below hb)
  have DG6 := Aside0.mk ((DG.out.below hb5).below hb)
  have s6 : w5.heap.size + 1 ≤ w6.heap.size := by have := hb.size; simp at this; omega
  clear hb DW5 DX6 DG
  clear z5_0 z5_1 z5_2 z5_3 z5_4 z5_5 z5_l
  have z6_l := blk_lt X6.out
  have z6_0 := blk_cell X6.out 0
  have z6_1 := blk_cell X6.out 1
  have z6_2 := blk_cell X6.out 2
  have z6_3 := blk_cell X6.out 3
  have z6_4 := blk_cell X6.out 4
  have z6_5 := blk_cell X6.out 5
  simp only [List.getElem?_toArray, List.getElem?_cons_zero, List.getElem?_cons_succ] at z6_0 z6_1 z6_2 z6_3 z6_4 z6_5
  have z7_l := blk_lt Z6.out
  have z7_0 := blk_cell Z6.out 0
  have z7_1 := blk_cell Z6.out 1
  have z7_2 := blk_cell Z6.out 2
  have z7_3 := blk_cell Z6.out 3
  have z7_4 := blk_cell Z6.out 4
  have z7_5 := blk_cell Z6.out 5
  simp only [List.getElem?_toArray, List.getElem?_cons_zero, List.getElem?_cons_succ] at z7_0 z7_1 z7_2 z7_3 z7_4 z7_5
  go_wp2_with fail
  go_region_held3 (fun w' => w'.cell? ⟨w.heap.size, 0, none⟩ = some (.slice A0 l0.length c0) ∧ w'.cell? ⟨w.heap.size, 1, none⟩ = some (.int .i64 a1_) ∧ w'.cell? ⟨w.heap.size, 2, none⟩ = some (.slice A2 l2.length c2) ∧ w'.cell? ⟨w.heap.size, 3, none⟩ = some (.int .i64 a3_) ∧ w'.cell? ⟨w.heap.size, 4, none⟩ = some (.slice A4 l4.length c4) ∧ w'.cell? ⟨w.heap.size, 5, none⟩ = some (.int .i64 a5_) ∧ w'.cell? ⟨w4.heap.size, 0, none⟩ = some (.slice X0 l0.length x0) ∧ w'.cell? ⟨w4.heap.size, 1, none⟩ = some (.int .i64 a1_) ∧ w'.cell? ⟨w4.heap.size, 2, none⟩ = some (.slice X2_ l2.length x2) ∧ w'.cell? ⟨w4.heap.size, 3, none⟩ = some (.int .i64 a3_) ∧ w'.cell? ⟨w4.heap.size, 4, none⟩ = some (.slice X4 l4.length x4) ∧ w'.cell? ⟨w4.heap.size, 5, none⟩ = some (.int .i64 a5_)) (first | exact ⟨z6_0, z6_1, z6_2, z6_3, z6_4, z6_5, z7_0, z7_1, z7_2, z7_3, z7_4, z7_5⟩ | exact ⟨z8_0, z8_1, z8_2, z8_3, z8_4, z8_5, z9_0, z9_1, z9_2, z9_3, z9_4, z9_5⟩ | exact ⟨z10_0, z10_1, z10_2, z10_3, z10_4, z10_5, z11_0, z11_1, z11_2, z11_3, z11_4, z11_5⟩) (first | (go_at_call 17; refine (toDisk_dk 3000000 w A0 c0 l0 a1_ A2 c2 l2 a3_ A4 c4 l4 a5_ _ (by with_reducible repeat (first | exact HB6.out | apply below_drew1)) (by repeat (first | exact Kd.C_below R0.out HB6.out | refine Kd.C_drew ?_)) hc0 (by repeat (first | exact Kd.C_below R2.out HB6.out | refine Kd.C_drew ?_)) hc2 (by repeat (first | exact Kd.C_below R4.out HB6.out | refine Kd.C_drew ?_)) hc4 hle (by omega)).mono ?_; rintro e w7 ⟨V0, v0_, V2, v2_, V4, v4_, rfl, hd, hb0⟩; have hb : Below w6.heap.size w6 w7 := (below_drew1 (Below.refl w6.heap.size w6)).trans hb0; have HB7 := Aside0.mk (below_step HB6.out hb); have X7 := Aside0.mk (blk_below X6.out hb); have Y7 := Aside0.mk (blk_below Y6.out hb); have Z7 := Aside0.mk (blk_below Z6.out hb); have G7 := Aside0.mk (blk_below G6.out hb); have DW7 := Aside0.mk (DW6.out.below hb); have DX8 := Aside0.mk (DX7.out.below hb); have DG7 := Aside0.mk (DG6.out.below hb); have DV := Aside0.mk hd; have s7 := hb.size; clear hd hb hb0 DW6 DX7 DG6 z6_0 z6_1 z6_2 z6_3 z6_4 z6_5 z6_l z7_0 z7_1 z7_2 z7_3 z7_4 z7_5 z7_l; have z8_l := blk_lt X7.out; have z8_0 := blk_cell X7.out 0; have z8_1 := blk_cell X7.out 1; have z8_2 := blk_cell X7.out 2; have z8_3 := blk_cell X7.out 3; have z8_4 := blk_cell X7.out 4; have z8_5 := blk_cell X7.out 5; simp only [List.getElem?_toArray, List.getElem?_cons_zero, List.getElem?_cons_succ] at z8_0 z8_1 z8_2 z8_3 z8_4 z8_5; have z9_l := blk_lt Z7.out; have z9_0 := blk_cell Z7.out 0; have z9_1 := blk_cell Z7.out 1; have z9_2 := blk_cell Z7.out 2; have z9_3 := blk_cell Z7.out 3; have z9_4 := blk_cell Z7.out 4; have z9_5 := blk_cell Z7.out 5; simp only [List.getElem?_toArray, List.getElem?_cons_zero, List.getElem?_cons_succ] at z9_0 z9_1 z9_2 z9_3 z9_4 z9_5) | (go_at_call 19; refine (eqDisk_dk 3000000 w _ _ _ _ X0 x0 l0 a1_ X2_ x2 l2 a3_ X4 x4 l4 a5_ V0 v0_ V2 v2_ V4 v4_ _ (by repeat (first | exact DX8.out | refine DK.below ?_ (below_drew1 (Below.refl _ _)))) (by repeat (first | exact DV.out | refine DK.below ?_ (below_drew1 (Below.refl _ _)))) (by omega) (by omega) (by omega) (by omega)).mono ?_; rintro e w8 ⟨rfl, hb⟩; have HB8 := Aside0.mk (below_step HB7.out hb); have X8 := Aside0.mk (blk_below X7.out hb); have Y8 := Aside0.mk (blk_below Y7.out hb); have Z8 := Aside0.mk (blk_below Z7.out hb); have G8 := Aside0.mk (blk_below G7.out hb); have DW8 := Aside0.mk (DW7.out.below hb); have DX9 := Aside0.mk (DX8.out.below hb); have DG8 := Aside0.mk (DG7.out.below hb); have s8 := hb.size; clear hb DV DW7 DX8 DG7 z8_0 z8_1 z8_2 z8_3 z8_4 z8_5 z8_l z9_0 z9_1 z9_2 z9_3 z9_4 z9_5 z9_l; have z10_l := blk_lt X8.out; have z10_0 := blk_cell X8.out 0; have z10_1 := blk_cell X8.out 1; have z10_2 := blk_cell X8.out 2; have z10_3 := blk_cell X8.out 3; have z10_4 := blk_cell X8.out 4; have z10_5 := blk_cell X8.out 5; simp only [List.getElem?_toArray, List.getElem?_cons_zero, List.getElem?_cons_succ] at z10_0 z10_1 z10_2 z10_3 z10_4 z10_5; have z11_l := blk_lt Z8.out; have z11_0 := blk_cell Z8.out 0; have z11_1 := blk_cell Z8.out 1; have z11_2 := blk_cell Z8.out 2; have z11_3 := blk_cell Z8.out 3; have z11_4 := blk_cell Z8.out 4; have z11_5 := blk_cell Z8.out 5; simp only [List.getElem?_toArray, List.getElem?_cons_zero, List.getElem?_cons_succ] at z11_0 z11_1 z11_2 z11_3 z11_4 z11_5))
  go_wp2_with fail
  have hsz := hle
  have b4 := blk_lt Z8.out
  have b5 := blk_lt G8.out
  refine (markDisk_dk 3000000 1 w _ _ X0 x0 l0 a1_ X2_ x2 l2 a3_ X4 x4 l4 a5_ w8 HB8.out DX9.out (by omega) (by omega) (by omega) (by omega) (by omega) (by omega)).mono ?_
  rintro e w9 ⟨rfl, hd, hb, hk⟩
  have hnew : (w3.alloc (.cells #[.slice W0 r1.length u0, .int .i64 r2, .slice W2 r3.length u2, .int .i64 r4, .slice W4 r5.length u4, .int .i64 r6] 31)).heap.size = w3.heap.size + 1 := by simp
  rw [hnew] at hk
  have l2_ := blk_lt X3.out
  have HB9 := Aside0.mk hb
  have X9 := Aside0.mk (blk_kept X8.out hk (by intro h; omega))
  have Y9 := Aside0.mk (blk_kept Y8.out hk (by intro h; omega))
  have G9 := Aside0.mk (blk_kept G8.out hk (by intro h; omega))
  have hnew4 : (w4.alloc (.cells #[.slice X0 l0.length x0, .int .i64 a1_, .slice X2_ l2.length x2, .int .i64 a3_, .slice X4 l4.length x4, .int .i64 a5_] 31)).heap.size = w4.heap.size + 1 := by simp
  have DW9 := Aside0.mk (DW8.out.kept hk (by intro k h1 h2 h3; omega))
  have DG9 := Aside0.mk (DG8.out.kept hk (by intro k h1 h2 h3; rw [hnew4] at h1; omega))
  have s9 := hk.1
  clear hd hb hk DX9 DW8 DG8 Z8 hnew
  clear z10_0 z10_1 z10_2 z10_3 z10_4 z10_5 z10_l z11_0 z11_1 z11_2 z11_3 z11_4 z11_5 z11_l
  have z12_l := blk_lt Y9.out
  have z12_0 := blk_cell Y9.out 0
  have z12_1 := blk_cell Y9.out 1
  have z12_2 := blk_cell Y9.out 2
  have z12_3 := blk_cell Y9.out 3
  have z12_4 := blk_cell Y9.out 4
  have z12_5 := blk_cell Y9.out 5
  simp only [List.getElem?_toArray, List.getElem?_cons_zero, List.getElem?_cons_succ] at z12_0 z12_1 z12_2 z12_3 z12_4 z12_5
  have z13_l := blk_lt G9.out
  have z13_0 := blk_cell G9.out 0
  have z13_1 := blk_cell G9.out 1
  have z13_2 := blk_cell G9.out 2
  have z13_3 := blk_cell G9.out 3
  have z13_4 := blk_cell G9.out 4
  have z13_5 := blk_cell G9.out 5
  simp only [List.getElem?_toArray, List.getElem?_cons_zero, List.getElem?_cons_succ] at z13_0 z13_1 z13_2 z13_3 z13_4 z13_5
  have hneg : decide (((1 + l0.length + l2.length + l4.length : Nat) : Int) < 0) = false := decide_eq_false (by omega)
  go_wp2_with fail
  refine (eqDisk_dk 3000000 w _ _ _ _ G0 g0_ r1 r2 G2 g2_ r3 r4 G4 g4_ r5 r6 W0 u0 W2 u2 W4 u4 w9 DG9.out DW9.out q1 q3 q5 (by omega)).mono ?_
  rintro e w10 ⟨rfl, hb⟩
  have HB10 := Aside0.mk (below_step HB9.out hb)
  have X10 := Aside0.mk (blk_below X9.out hb)
  have Y10 := Aside0.mk (blk_below Y9.out hb)
  have G10 := Aside0.mk (blk_below G9.out hb)
  have DW10 := Aside0.mk (DW9.out.below hb)
  have DG10 := Aside0.mk (DG9.out.below hb)
  have s10 := hb.size
  clear hb DW9 DG9 hneg
  clear z12_0 z12_1 z12_2 z12_3 z12_4 z12_5 z12_l z13_0 z13_1 z13_2 z13_3 z13_4 z13_5 z13_l
  have z14_l := blk_lt G10.out
  have z14_0 := blk_cell G10.out 0
  have z14_1 := blk_cell G10.out 1
  have z14_2 := blk_cell G10.out 2
  have z14_3 := blk_cell G10.out 3
  have z14_4 := blk_cell G10.out 4
  have z14_5 := blk_cell G10.out 5
  simp only [List.getElem?_toArray, List.getElem?_cons_zero, List.getElem?_cons_succ] at z14_0 z14_1 z14_2 z14_3 z14_4 z14_5
  go_wp2_with fail
  refine (markDisk_dk 3000000 1 w _ _ G0 g0_ r1 r2 G2 g2_ r3 r4 G4 g4_ r5 r6 w10 HB10.out DG10.out q1 q3 q5 (by omega) (by omega) (by omega)).mono ?_
  rintro e w11 ⟨rfl, hd, hb, hk⟩
  rw [hnew4] at hk hd
  have HB11 := Aside0.mk hb
  have X11 := Aside0.mk (blk_kept X10.out hk (by intro h; omega))
  have Y11 := Aside0.mk (blk_kept Y10.out hk (by intro h; omega))
  have G11 := Aside0.mk (blk_kept G10.out hk (by intro h; omega))
  have DW11 := Aside0.mk (DW10.out.kept hk (by intro k h1 h2 h3; omega))
  have DG11 := Aside0.mk hd
  have s11 := hk.1
  clear hd hb hk DW10 DG10
  clear z14_0 z14_1 z14_2 z14_3 z14_4 z14_5 z14_l
  have z15_l := blk_lt G11.out
  have z15_0 := blk_cell G11.out 0
  have z15_1 := blk_cell G11.out 1
  have z15_2 := blk_cell G11.out 2
  have z15_3 := blk_cell G11.out 3
  have z15_4 := blk_cell G11.out 4
  have z15_5 := blk_cell G11.out 5
  simp only [List.getElem?_toArray, List.getElem?_cons_zero, List.getElem?_cons_succ] at z15_0 z15_1 z15_2 z15_3 z15_4 z15_5
  go_wp2_with fail
  refine (heldDisk_dk 3000000 1 w _ _ r1.length r3.length r5.length G0 g0_ r2 G2 g2_ r4 G4 g4_ r6 w11 DG11.out q1 q3 q5 (by omega) (by omega)).mono ?_
  rintro e w12 ⟨rfl, hb⟩
  have HB12 := Aside0.mk (below_step HB11.out hb)
  have X12 := Aside0.mk (blk_below X11.out hb)
  have Y12 := Aside0.mk (blk_below Y11.out hb)
  have G12 := Aside0.mk (blk_below G11.out hb)
  have DW12 := Aside0.mk (DW11.out.below hb)
  have DG12 := Aside0.mk (DG11.out.below hb)
  have s12 := hb.size
  clear hb DW11 DG11
  clear z15_0 z15_1 z15_2 z15_3 z15_4 z15_5 z15_l
  have z16_l := blk_lt X12.out
  have z16_0 := blk_cell X12.out 0
  have z16_1 := blk_cell X12.out 1
  have z16_2 := blk_cell X12.out 2
  have z16_3 := blk_cell X12.out 3
  have z16_4 := blk_cell X12.out 4
  have z16_5 := blk_cell X12.out 5
  simp only [List.getElem?_toArray, List.getElem?_cons_zero, List.getElem?_cons_succ] at z16_0 z16_1 z16_2 z16_3 z16_4 z16_5
  have hneg : decide (((1 + r1.length + r3.length + r5.length : Nat) : Int) < 0) = false := decide_eq_false (by omega)
  go_wp2_with fail
  refine (toDisk_dk 3000000 w A0 c0 l0 a1_ A2 c2 l2 a3_ A4 c4 l4 a5_ w12 HB12.out (Kd.C_below R0.out HB12.out) hc0 (Kd.C_below R2.out HB12.out) hc2 (Kd.C_below R4.out HB12.out) hc4 hle (by omega)).mono ?_
  rintro e w13 ⟨T0, t0, T2, t2, T4, t4, rfl, hd, hb⟩
  have HB13 := Aside0.mk (below_step HB12.out hb)
  have Y13 := Aside0.mk (blk_below Y12.out hb)
  have G13 := Aside0.mk (blk_below G12.out hb)
  have DW13 := Aside0.mk (DW12.out.below hb)
  have DG13 := Aside0.mk (DG12.out.below hb)
  have s13 := hb.size
  have DT := Aside0.mk hd
  clear hd hb DW12 DG12
  clear z16_0 z16_1 z16_2 z16_3 z16_4 z16_5 z16_l
  go_wp2_with fail
  refine (impl_DiskSync.calls T0 t0 l0 a1_ T2 t2 l2 a3_ T4 t4 l4 a5_ a1 r1 r2 r3 r4 r5 r6 r7 w13 DT.out.k0.reads.1 DT.out.k0.reads.2 DT.out.k2.reads.1 DT.out.k2.reads.2 DT.out.k4.reads.1 DT.out.k4.reads.2 IM.out).mono ?_
  rintro e w14 ⟨v0, v2, v4, rfl, o0, o2, o4, hb⟩
  obtain ⟨H0, h0_, H2, h2_, H4, h4_, rfl, rfl, rfl, hd⟩ := DK.of o0 o2 o4 HB13.out
  have HB14 := Aside0.mk (below_step HB13.out hb)
  have Y14 := Aside0.mk (blk_below Y13.out hb)
  have G14 := Aside0.mk (blk_below G13.out hb)
  have DW14 := Aside0.mk (DW13.out.below hb)
  have DG14 := Aside0.mk (DG13.out.below hb)
  have DH := Aside0.mk hd
  have s14 := hb.size
  clear hd hb o0 o2 o4 DT DW13 DG13
  have z17_l := blk_lt Y14.out
  have z17_0 := blk_cell Y14.out 0
  have z17_1 := blk_cell Y14.out 1
  have z17_2 := blk_cell Y14.out 2
  have z17_3 := blk_cell Y14.out 3
  have z17_4 := blk_cell Y14.out 4
  have z17_5 := blk_cell Y14.out 5
  simp only [List.getElem?_toArray, List.getElem?_cons_zero, List.getElem?_cons_succ] at z17_0 z17_1 z17_2 z17_3 z17_4 z17_5
  go_wp2_with fail
  have hb14 := below_alloc (Below.refl w14.heap.size w14) (.cells #[.slice H0 r1.length h0_, .int .i64 r2, .slice H2 r3.length h2_, .int .i64 r4, .slice H4 r5.length h4_, .int .i64 r6] 31)
  refine (eqDisk_dk 3000000 w _ _ _ _ H0 h0_ r1 r2 H2 h2_ r3 r4 H4 h4_ r5 r6 W0 u0 W2 u2 W4 u4 _ (DH.out.below hb14) (DW14.out.below hb14) q1 q3 q5 (by omega)).mono ?_
  rintro e w15 ⟨rfl, hb⟩
  have HB15 := Aside0.mk (below_step (below_step HB14.out hb14) hb)
  have G15 := Aside0.mk (blk_below (blk_below G14.out hb14) hb)
  have DG15 := Aside0.mk ((DG14.out.below hb14).below hb)
  clear hb
  clear z17_0 z17_1 z17_2 z17_3 z17_4 z17_5 z17_l
  have z18_l := blk_lt G15.out
  have z18_0 := blk_cell G15.out 0
  have z18_1 := blk_cell G15.out 1
  have z18_2 := blk_cell G15.out 2
  have z18_3 := blk_cell G15.out 3
  have z18_4 := blk_cell G15.out 4
  have z18_5 := blk_cell G15.out 5
  simp only [List.getElem?_toArray, List.getElem?_cons_zero, List.getElem?_cons_succ] at z18_0 z18_1 z18_2 z18_3 z18_4 z18_5
  go_wp2_with fail
  refine (heldDisk_dk 3000000 1 w _ _ r1.length r3.length r5.length G0 g0_ r2 G2 g2_ r4 G4 g4_ r6 w15 DG15.out q1 q3 q5 (by omega) (by omega)).mono ?_
  rintro e w16 ⟨rfl, hb⟩
  have HB16 := Aside0.mk (below_step HB15.out hb)
  clear hb
  clear z18_0 z18_1 z18_2 z18_3 z18_4 z18_5 z18_l
  go_wp2_with fail
  go_ret
  exact ⟨rfl, HB16.out⟩

end Go.Proofs.Ytbapokpkgonjkaa.Print

/- The row of the law FnExactDiskSync. No condition. -/
namespace Go.Proofs.Ytbapokpkgonjkaa.fnExactDiskSync
open Go.ChangeShapes Go.WideShapes Go.ChangeAt Go.RowKit Print
open Go.ChangeMaps (open_string shut_string)
open Go.Proofs.YtbapokpkgonjkaaW.PrintWords Go.Proofs.YtbapokpkgonjkaaW.PrintLast Go.Proofs.YtbapokpkgonjkaaW.PrintMore
set_option linter.unusedVariables false
theorem own : ownKnob Try.prog.godebug = none := by kernel_rfl
theorem laidOut : laidOutB Try.prog = true := by kernel_rfl
set_option maxRecDepth 100000 in
theorem lifted (os : Os) (started : os.Started) (H : Type) (enc : TypeId × Value → H) :
    ReturnsInHanded {} Try.checked os 11 .any (Rows.fnExactDiskSyncSpec.pre6 enc Try.prog Try.f11 Rows.fnExactDiskSyncRow.domain false) (Rows.fnExactDiskSyncSpec.post enc Try.prog Try.f11 false true false false) := by
  refine returnsInHanded_of_change_sized (C := Try.checked) own started (by kernel_rfl) Try.func11
    (ChangeSpec.witness6 (enc := enc) (C := Try.checked) false ⟨#[], #[.agg #[.slice none 0 0, .int .i64 0, .slice none 0 0, .int .i64 0, .slice none 0 0, .int .i64 0], .int .i64 0], []⟩ 8 (by kernel_rfl) (by kernel_rfl) (by kernel_rfl) (by kernel_rfl)) ?_
  intro W base args ds gs before hval0 hW hcnd hsz0 _
  have hsz : (DataW.weightsEach Try.prog (Try.f11.params.toList ++ Rows.fnExactDiskSyncSpec.plain.varTypes Try.prog) (ds ++ gs)).all (· ≤ reachBytes) = true := hsz0
  have hval : ∀ (j : Nat) t v, Try.f11.params[j]? = some t → args[j]? = some v → Value.okWide Try.prog W .any base t v := hval0
  have hW' := hW
  obtain ⟨p, q, hA0, hV, rfl, hfz, hnd⟩ := hW
  have hA : DataW.TrodAll enc Try.prog W 0 (fun _ => true) true Try.f11.params.toList args.toList ds p := hA0
  rw [Try.params11] at hA hval hsz
  obtain ⟨v0, vs0, d0, ds0, p0, q0, hargs, rfl, rfl, h0, r0⟩ := trodAll_cons hA
  obtain ⟨v1, vs1, d1, ds1, p1, q1, rfl, rfl, rfl, h1, r1⟩ := trodAll_cons r0
  obtain ⟨rfl, rfl, rfl⟩ := trodAll_nil r1
  obtain rfl : args = #[v0, v1] := by cases args; simp_all
  obtain ⟨rfl, rfl⟩ := trodVars_none hV
  have k0 := h0
  have lt0 : ∀ x ∈ p0, x.block < W.heap.size := by obtain ⟨m, hm⟩ := k0; exact DataW.trod_lt m _ _ _ hm
  have k1 := h1
  have lt1 : ∀ x ∈ p1, x.block < W.heap.size := by obtain ⟨m, hm⟩ := k1; exact DataW.trod_lt m _ _ _ hm
  obtain ⟨A0_0, c0_0, l0_0, a0_1, A0_2, c0_2, l0_2, a0_3, A0_4, c0_4, l0_4, a0_5, rfl, hd0_0, hc0_0, hd0_2, hc0_2, hd0_4, hc0_4, g0_0, g0_2, g0_4, w0_0, w0_2, w0_4, w0_1, w0_3, w0_5⟩ := disk_open hsz (j := 0) rfl rfl (hval 0 26 v0 rfl rfl) h0
  obtain ⟨n1, rfl, rfl, rfl, w1⟩ := open_int Try.underlying3 (hval 1 3 v1 rfl rfl) h1
  clear hA0 hval0 hsz0 hsz
  refine (FnExactDiskSync_walk A0_0 c0_0 l0_0 a0_1 A0_2 c0_2 l0_2 a0_3 A0_4 c0_4 l0_4 a0_5 n1 W hd0_0 hc0_0 hd0_2 hc0_2 hd0_4 hc0_4 g0_0 g0_2 g0_4 (fun _ => DiskSync_same l0_0 l0_2 l0_4 a0_1 a0_3 a0_5 n1)).mono fun e W' ⟨he, bel⟩ => ?_
  subst he
  exact ⟨_, rfl, _, _, _, [], _, [], hW', trodAll_mk1 (shut_bool Try.underlying4 _), (trodAll_cons_mk (Below.trod laidOut (by kernel_rfl) (of_decide_eq_true (by kernel_rfl)) k0 bel lt0) (trodAll_cons_mk (Below.trod laidOut (by kernel_rfl) (of_decide_eq_true (by kernel_rfl)) k1 bel lt1) trodAll_mk0)), rfl, bel.frame _, fun h => by cases h⟩
theorem over : Rows.fnExactDiskSyncRow.holds Try.pinned (OpenSpec.ofChange Rows.fnExactDiskSyncSpec) :=
  OpenClaim.holds_of_wide 11 Try.f11 rfl rfl rfl rfl rfl rfl rfl ⟨rfl, rfl, rfl, rfl, rfl⟩ rfl rfl rfl rfl rfl (by kernel_rfl) Try.func11 (by kernel_rfl)
    (of_decide_eq_true (by kernel_rfl)) (by unfold Func.isWrapper; first | (rw [if_pos (by decide +kernel)]; kernel_rfl) | (rw [if_neg (by decide +kernel)]; exact ⟨rfl, rfl⟩))
    (fun os started H enc _ => lifted os started H enc)
theorem proved : Rows.FnExactDiskSyncSaid := over
#print axioms proved
end Go.Proofs.Ytbapokpkgonjkaa.fnExactDiskSync
namespace Go.Proofs.Ytbapokpkgonjkaa
/-- The row, under a short name, for the claim. -/
theorem fnExactDiskSync_holds : Rows.FnExactDiskSyncSaid := fnExactDiskSync.proved
end Go.Proofs.Ytbapokpkgonjkaa
