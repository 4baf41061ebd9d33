/- Texts of this session, joined by its own program. -/
import Derived.Test.YtbgbocdohadhoaaCDO6
import Derived.Test.YtbgbocdohadhoaaCDO0
import Derived.WalkKit
import Derived.Below
namespace Go.Proofs.Ytbgbocdohadhoaa.Print
open Go.RowKit Go.Proofs.YtbgbocdohadhoaaW.PrintWords Go.Proofs.YtbgbocdohadhoaaW.PrintLast Go.Proofs.YtbgbocdohadhoaaW.PrintMore
set_option linter.unusedVariables false
set_option linter.unusedSimpArgs false
set_option maxHeartbeats 4000000 in
set_option maxRecDepth 100000 in
theorem FnExactDecodeOp_walk (A : Option Addr) (c : Nat) (l : List Int) (w : World) (h0 : Kd.C (Kd.int .u8) w A l.length l) (hc : l.length ≤ c) (g : l.length ≤ 140737488351232) (hbr : ∀ x ∈ l, 0 ≤ x ∧ x < 256) :
    Calls Try.prog 4 #[.slice A l.length c] w fun e w' => e = .returned (.bool true) ∧ Below w.heap.size w w' := by
  have R0 := Aside0.mk h0
  have BR := Aside0.mk hbr
  clear h0 hbr
  go_enter Try.func4, Try.ntmps4
  by_cases hbl : l.length ≤ 1048576
  case neg =>
    go_wp2_with fail
    go_ret
    exact ⟨rfl, by repeat (first | exact Below.refl _ _ | apply below_alloc)⟩
  have SP := fun A c W hB h0 hc => spec_DecodeOp_ok 3000000 w A c l W hB h0 hc (by omega) BR.out (by omega)
  have IM := fun A c W hB h0 hc => impl_DecodeOp_ok w A c l W hB h0 hc (by omega)
  obtain ⟨hlp, hlq⟩ := decO_len l
  generalize decO l = y at SP IM hlp hlq
  obtain ⟨K, n, p, F, q, d⟩ := y
  simp only at SP IM hlp hlq
  have SP := Aside0.mk SP
  have IM := Aside0.mk IM
  have HB := Aside0.mk (Below.refl w.heap.size w)
  go_wp2_with fail
  refine (toByteS_bk 3000000 w A c l _ HB.out (Kd.C_below R0.out HB.out) hc (by omega) (by omega)).mono ?_
  rintro e w1 ⟨T, tc, rfl, hd, hb⟩
  replace HB := Aside0.mk (below_step HB.out hb)
  have s1 := hb.size
  clear hb
  (try simp only [World.size_alloc] at hd)
  have DT := Aside0.mk hd
  clear hd
  go_wp2_with fail
  refine (SP.out T tc _ HB.out DT.out.reads.1 DT.out.reads.2).mono ?_
  rintro e w2 ⟨W2, W2c, W4, W4c, rfl, hd, hb⟩
  clear DT
  replace HB := Aside0.mk (below_step HB.out hb)
  have s2 := hb.size
  clear hb
  (try simp only [World.size_alloc] at hd)
  have DW := Aside0.mk hd
  clear hd
  go_wp2_with fail
  have hba := below_alloc (Below.refl w2.heap.size w2) (.cells #[.int .i64 K, .int .u64 n, (.slice W2 p.length W2c), .int .i64 F, (.slice W4 q.length W4c), .int .u64 0, .int .u64 0] 28)
  have NB := Aside0.mk (blk_new w2 (.cells #[.int .i64 K, .int .u64 n, (.slice W2 p.length W2c), .int .i64 F, (.slice W4 q.length W4c), .int .u64 0, .int .u64 0] 28))
  refine (toByteS_bk 3000000 w A c l _ (below_step HB.out hba) (Kd.C_below R0.out (below_step HB.out hba)) hc (by omega) (by omega)).mono ?_
  rintro e w3 ⟨X0, xc, rfl, hd, hb⟩
  replace DW := Aside0.mk ((DW.out.below hba).below hb)
  replace HB := Aside0.mk (below_step (below_step HB.out hba) hb)
  have BW := Aside0.mk (blk_below NB.out hb)
  clear NB
  have s3 := hb.size
  simp only [World.size_alloc] at s3
  clear hb hba
  (try simp only [World.size_alloc] at hd)
  have DX := Aside0.mk hd
  clear hd
  go_wp2_with fail
  refine (IM.out X0 xc _ HB.out DX.out.reads.1 DX.out.reads.2).mono ?_
  rintro e w4 ⟨G2, G2c, G4, G4c, rfl, hd, hb⟩
  replace BW := Aside0.mk (blk_below BW.out hb)
  replace DW := Aside0.mk (DW.out.below hb)
  replace DX := Aside0.mk (DX.out.below hb)
  replace HB := Aside0.mk (below_step HB.out hb)
  have s4 := hb.size
  clear hb
  (try simp only [World.size_alloc] at hd)
  have DG := Aside0.mk hd
  clear hd
  have z1_l := blk_lt BW.out
  have z1_0 := blk_cell BW.out 0
  have z1_1 := blk_cell BW.out 1
  have z1_2 := blk_cell BW.out 2
  have z1_3 := blk_cell BW.out 3
  have z1_4 := blk_cell BW.out 4
  have z1_5 := blk_cell BW.out 5
  have z1_6 := blk_cell BW.out 6
  simp only [List.getElem?_toArray, List.getElem?_cons_zero, List.getElem?_cons_succ] at z1_0 z1_1 z1_2 z1_3 z1_4 z1_5 z1_6
  go_wp2_with fail
  have hba := below_alloc (Below.refl w4.heap.size w4) (.cells #[.int .i64 K, .int .u64 n, (.slice G2 p.length G2c), .int .i64 F, (.slice G4 q.length G4c), .int .u64 0, .int .u64 0] 28)
  have NB := Aside0.mk (blk_new w4 (.cells #[.int .i64 K, .int .u64 n, (.slice G2 p.length G2c), .int .i64 F, (.slice G4 q.length G4c), .int .u64 0, .int .u64 0] 28))
  refine (eqOp_ok 3000000 w w _ _ _ _ K n G2 G2c p F G4 G4c q 0 0 W2 W2c W4 W4c _ (DG.out.below hba) (DW.out.below hba) (by omega) (by omega) (by omega)).mono ?_
  rintro e w5 ⟨rfl, hb⟩
  replace BW := Aside0.mk (blk_below (blk_below BW.out hba) hb)
  replace DW := Aside0.mk ((DW.out.below hba).below hb)
  replace DX := Aside0.mk ((DX.out.below hba).below hb)
  replace DG := Aside0.mk ((DG.out.below hba).below hb)
  replace HB := Aside0.mk (below_step (below_step HB.out hba) hb)
  have BG := Aside0.mk (blk_below NB.out hb)
  clear NB
  have s5 := hb.size
  simp only [World.size_alloc] at s5
  clear hb hba
  clear z1_l z1_0 z1_1 z1_2 z1_3 z1_4 z1_5 z1_6
  go_wp2_with fail
  refine (toByteS_bk 3000000 w A c l _ HB.out (Kd.C_below R0.out HB.out) hc (by omega) (by omega)).mono ?_
  rintro e w6 ⟨V0, vc, rfl, hd, hb⟩
  replace BW := Aside0.mk (blk_below BW.out hb)
  replace BG := Aside0.mk (blk_below BG.out hb)
  replace DW := Aside0.mk (DW.out.below hb)
  replace DX := Aside0.mk (DX.out.below hb)
  replace DG := Aside0.mk (DG.out.below hb)
  replace HB := Aside0.mk (below_step HB.out hb)
  have s6 := hb.size
  clear hb
  (try simp only [World.size_alloc] at hd)
  have DV := Aside0.mk hd
  clear hd
  go_wp2_with fail
  refine (eqByteS_bk 3000000 w w _ _ _ _ X0 xc l V0 vc _ DX.out DV.out (by omega) (by omega)).mono ?_
  rintro e w7 ⟨rfl, hb⟩
  clear DV
  replace BW := Aside0.mk (blk_below BW.out hb)
  replace BG := Aside0.mk (blk_below BG.out hb)
  replace DW := Aside0.mk (DW.out.below hb)
  replace DX := Aside0.mk (DX.out.below hb)
  replace DG := Aside0.mk (DG.out.below hb)
  replace HB := Aside0.mk (below_step HB.out hb)
  have s7 := hb.size
  clear hb
  have bw_ := blk_lt BW.out
  have bg_ := blk_lt BG.out
  go_wp2_with fail
  refine (markByteS_bk 3000000 1 w _ _ X0 xc l _ HB.out DX.out (by omega) (by omega) (by omega)).mono ?_
  rintro e w8 ⟨rfl, hd, hb, hk⟩
  replace BW := Aside0.mk (blk_kept BW.out hk (by intro h; omega))
  replace BG := Aside0.mk (blk_kept BG.out hk (by intro h; omega))
  replace DW := Aside0.mk (DW.out.kept hk (by intro k h1 h2 h3; omega))
  replace DG := Aside0.mk (DG.out.kept hk (by intro k h1 h2 h3; omega))
  replace HB := Aside0.mk hb
  have s8 := hk.1
  replace DX := Aside0.mk hd
  clear hb hk hd
  generalize hm2 : 1 + l.length = m2
  have hneg : decide ((m2 : Int) < 0) = false := decide_eq_false (by omega)
  clear DX bw_ bg_
  have z2_l := blk_lt BW.out
  have z2_0 := blk_cell BW.out 0
  have z2_1 := blk_cell BW.out 1
  have z2_2 := blk_cell BW.out 2
  have z2_3 := blk_cell BW.out 3
  have z2_4 := blk_cell BW.out 4
  have z2_5 := blk_cell BW.out 5
  have z2_6 := blk_cell BW.out 6
  have z3_l := blk_lt BG.out
  have z3_0 := blk_cell BG.out 0
  have z3_1 := blk_cell BG.out 1
  have z3_2 := blk_cell BG.out 2
  have z3_3 := blk_cell BG.out 3
  have z3_4 := blk_cell BG.out 4
  have z3_5 := blk_cell BG.out 5
  have z3_6 := blk_cell BG.out 6
  simp only [List.getElem?_toArray, List.getElem?_cons_zero, List.getElem?_cons_succ] at z2_0 z2_1 z2_2 z2_3 z2_4 z2_5 z2_6 z3_0 z3_1 z3_2 z3_3 z3_4 z3_5 z3_6
  go_wp2_with fail
  refine (eqOp_ok 3000000 w w _ _ _ _ K n G2 G2c p F G4 G4c q 0 0 W2 W2c W4 W4c _ (DG.out) (DW.out) (by omega) (by omega) (by omega)).mono ?_
  rintro e w9 ⟨rfl, hb⟩
  replace BW := Aside0.mk (blk_below BW.out hb)
  replace BG := Aside0.mk (blk_below BG.out hb)
  replace DW := Aside0.mk (DW.out.below hb)
  replace DG := Aside0.mk (DG.out.below hb)
  replace HB := Aside0.mk (below_step HB.out hb)
  have s9 := hb.size
  clear hb
  clear z2_l z2_0 z2_1 z2_2 z2_3 z2_4 z2_5 z2_6 z3_l z3_0 z3_1 z3_2 z3_3 z3_4 z3_5 z3_6
  have bw_ := blk_lt BW.out
  have bg_ := blk_lt BG.out
  have z4_l := blk_lt BG.out
  have z4_0 := blk_cell BG.out 0
  have z4_1 := blk_cell BG.out 1
  have z4_2 := blk_cell BG.out 2
  have z4_3 := blk_cell BG.out 3
  have z4_4 := blk_cell BG.out 4
  have z4_5 := blk_cell BG.out 5
  have z4_6 := blk_cell BG.out 6
  simp only [List.getElem?_toArray, List.getElem?_cons_zero, List.getElem?_cons_succ] at z4_0 z4_1 z4_2 z4_3 z4_4 z4_5 z4_6
  go_wp2_with fail
  refine (markOp_ok 3000000 1 w _ _ K n G2 G2c p F G4 G4c q 0 0 _ HB.out DG.out (by omega) (by omega) (by omega) (by omega)).mono ?_
  rintro e w10 ⟨rfl, hd, hb, hk⟩
  replace BW := Aside0.mk (blk_kept BW.out hk (by intro h; omega))
  replace BG := Aside0.mk (blk_kept BG.out hk (by intro h; omega))
  replace DW := Aside0.mk (DW.out.kept hk (by intro k h1 h2 h3; omega))
  replace HB := Aside0.mk hb
  have s10 := hk.1
  replace DG := Aside0.mk hd
  clear hb hk hd
  clear z4_l z4_0 z4_1 z4_2 z4_3 z4_4 z4_5 z4_6
  generalize hm3 : 1 + p.length + q.length = m3
  clear bw_ bg_
  have z5_l := blk_lt BG.out
  have z5_0 := blk_cell BG.out 0
  have z5_1 := blk_cell BG.out 1
  have z5_2 := blk_cell BG.out 2
  have z5_3 := blk_cell BG.out 3
  have z5_4 := blk_cell BG.out 4
  have z5_5 := blk_cell BG.out 5
  have z5_6 := blk_cell BG.out 6
  simp only [List.getElem?_toArray, List.getElem?_cons_zero, List.getElem?_cons_succ] at z5_0 z5_1 z5_2 z5_3 z5_4 z5_5 z5_6
  go_wp2_with fail
  refine (heldOp_ok 3000000 1 p.length q.length w _ _ K n G2 G2c F G4 G4c 0 0 _ DG.out (by omega) (by omega) (by omega) (by omega)).mono ?_
  rintro e w11 ⟨rfl, hb⟩
  replace BW := Aside0.mk (blk_below BW.out hb)
  replace BG := Aside0.mk (blk_below BG.out hb)
  replace DW := Aside0.mk (DW.out.below hb)
  replace DG := Aside0.mk (DG.out.below hb)
  replace HB := Aside0.mk (below_step HB.out hb)
  have s11 := hb.size
  clear hb
  clear z5_l z5_0 z5_1 z5_2 z5_3 z5_4 z5_5 z5_6
  rw [hm3]
  have hneg3 : decide ((m3 : Int) < 0) = false := decide_eq_false (by omega)
  go_wp2_with fail
  refine (toByteS_bk 3000000 w A c l _ HB.out (Kd.C_below R0.out HB.out) hc (by omega) (by omega)).mono ?_
  rintro e w12 ⟨T, tc, rfl, hd, hb⟩
  replace BW := Aside0.mk (blk_below BW.out hb)
  replace BG := Aside0.mk (blk_below BG.out hb)
  replace DW := Aside0.mk (DW.out.below hb)
  replace DG := Aside0.mk (DG.out.below hb)
  replace HB := Aside0.mk (below_step HB.out hb)
  have s12 := hb.size
  clear hb
  (try simp only [World.size_alloc] at hd)
  have DT := Aside0.mk hd
  clear hd
  go_wp2_with fail
  refine (IM.out T tc _ HB.out DT.out.reads.1 DT.out.reads.2).mono ?_
  rintro e w13 ⟨H2, H2c, H4, H4c, rfl, hd, hb⟩
  clear DT
  replace BW := Aside0.mk (blk_below BW.out hb)
  replace BG := Aside0.mk (blk_below BG.out hb)
  replace DW := Aside0.mk (DW.out.below hb)
  replace DG := Aside0.mk (DG.out.below hb)
  replace HB := Aside0.mk (below_step HB.out hb)
  have s13 := hb.size
  clear hb
  (try simp only [World.size_alloc] at hd)
  have DH := Aside0.mk hd
  clear hd
  have z6_l := blk_lt BW.out
  have z6_0 := blk_cell BW.out 0
  have z6_1 := blk_cell BW.out 1
  have z6_2 := blk_cell BW.out 2
  have z6_3 := blk_cell BW.out 3
  have z6_4 := blk_cell BW.out 4
  have z6_5 := blk_cell BW.out 5
  have z6_6 := blk_cell BW.out 6
  simp only [List.getElem?_toArray, List.getElem?_cons_zero, List.getElem?_cons_succ] at z6_0 z6_1 z6_2 z6_3 z6_4 z6_5 z6_6
  go_wp2_with fail
  have hba := below_alloc (Below.refl w13.heap.size w13) (.cells #[.int .i64 K, .int .u64 n, (.slice H2 p.length H2c), .int .i64 F, (.slice H4 q.length H4c), .int .u64 0, .int .u64 0] 28)
  have NB := Aside0.mk (blk_new w13 (.cells #[.int .i64 K, .int .u64 n, (.slice H2 p.length H2c), .int .i64 F, (.slice H4 q.length H4c), .int .u64 0, .int .u64 0] 28))
  refine (eqOp_ok 3000000 w w _ _ _ _ K n H2 H2c p F H4 H4c q 0 0 W2 W2c W4 W4c _ (DH.out.below hba) (DW.out.below hba) (by omega) (by omega) (by omega)).mono ?_
  rintro e w14 ⟨rfl, hb⟩
  replace BW := Aside0.mk (blk_below (blk_below BW.out hba) hb)
  replace BG := Aside0.mk (blk_below (blk_below BG.out hba) hb)
  replace DW := Aside0.mk ((DW.out.below hba).below hb)
  replace DG := Aside0.mk ((DG.out.below hba).below hb)
  replace DH := Aside0.mk ((DH.out.below hba).below hb)
  replace HB := Aside0.mk (below_step (below_step HB.out hba) hb)
  have BH := Aside0.mk (blk_below NB.out hb)
  clear NB
  have s14 := hb.size
  simp only [World.size_alloc] at s14
  clear hb hba
  clear z6_l z6_0 z6_1 z6_2 z6_3 z6_4 z6_5 z6_6
  have z7_l := blk_lt BG.out
  have z7_0 := blk_cell BG.out 0
  have z7_1 := blk_cell BG.out 1
  have z7_2 := blk_cell BG.out 2
  have z7_3 := blk_cell BG.out 3
  have z7_4 := blk_cell BG.out 4
  have z7_5 := blk_cell BG.out 5
  have z7_6 := blk_cell BG.out 6
  simp only [List.getElem?_toArray, List.getElem?_cons_zero, List.getElem?_cons_succ] at z7_0 z7_1 z7_2 z7_3 z7_4 z7_5 z7_6
  go_wp2_with fail
  refine (heldOp_ok 3000000 1 p.length q.length w _ _ K n G2 G2c F G4 G4c 0 0 _ DG.out (by omega) (by omega) (by omega) (by omega)).mono ?_
  rintro e w15 ⟨rfl, hb⟩
  replace BW := Aside0.mk (blk_below BW.out hb)
  replace BG := Aside0.mk (blk_below BG.out hb)
  replace BH := Aside0.mk (blk_below BH.out hb)
  replace DW := Aside0.mk (DW.out.below hb)
  replace DG := Aside0.mk (DG.out.below hb)
  replace DH := Aside0.mk (DH.out.below hb)
  replace HB := Aside0.mk (below_step HB.out hb)
  have s15 := hb.size
  clear hb
  clear z7_l z7_0 z7_1 z7_2 z7_3 z7_4 z7_5 z7_6
  rw [hm3]
  go_wp2_with fail
  go_ret
  exact ⟨rfl, HB.out⟩
end Go.Proofs.Ytbgbocdohadhoaa.Print
namespace Go.Proofs.Ytbgbocdohadhoaa.fnExactDecodeOp
open Go.ChangeShapes Go.WideShapes Go.ChangeAt Go.RowKit Print
open Go.ChangeMaps (open_string shut_string)
open Go.Proofs.YtbgbocdohadhoaaW.PrintWords Go.Proofs.YtbgbocdohadhoaaW.PrintLast Go.Proofs.YtbgbocdohadhoaaW.PrintMore
set_option linter.unusedVariables false
theorem own : ownKnob Try.prog.godebug = none := by kernel_rfl
theorem laidOut : laidOutB Try.prog = true := by kernel_rfl
set_option maxRecDepth 100000 in
theorem lifted (os : Os) (started : os.Started) (H : Type) (enc : TypeId × Value → H) :
    ReturnsInHanded {} Try.checked os 4 .any (Rows.fnExactDecodeOpSpec.pre6 enc Try.prog Try.f4 Rows.fnExactDecodeOpRow.domain false) (Rows.fnExactDecodeOpSpec.post enc Try.prog Try.f4 false true false false) := by
  refine returnsInHanded_of_change_sized (C := Try.checked) own started (by kernel_rfl) Try.func4
    (ChangeSpec.witness6 (enc := enc) (C := Try.checked) false ⟨#[], #[.slice none 0 0], []⟩ 8 (by kernel_rfl) (by kernel_rfl) (by kernel_rfl) (by kernel_rfl)) ?_
  intro W base args ds gs before hval0 hW hcnd hsz0 _
  have hsz : (DataW.weightsEach Try.prog (Try.f4.params.toList ++ Rows.fnExactDecodeOpSpec.plain.varTypes Try.prog) (ds ++ gs)).all (· ≤ reachBytes) = true := hsz0
  have hval : ∀ (j : Nat) t v, Try.f4.params[j]? = some t → args[j]? = some v → Value.okWide Try.prog W .any base t v := hval0
  have hW' := hW
  obtain ⟨p, q, hA0, hV, rfl, hfz, hnd⟩ := hW
  have hA : DataW.TrodAll enc Try.prog W 0 (fun _ => true) true Try.f4.params.toList args.toList ds p := hA0
  rw [Try.params4] at hA hval hsz
  obtain ⟨v0, vs0, d0, ds0, p0, q0, hargs, rfl, rfl, h0, r0⟩ := trodAll_cons hA
  obtain ⟨rfl, rfl, rfl⟩ := trodAll_nil r0
  obtain rfl : args = #[v0] := by cases args; simp_all
  obtain ⟨rfl, rfl⟩ := trodVars_none hV
  have k0 := h0
  have lt0 : ∀ x ∈ p0, x.block < W.heap.size := by obtain ⟨m, hm⟩ := k0; exact DataW.trod_lt m _ _ _ hm
  obtain ⟨A0, c0, l0, rfl, hd0, hc0, g0, w0⟩ := bytes_open hsz (j := 0) rfl rfl (hval 0 23 v0 rfl rfl) h0
  clear hA0 hval0 hsz0 hsz
  refine (FnExactDecodeOp_walk A0 c0 l0 W hd0 hc0 g0 (byte_range w0)).mono fun e W' ⟨he, bel⟩ => ?_
  subst he
  exact ⟨_, rfl, _, _, _, [], _, [], hW', trodAll_mk1 (shut_bool Try.underlying4 _), (trodAll_cons_mk (Below.trod laidOut (by kernel_rfl) (of_decide_eq_true (by kernel_rfl)) k0 bel lt0) trodAll_mk0), rfl, bel.frame _, fun h => by cases h⟩
theorem over : Rows.fnExactDecodeOpRow.holds Try.pinned (OpenSpec.ofChange Rows.fnExactDecodeOpSpec) :=
  OpenClaim.holds_of_wide 4 Try.f4 rfl rfl rfl rfl rfl rfl rfl ⟨rfl, rfl, rfl, rfl, rfl⟩ rfl rfl rfl rfl rfl (by kernel_rfl) Try.func4 (by kernel_rfl)
    (of_decide_eq_true (by kernel_rfl)) (by unfold Func.isWrapper; first | (rw [if_pos (by decide +kernel)]; kernel_rfl) | (rw [if_neg (by decide +kernel)]; exact ⟨rfl, rfl⟩))
    (fun os started H enc _ => lifted os started H enc)
theorem proved : Rows.FnExactDecodeOpSaid := over
end Go.Proofs.Ytbgbocdohadhoaa.fnExactDecodeOp
namespace Go.Proofs.Ytbgbocdohadhoaa
theorem fnExactDecodeOp_holds : Rows.FnExactDecodeOpSaid := fnExactDecodeOp.proved
end Go.Proofs.Ytbgbocdohadhoaa
