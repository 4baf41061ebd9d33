/- Texts of this session, joined by its own program. -/
import Derived.Test.YtbapokpkgonjkaaCDSnap5
import Derived.Test.YtbapokpkgonjkaaCDSnap0
import Derived.WalkKit
import Derived.Below
/- The law FnExactDecodeSnapshot: the walk, with its plain part. -/
namespace Go.Proofs.Ytbapokpkgonjkaa.Print
open Go.RowKit Go.Proofs.YtbapokpkgonjkaaW.PrintWords Go.Proofs.YtbapokpkgonjkaaW.PrintLast Go.Proofs.YtbapokpkgonjkaaW.PrintMore
set_option linter.unusedVariables false
set_option linter.unusedSimpArgs false

theorem decF_length (l : List Int) : (decF l).2.1.length ≤ l.length := by
  unfold decF
  split
  · simp
  · split
    · simp; omega
    · simp
theorem BK.of3 {w0 w W : World} {ok : Nat → Prop} {v : Value} {l : List Int} (h : Kd.R (Kd.int .u8) 5 W w.heap.size ok v l) (hB : Below w0.heap.size w0 w) : ∃ A c, v = .slice A l.length c ∧ BK w0 W w.heap.size W.heap.size A c l := by
  obtain ⟨A, c, rfl⟩ := Kd.R_slice h
  exact ⟨A, c, rfl, BK.of h hB⟩
set_option maxHeartbeats 2000000 in
set_option maxRecDepth 100000 in
theorem FnExactDecodeSnapshot_walk (A : Option Addr) (c : Nat) (l : List Int) (w : World) (h0 : Kd.C (Kd.int .u8) w A l.length l) (hc : l.length ≤ c) (g : l.length ≤ 140737488351232) (hbr : ∀ x ∈ l, 0 ≤ x ∧ x < 256) :
    Calls Try.prog 6 #[.slice A l.length c] w fun e w' => e = .returned (.bool true) ∧ Below w.heap.size w w' := by
  have R0 := Aside0.mk h0
  have BR := Aside0.mk hbr
  clear h0 hbr
  go_enter Try.func6, Try.ntmps6
  by_cases hbl : l.length ≤ 1048576
  case neg =>
    go_wp2_with fail
    go_ret
    exact ⟨rfl, by repeat (first | exact Below.refl _ _ | apply below_alloc)⟩
  have SP := fun A c w h0 hc => spec_DecodeSnapshot.calls A c l w h0 hc BR.out (by omega)
  have IM := fun A c w h0 hc => impl_DecodeSnapshot.calls A c l w h0 hc BR.out (by omega)
  have hlr := decF_length l
  generalize decF l = q at SP IM hlr
  obtain ⟨s, r, d⟩ := q
  simp only at SP IM hlr
  have SP := Aside0.mk SP
  have IM := Aside0.mk IM
  have HB := Aside0.mk (Below.refl w.heap.size w)
  go_wp2_with fail
  refine (toByteS_bk 3000000 w A c l _ HB.out (Kd.C_below R0.out HB.out) hc (by omega) (by omega)).mono ?_
  rintro e w1 ⟨T, tc, rfl, hd, hb⟩
  replace HB := Aside0.mk (below_step HB.out hb)
  have s1 := hb.size
  clear hb
  (try simp only [World.size_alloc] at hd)
  have DT := Aside0.mk hd
  clear hd
  go_wp2_with fail
  refine (SP.out T tc _ DT.out.reads.1 DT.out.reads.2).mono ?_
  rintro e w2 ⟨v0, rfl, o0, hb⟩
  obtain ⟨W0, W0c, rfl, hd⟩ := BK.of3 o0 HB.out
  clear o0
  clear DT
  replace HB := Aside0.mk (below_step HB.out hb)
  have s2 := hb.size
  clear hb
  (try simp only [World.size_alloc] at hd)
  have DW := Aside0.mk hd
  clear hd
  go_wp2_with fail
  refine (toByteS_bk 3000000 w A c l _ HB.out (Kd.C_below R0.out HB.out) hc (by omega) (by omega)).mono ?_
  rintro e w3 ⟨X0, xc, rfl, hd, hb⟩
  replace DW := Aside0.mk (DW.out.below hb)
  replace HB := Aside0.mk (below_step HB.out hb)
  have s3 := hb.size
  clear hb
  (try simp only [World.size_alloc] at hd)
  have DX := Aside0.mk hd
  clear hd
  go_wp2_with fail
  refine (IM.out X0 xc _ DX.out.reads.1 DX.out.reads.2).mono ?_
  rintro e w4 ⟨v0, rfl, o0, hb⟩
  obtain ⟨G0, G0c, rfl, hd⟩ := BK.of3 o0 HB.out
  clear o0
  replace DW := Aside0.mk (DW.out.below hb)
  replace DX := Aside0.mk (DX.out.below hb)
  replace HB := Aside0.mk (below_step HB.out hb)
  have s4 := hb.size
  clear hb
  (try simp only [World.size_alloc] at hd)
  have DG := Aside0.mk hd
  clear hd
  go_wp2_with fail
  refine (eqByteS_bk 3000000 w w _ _ _ _ G0 G0c r W0 W0c _ DG.out DW.out (by omega) (by omega)).mono ?_
  rintro e w5 ⟨rfl, hb⟩
  replace DW := Aside0.mk (DW.out.below hb)
  replace DX := Aside0.mk (DX.out.below hb)
  replace DG := Aside0.mk (DG.out.below hb)
  replace HB := Aside0.mk (below_step HB.out hb)
  have s5 := hb.size
  clear hb
  go_wp2_with fail
  refine (toByteS_bk 3000000 w A c l _ HB.out (Kd.C_below R0.out HB.out) hc (by omega) (by omega)).mono ?_
  rintro e w6 ⟨V0, vc, rfl, hd, hb⟩
  replace DW := Aside0.mk (DW.out.below hb)
  replace DX := Aside0.mk (DX.out.below hb)
  replace DG := Aside0.mk (DG.out.below hb)
  replace HB := Aside0.mk (below_step HB.out hb)
  have s6 := hb.size
  clear hb
  (try simp only [World.size_alloc] at hd)
  have DV := Aside0.mk hd
  clear hd
  go_wp2_with fail
  refine (eqByteS_bk 3000000 w w _ _ _ _ X0 xc l V0 vc _ DX.out DV.out (by omega) (by omega)).mono ?_
  rintro e w7 ⟨rfl, hb⟩
  clear DV
  replace DW := Aside0.mk (DW.out.below hb)
  replace DX := Aside0.mk (DX.out.below hb)
  replace DG := Aside0.mk (DG.out.below hb)
  replace HB := Aside0.mk (below_step HB.out hb)
  have s7 := hb.size
  clear hb
  go_wp2_with fail
  refine (markByteS_bk 3000000 1 w _ _ X0 xc l _ HB.out DX.out (by omega) (by omega) (by omega)).mono ?_
  rintro e w8 ⟨rfl, hd, hb, hk⟩
  replace DW := Aside0.mk (DW.out.kept hk (by intro k h1 h2 h3; omega))
  replace DG := Aside0.mk (DG.out.kept hk (by intro k h1 h2 h3; omega))
  replace HB := Aside0.mk hb
  have s8 := hk.1
  replace DX := Aside0.mk hd
  clear hb hk hd
  generalize hm2 : 1 + l.length = m2
  have hneg : decide ((m2 : Int) < 0) = false := decide_eq_false (by omega)
  clear DX
  go_wp2_with fail
  refine (eqByteS_bk 3000000 w w _ _ _ _ G0 G0c r W0 W0c _ DG.out DW.out (by omega) (by omega)).mono ?_
  rintro e w9 ⟨rfl, hb⟩
  replace DW := Aside0.mk (DW.out.below hb)
  replace DG := Aside0.mk (DG.out.below hb)
  replace HB := Aside0.mk (below_step HB.out hb)
  have s9 := hb.size
  clear hb
  go_wp2_with fail
  refine (markByteS_bk 3000000 1 w _ _ G0 G0c r _ HB.out DG.out (by omega) (by omega) (by omega)).mono ?_
  rintro e w10 ⟨rfl, hd, hb, hk⟩
  replace DW := Aside0.mk (DW.out.kept hk (by intro k h1 h2 h3; omega))
  replace HB := Aside0.mk hb
  have s10 := hk.1
  replace DG := Aside0.mk hd
  clear hb hk hd
  generalize hm3 : 1 + r.length = m3
  go_wp2_with fail
  refine (heldByteS_bk 3000000 1 r.length w _ _ G0 G0c _ DG.out (by omega) (by omega) (by omega)).mono ?_
  rintro e w11 ⟨rfl, hb⟩
  replace DW := Aside0.mk (DW.out.below hb)
  replace DG := Aside0.mk (DG.out.below hb)
  replace HB := Aside0.mk (below_step HB.out hb)
  have s11 := hb.size
  clear hb
  rw [hm3]
  have hneg3 : decide ((m3 : Int) < 0) = false := decide_eq_false (by omega)
  go_wp2_with fail
  refine (toByteS_bk 3000000 w A c l _ HB.out (Kd.C_below R0.out HB.out) hc (by omega) (by omega)).mono ?_
  rintro e w12 ⟨T, tc, rfl, hd, hb⟩
  replace DW := Aside0.mk (DW.out.below hb)
  replace DG := Aside0.mk (DG.out.below hb)
  replace HB := Aside0.mk (below_step HB.out hb)
  have s12 := hb.size
  clear hb
  (try simp only [World.size_alloc] at hd)
  have DT := Aside0.mk hd
  clear hd
  go_wp2_with fail
  refine (IM.out T tc _ DT.out.reads.1 DT.out.reads.2).mono ?_
  rintro e w13 ⟨v0, rfl, o0, hb⟩
  obtain ⟨H0, H0c, rfl, hd⟩ := BK.of3 o0 HB.out
  clear o0
  clear DT
  replace DW := Aside0.mk (DW.out.below hb)
  replace DG := Aside0.mk (DG.out.below hb)
  replace HB := Aside0.mk (below_step HB.out hb)
  have s13 := hb.size
  clear hb
  (try simp only [World.size_alloc] at hd)
  have DH := Aside0.mk hd
  clear hd
  go_wp2_with fail
  refine (eqByteS_bk 3000000 w w _ _ _ _ H0 H0c r W0 W0c _ DH.out DW.out (by omega) (by omega)).mono ?_
  rintro e w14 ⟨rfl, hb⟩
  replace DW := Aside0.mk (DW.out.below hb)
  replace DG := Aside0.mk (DG.out.below hb)
  replace DH := Aside0.mk (DH.out.below hb)
  replace HB := Aside0.mk (below_step HB.out hb)
  have s14 := hb.size
  clear hb
  go_wp2_with fail
  refine (heldByteS_bk 3000000 1 r.length w _ _ G0 G0c _ DG.out (by omega) (by omega) (by omega)).mono ?_
  rintro e w15 ⟨rfl, hb⟩
  replace DW := Aside0.mk (DW.out.below hb)
  replace DG := Aside0.mk (DG.out.below hb)
  replace DH := Aside0.mk (DH.out.below hb)
  replace HB := Aside0.mk (below_step HB.out hb)
  have s15 := hb.size
  clear hb
  rw [hm3]
  go_wp2_with fail
  go_ret
  exact ⟨rfl, HB.out⟩
end Go.Proofs.Ytbapokpkgonjkaa.Print

/- The row of the law FnExactDecodeSnapshot. No condition. -/
namespace Go.Proofs.Ytbapokpkgonjkaa.fnExactDecodeSnapshot
open Go.ChangeShapes Go.WideShapes Go.ChangeAt Go.RowKit Print
open Go.ChangeMaps (open_string shut_string)
open Go.Proofs.YtbapokpkgonjkaaW.PrintWords Go.Proofs.YtbapokpkgonjkaaW.PrintLast Go.Proofs.YtbapokpkgonjkaaW.PrintMore
set_option linter.unusedVariables false
theorem own : ownKnob Try.prog.godebug = none := by kernel_rfl
theorem laidOut : laidOutB Try.prog = true := by kernel_rfl
set_option maxRecDepth 100000 in
theorem lifted (os : Os) (started : os.Started) (H : Type) (enc : TypeId × Value → H) :
    ReturnsInHanded {} Try.checked os 6 .any (Rows.fnExactDecodeSnapshotSpec.pre6 enc Try.prog Try.f6 Rows.fnExactDecodeSnapshotRow.domain false) (Rows.fnExactDecodeSnapshotSpec.post enc Try.prog Try.f6 false true false false) := by
  refine returnsInHanded_of_change_sized (C := Try.checked) own started (by kernel_rfl) Try.func6
    (ChangeSpec.witness6 (enc := enc) (C := Try.checked) false ⟨#[], #[.slice none 0 0], []⟩ 8 (by kernel_rfl) (by kernel_rfl) (by kernel_rfl) (by kernel_rfl)) ?_
  intro W base args ds gs before hval0 hW hcnd hsz0 _
  have hsz : (DataW.weightsEach Try.prog (Try.f6.params.toList ++ Rows.fnExactDecodeSnapshotSpec.plain.varTypes Try.prog) (ds ++ gs)).all (· ≤ reachBytes) = true := hsz0
  have hval : ∀ (j : Nat) t v, Try.f6.params[j]? = some t → args[j]? = some v → Value.okWide Try.prog W .any base t v := hval0
  have hW' := hW
  obtain ⟨p, q, hA0, hV, rfl, hfz, hnd⟩ := hW
  have hA : DataW.TrodAll enc Try.prog W 0 (fun _ => true) true Try.f6.params.toList args.toList ds p := hA0
  rw [Try.params6] at hA hval hsz
  obtain ⟨v0, vs0, d0, ds0, p0, q0, hargs, rfl, rfl, h0, r0⟩ := trodAll_cons hA
  obtain ⟨rfl, rfl, rfl⟩ := trodAll_nil r0
  obtain rfl : args = #[v0] := by cases args; simp_all
  obtain ⟨rfl, rfl⟩ := trodVars_none hV
  have k0 := h0
  have lt0 : ∀ x ∈ p0, x.block < W.heap.size := by obtain ⟨m, hm⟩ := k0; exact DataW.trod_lt m _ _ _ hm
  obtain ⟨A0, c0, l0, rfl, hd0, hc0, g0, w0⟩ := bytes_open hsz (j := 0) rfl rfl (hval 0 22 v0 rfl rfl) h0
  clear hA0 hval0 hsz0 hsz
  refine (FnExactDecodeSnapshot_walk A0 c0 l0 W hd0 hc0 g0 (byte_range w0)).mono fun e W' ⟨he, bel⟩ => ?_
  subst he
  exact ⟨_, rfl, _, _, _, [], _, [], hW', trodAll_mk1 (shut_bool Try.underlying4 _), (trodAll_cons_mk (Below.trod laidOut (by kernel_rfl) (of_decide_eq_true (by kernel_rfl)) k0 bel lt0) trodAll_mk0), rfl, bel.frame _, fun h => by cases h⟩
theorem over : Rows.fnExactDecodeSnapshotRow.holds Try.pinned (OpenSpec.ofChange Rows.fnExactDecodeSnapshotSpec) :=
  OpenClaim.holds_of_wide 6 Try.f6 rfl rfl rfl rfl rfl rfl rfl ⟨rfl, rfl, rfl, rfl, rfl⟩ rfl rfl rfl rfl rfl (by kernel_rfl) Try.func6 (by kernel_rfl)
    (of_decide_eq_true (by kernel_rfl)) (by unfold Func.isWrapper; first | (rw [if_pos (by decide +kernel)]; kernel_rfl) | (rw [if_neg (by decide +kernel)]; exact ⟨rfl, rfl⟩))
    (fun os started H enc _ => lifted os started H enc)
theorem proved : Rows.FnExactDecodeSnapshotSaid := over
#print axioms proved
end Go.Proofs.Ytbapokpkgonjkaa.fnExactDecodeSnapshot
namespace Go.Proofs.Ytbapokpkgonjkaa
/-- The row, under a short name, for the claim. -/
theorem fnExactDecodeSnapshot_holds : Rows.FnExactDecodeSnapshotSaid := fnExactDecodeSnapshot.proved
end Go.Proofs.Ytbapokpkgonjkaa
