/- Texts of this session, joined by its own program. -/
import Derived.Test.YtbgbocdohadhoaaDoorCards
import Derived.Test.YtbgbocdohadhoaaDoorTie
import Derived.WalkKit
import Derived.Below
import Derived.LaidMore
import Derived.Lay
import Derived.SevenTiedAt
import Derived.Stop.Joined
import Derived.Test.YtbgbocdohadhoaaDoorCVS9
namespace Go.Proofs.YtbgbocdohadhoaaDoor.Print
open Go Go.RowKit Go.Proofs.YtbgbocdohadhoaaDoorW.PrintWords Go.Proofs.YtbgbocdohadhoaaDoorW.PrintLast Go.Proofs.YtbgbocdohadhoaaDoorW.PrintMore
set_option linter.unusedVariables false
set_option linter.unusedSimpArgs false
set_option maxHeartbeats 8000000 in
set_option maxRecDepth 100000 in
theorem lawVS_walk (e g n t : Int) (As : Option Addr) (cs : Nat) (xs : List SeL) (An : Option Addr) (cn : Nat) (ns : List NoL) (w : World) (h1 : Kd.C kSeL w As xs.length xs) (hc1 : xs.length ≤ cs) (h2 : Kd.C kNoL w An ns.length ns) (hc2 : ns.length ≤ cn)
  (hb1 : ∀ x ∈ xs, ∀ y ∈ x.f2, ∀ z ∈ y.f1, 0 ≤ z ∧ z < 256) (hb2 : ∀ x ∈ ns, ∀ z ∈ x.f0, 0 ≤ z ∧ z < 256)
  (IMPL : SmS (xs.map toSe) (ns.map toNo) → ∀ (Bs : Option Addr) (ds : Nat) (Bn : Option Addr) (dn : Nat) (W : World), Kd.C kSe W Bs (xs.map toSe).length (xs.map toSe) → (xs.map toSe).length ≤ ds → Kd.C kNo W Bn (ns.map toNo).length (ns.map toNo) → (ns.map toNo).length ≤ dn →
   Calls Tryd.prog 16 #[.agg #[.int .u64 e, .int .u64 g, .int .u64 n, .int .i64 t, .slice Bs (xs.map toSe).length ds, .slice Bn (ns.map toNo).length dn]] W fun r w' => r = .returned (.bool (validI e g n t (xs.map toSe) (ns.map toNo))) ∧ Below W.heap.size W w') :
  Calls Tryd.prog 4 #[.agg #[.int .u64 e, .int .u64 g, .int .u64 n, .int .i64 t, .slice As xs.length cs, .slice An ns.length cn]] w fun r w' => r = .returned (.bool true) ∧ Below w.heap.size w w' := by
 have SZ := Aside0.mk (fun (W : World) (hW : Below w.heap.size w W) => szState_w e g n t xs ns As cs An cn 1048576 (by decide) (by decide) W (Kd.C_below h1 hW) hc1 (Kd.C_below h2 hW) hc2)
 have HBY := Aside0.mk (And.intro hb1 hb2)
 have H1 := Aside0.mk (And.intro h1 hc1)
 have H2 := Aside0.mk (And.intro h2 hc2)
 have HI := Aside0.mk IMPL
 clear h1 hc1 h2 hc2 hb1 hb2 IMPL
 go_enter Tryd.func4, Tryd.ntmps4
 go_wp2_with fail
 have b0 := blk_new w (.cells #[.int .u64 e, .int .u64 g, .int .u64 n, .int .i64 t, .slice As xs.length cs, .slice An ns.length cn] 30)
 have hB := below_alloc (Below.refl w.heap.size w) (.cells #[.int .u64 e, .int .u64 g, .int .u64 n, .int .i64 t, .slice As xs.length cs, .slice An ns.length cn] 30)
 generalize w.alloc (.cells #[.int .u64 e, .int .u64 g, .int .u64 n, .int .i64 t, .slice As xs.length cs, .slice An ns.length cn] 30) = W0 at b0 hB ⊢
 have BS := Aside0.mk b0
 have HB := Aside0.mk hB
 clear b0 hB
 refine (SZ.out _ HB.out).mono ?_
 rintro r W1 ⟨⟨r0, rfl, hcase⟩, hb⟩
 have HCA := Aside0.mk hcase
 replace BS := Aside0.mk (blk_below BS.out hb)
 replace HB := Aside0.mk (below_step HB.out hb)
 clear hb SZ hcase
 by_cases hr : r0 < 0
 ·
  have d0 : decide (r0 < 0) = true := decide_eq_true hr
  go_wp2_with fail
  go_ret
  exact ⟨rfl, HB.out⟩
 ·
  have d0 : decide (r0 < 0) = false := decide_eq_false hr
  obtain ⟨hq1, hq2, hq3, hq4⟩ : (xs.length ≤ 2097152 ∧ SmSe xs) ∧ ns.length ≤ 2097152 ∧ SmNo ns ∧ True := by
   rcases HCA.out with h | ⟨_, a⟩
   ·
    exact absurd h hr
   ·
    exact ⟨⟨by omega, smSe_of (by omega)⟩, by omega, smNo_of (by omega), trivial⟩
  have HQ := Aside0.mk (And.intro hq1 (And.intro hq2 hq3))
  have hsm : SmS (xs.map toSe) (ns.map toNo) := by
   refine ⟨by rw [List.length_map]; exact hq1.1, by rw [List.length_map]; exact hq2, ?_, ?_⟩
   ·
    intro x hx
    obtain ⟨y, hy, rfl⟩ := List.mem_map.1 hx
    refine ⟨by unfold toSe; simp only [List.length_map]; exact (hq1.2 y hy).1, fun z hz => ?_⟩
    unfold toSe at hz
    obtain ⟨v, hv, rfl⟩ := List.mem_map.1 hz
    exact ⟨(hq1.2 y hy).2 v hv, HBY.out.1 y hy v hv⟩
   ·
    intro x hx
    obtain ⟨y, hy, rfl⟩ := List.mem_map.1 hx
    have := hq3 y hy
    exact ⟨⟨⟨this.1.1, HBY.out.2 y hy⟩, this.1.2⟩, this.2.1, this.2.2⟩
  have HS := Aside0.mk hsm
  have EQ := Aside0.mk (eqB_of hsm)
  have TS := Aside0.mk (fun (W : World) (hW : Below w.heap.size w W) => toState_ok w e g n t As cs xs An cn ns W hW (Kd.C_below H1.out.1 hW) H1.out.2 hq1.1 hq1.2 (Kd.C_below H2.out.1 hW) H2.out.2 hq2 hq3)
  have SV := Aside0.mk (fun (Bs : Option Addr) (ds : Nat) (Bn : Option Addr) (dn : Nat) (W : World) (k1 : Kd.C kSe W Bs (xs.map toSe).length (xs.map toSe)) (k2 : (xs.map toSe).length ≤ ds) (k3 : Kd.C kNo W Bn (ns.map toNo).length (ns.map toNo)) (k4 : (ns.map toNo).length ≤ dn) => spec_ValidState.calls 10000000 e g n t Bs ds (xs.map toSe) Bn dn (ns.map toNo) (validB e g n t (xs.map toSe) (ns.map toNo)) W k1 k2 k3 k4 (validState_f e g n t _ _ hsm))
  have IV := Aside0.mk (HI.out hsm)
  have HVE := Aside0.mk (valid_eq e g n t (xs.map toSe) (ns.map toNo))
  obtain ⟨X, hX⟩ : ∃ X, xs.map toSe = X := ⟨_, rfl⟩
  obtain ⟨N, hN⟩ : ∃ N, ns.map toNo = N := ⟨_, rfl⟩
  simp only [hX, hN] at TS SV IV HVE EQ
  clear hq1 hq2 hq3 hq4 hsm HCA HI hr HS hX hN
  have s0 := blk_cell BS.out 0
  have s1 := blk_cell BS.out 1
  have s2 := blk_cell BS.out 2
  have s3 := blk_cell BS.out 3
  have s4 := blk_cell BS.out 4
  have s5 := blk_cell BS.out 5
  simp only [List.getElem?_toArray, List.getElem?_cons_zero, List.getElem?_cons_succ] at s0 s1 s2 s3 s4 s5
  go_wp2_with fail
  refine (TS.out _ HB.out).mono ?_
  rintro r W2 ⟨Bs, ds, Bn, dn, rfl, hK, hb⟩
  have hR := hK.reads
  clear s0 s1 s2 s3 s4 s5
  replace BS := Aside0.mk (blk_below BS.out hb)
  replace HB := Aside0.mk (below_step HB.out hb)
  have HR := Aside0.mk hR
  clear hb hK hR
  go_wp2_with fail
  refine (SV.out Bs ds Bn dn _ HR.out.1.1 HR.out.1.2 HR.out.2.1 HR.out.2.2).mono ?_
  rintro r W3 ⟨rfl, hb⟩
  replace BS := Aside0.mk (blk_below BS.out hb)
  replace HB := Aside0.mk (below_step HB.out hb)
  clear hb HR
  have s0 := blk_cell BS.out 0
  have s1 := blk_cell BS.out 1
  have s2 := blk_cell BS.out 2
  have s3 := blk_cell BS.out 3
  have s4 := blk_cell BS.out 4
  have s5 := blk_cell BS.out 5
  simp only [List.getElem?_toArray, List.getElem?_cons_zero, List.getElem?_cons_succ] at s0 s1 s2 s3 s4 s5
  go_wp2_with fail
  refine (TS.out _ HB.out).mono ?_
  rintro r W4 ⟨Bs, ds, Bn, dn, rfl, hK, hb⟩
  have hR := hK.reads
  clear s0 s1 s2 s3 s4 s5
  replace BS := Aside0.mk (blk_below BS.out hb)
  replace HB := Aside0.mk (below_step HB.out hb)
  clear hb hK
  go_wp2_with fail
  have b1 := blk_new W4 (.cells #[.int .u64 e, .int .u64 g, .int .u64 n, .int .i64 t, .slice Bs X.length ds, .slice Bn N.length dn] 36)
  have hb4 := below_alloc (Below.refl W4.heap.size W4) (.cells #[.int .u64 e, .int .u64 g, .int .u64 n, .int .i64 t, .slice Bs X.length ds, .slice Bn N.length dn] 36)
  have hB := below_alloc HB.out (.cells #[.int .u64 e, .int .u64 g, .int .u64 n, .int .i64 t, .slice Bs X.length ds, .slice Bn N.length dn] 36)
  have bs := blk_below BS.out hb4
  have HR := Aside0.mk (And.intro (And.intro (Kd.C_below hR.1.1 hb4) hR.1.2) (And.intro (Kd.C_below hR.2.1 hb4) hR.2.2))
  clear hR
  generalize W4.heap.size = g4 at b1 ⊢
  generalize W4.alloc (.cells #[.int .u64 e, .int .u64 g, .int .u64 n, .int .i64 t, .slice Bs X.length ds, .slice Bn N.length dn] 36) = W5 at b1 hB bs HR ⊢
  replace BS := Aside0.mk bs
  replace HB := Aside0.mk hB
  have BX := Aside0.mk b1
  clear b1 hb4 hB bs
  refine (IV.out Bs ds Bn dn _ HR.out.1.1 HR.out.1.2 HR.out.2.1 HR.out.2.2).mono ?_
  rintro r W6 ⟨rfl, hb⟩
  rw [HVE.out]
  replace BS := Aside0.mk (blk_below BS.out hb)
  replace BX := Aside0.mk (blk_below BX.out hb)
  replace HB := Aside0.mk (below_step HB.out hb)
  replace HR := Aside0.mk (And.intro (And.intro (Kd.C_below HR.out.1.1 hb) HR.out.1.2) (And.intro (Kd.C_below HR.out.2.1 hb) HR.out.2.2))
  clear hb
  obtain ⟨vb, hvb⟩ : ∃ vb, validB e g n t X N = vb := ⟨_, rfl⟩
  rw [hvb]
  clear hvb
  have s0 := blk_cell BS.out 0
  have s1 := blk_cell BS.out 1
  have s2 := blk_cell BS.out 2
  have s3 := blk_cell BS.out 3
  have s4 := blk_cell BS.out 4
  have s5 := blk_cell BS.out 5
  simp only [List.getElem?_toArray, List.getElem?_cons_zero, List.getElem?_cons_succ] at s0 s1 s2 s3 s4 s5
  have x0 := blk_cell BX.out 0
  have x1 := blk_cell BX.out 1
  have x2 := blk_cell BX.out 2
  have x3 := blk_cell BX.out 3
  have x4 := blk_cell BX.out 4
  have x5 := blk_cell BX.out 5
  simp only [List.getElem?_toArray, List.getElem?_cons_zero, List.getElem?_cons_succ] at x0 x1 x2 x3 x4 x5
  cases vb <;> go_wp2_with fail
  all_goals
   (first | go_region_held3 (fun w' => w'.cell? ⟨w.heap.size, 0, none⟩ = some (.int .u64 e) ∧ w'.cell? ⟨w.heap.size, 1, none⟩ = some (.int .u64 g) ∧ w'.cell? ⟨w.heap.size, 2, none⟩ = some (.int .u64 n) ∧ w'.cell? ⟨w.heap.size, 3, none⟩ = some (.int .i64 t) ∧ w'.cell? ⟨w.heap.size, 4, none⟩ = some (.slice As xs.length cs) ∧ w'.cell? ⟨w.heap.size, 5, none⟩ = some (.slice An ns.length cn) ∧ w'.cell? ⟨g4, 0, none⟩ = some (.int .u64 e) ∧ w'.cell? ⟨g4, 1, none⟩ = some (.int .u64 g) ∧ w'.cell? ⟨g4, 2, none⟩ = some (.int .u64 n) ∧ w'.cell? ⟨g4, 3, none⟩ = some (.int .i64 t) ∧ w'.cell? ⟨g4, 4, none⟩ = some (.slice Bs X.length ds) ∧ w'.cell? ⟨g4, 5, none⟩ = some (.slice Bn N.length dn)) (first | exact ⟨s0, s1, s2, s3, s4, s5, x0, x1, x2, x3, x4, x5⟩) (first | (go_at_call 15; refine (TS.out _ (by repeat (first | exact HB.out | apply below_drew1))).mono ?_; rintro r W7 ⟨Cs, es, Cn, en, rfl, hK, hb0⟩; have hb : Below W6.heap.size W6 W7 := (by first | exact hb0 | exact (below_drew1 (Below.refl W6.heap.size W6)).trans hb0); have HR2 := Aside0.mk hK.reads; clear hb0 hK; replace BS := Aside0.mk (blk_below BS.out hb); replace BX := Aside0.mk (blk_below BX.out hb); replace HB := Aside0.mk (below_step HB.out hb); replace HR := Aside0.mk (And.intro (And.intro (Kd.C_below HR.out.1.1 hb) HR.out.1.2) (And.intro (Kd.C_below HR.out.2.1 hb) HR.out.2.2)); clear hb s0 s1 s2 s3 s4 s5 x0 x1 x2 x3 x4 x5; have s0 := blk_cell BS.out 0; have s1 := blk_cell BS.out 1; have s2 := blk_cell BS.out 2; have s3 := blk_cell BS.out 3; have s4 := blk_cell BS.out 4; have s5 := blk_cell BS.out 5; have x0 := blk_cell BX.out 0; have x1 := blk_cell BX.out 1; have x2 := blk_cell BX.out 2; have x3 := blk_cell BX.out 3; have x4 := blk_cell BX.out 4; have x5 := blk_cell BX.out 5; simp only [List.getElem?_toArray, List.getElem?_cons_zero, List.getElem?_cons_succ] at s0 s1 s2 s3 s4 s5 x0 x1 x2 x3 x4 x5) | (go_at_call 17; refine (eqState_same e g n t X N Bs ds Cs es Bn dn Cn en _ (by repeat (first | exact HR.out.1.1 | refine Kd.C_drew ?_)) HR.out.1.2 (by repeat (first | exact HR2.out.1.1 | refine Kd.C_drew ?_)) HR2.out.1.2 EQ.out.1 (by repeat (first | exact HR.out.2.1 | refine Kd.C_drew ?_)) HR.out.2.2 (by repeat (first | exact HR2.out.2.1 | refine Kd.C_drew ?_)) HR2.out.2.2 EQ.out.2).mono ?_; rintro r W8 ⟨rfl, hb0⟩; have hb : Below W7.heap.size W7 W8 := (by first | exact hb0 | exact (below_drew1 (Below.refl W7.heap.size W7)).trans hb0); clear hb0; replace BS := Aside0.mk (blk_below BS.out hb); replace BX := Aside0.mk (blk_below BX.out hb); replace HB := Aside0.mk (below_step HB.out hb); replace HR := Aside0.mk (And.intro (And.intro (Kd.C_below HR.out.1.1 hb) HR.out.1.2) (And.intro (Kd.C_below HR.out.2.1 hb) HR.out.2.2)); clear hb HR2 s0 s1 s2 s3 s4 s5 x0 x1 x2 x3 x4 x5; have s0 := blk_cell BS.out 0; have s1 := blk_cell BS.out 1; have s2 := blk_cell BS.out 2; have s3 := blk_cell BS.out 3; have s4 := blk_cell BS.out 4; have s5 := blk_cell BS.out 5; have x0 := blk_cell BX.out 0; have x1 := blk_cell BX.out 1; have x2 := blk_cell BX.out 2; have x3 := blk_cell BX.out 3; have x4 := blk_cell BX.out 4; have x5 := blk_cell BX.out 5; simp only [List.getElem?_toArray, List.getElem?_cons_zero, List.getElem?_cons_succ] at s0 s1 s2 s3 s4 s5 x0 x1 x2 x3 x4 x5)) | fail)
   go_wp2_with fail
   go_ret
   exact ⟨rfl, HB.out⟩
end Go.Proofs.YtbgbocdohadhoaaDoor.Print
namespace Go.Proofs.YtbgbocdohadhoaaDoor.Print
open Go Go.RowKit Go.Proofs.YtbgbocdohadhoaaDoorW.PrintWords Go.Proofs.YtbgbocdohadhoaaDoorW.PrintLast Go.Proofs.YtbgbocdohadhoaaDoorW.PrintMore
set_option linter.unusedVariables false
theorem FnExactValidState_walk (e g n t : Int) (As : Option Addr) (cs : Nat) (xs : List SeL) (An : Option Addr) (cn : Nat) (ns : List NoL) (w : World) (h1 : Kd.C kSeL w As xs.length xs) (hc1 : xs.length ≤ cs) (h2 : Kd.C kNoL w An ns.length ns) (hc2 : ns.length ≤ cn) (gx : ∀ x ∈ xs, gSe x) (gn : ∀ x ∈ ns, gNo x) :
  Calls Tryd.prog 4 #[.agg #[.int .u64 e, .int .u64 g, .int .u64 n, .int .i64 t, .slice As xs.length cs, .slice An ns.length cn]] w fun r w' => r = .returned (.bool true) ∧ Below w.heap.size w w' := by
 refine lawVS_walk e g n t As cs xs An cn ns w h1 hc1 h2 hc2 (glue_b1 gx) (glue_b2 gn) ?_
 intro hs Bs ds Bn dn W k1 k2 k3 k4
 exact impl_ValidState_calls e g n t Bs ds _ Bn dn _ W k1 k2 k3 k4 ⟨hs.x, hs.n, hs.e, hs.m⟩ ⟨glue_rx gx, glue_rn gn⟩
end Go.Proofs.YtbgbocdohadhoaaDoor.Print
namespace Go.Proofs.YtbgbocdohadhoaaDoor.fnExactValidState
open Go.ChangeShapes Go.WideShapes Go.ChangeAt Go.RowKit Print
open Go.ChangeMaps (open_string shut_string)
open Go.Proofs.YtbgbocdohadhoaaDoorW.PrintWords Go.Proofs.YtbgbocdohadhoaaDoorW.PrintLast Go.Proofs.YtbgbocdohadhoaaDoorW.PrintMore
set_option linter.unusedVariables false
theorem own : ownKnob Tryd.prog.godebug = none := by kernel_rfl
theorem laidOut : laidOutB Tryd.prog = true := by kernel_rfl
set_option maxRecDepth 100000 in
theorem lifted (os : Os) (started : os.Started) (H : Type) (enc : TypeId × Value → H) :
  ReturnsInHanded {} Tryd.checked os 4 .any (fun w args => (Rows.fnExactValidStateSpec.pre enc Tryd.prog Tryd.f4 Rows.fnExactValidStateRow.domain false w args ∧ laidMetH Tryd.prog Rows.fnExactValidStateRow.laid w) ∧ sizedMet enc Tryd.prog Tryd.f4 (OpenSpec.ofChange Rows.fnExactValidStateSpec) false w args) (Rows.fnExactValidStateSpec.post enc Tryd.prog Tryd.f4 false true false false) := by
 refine returnsInHanded_of_change_and (C := Tryd.checked) (X := fun w _ => laidMetH Tryd.prog Rows.fnExactValidStateRow.laid w) (fun _ _ _ hh h => h.of_heap hh) own started (by kernel_rfl) Tryd.func4
  (ChangeSpec.witness_shaped (enc := enc) (C := Tryd.checked) (os := os) (X := fun w _ => laidMetH Tryd.prog Rows.fnExactValidStateRow.laid w) false (World.laidAll Tryd.prog os Rows.fnExactValidStateRow.laid) #[.agg #[.int .u64 0, .int .u64 0, .int .u64 0, .int .i64 0, .slice none 0 0, .slice none 0 0]] 8 (World.laidAll_os _ _ _)
   (World.shaped_of_ZipB (by kernel_rfl) (by kernel_rfl)) (by kernel_rfl) (by kernel_rfl) (by kernel_rfl)
   (by rw [MakeChecks.laidMetH_plain _ _ _ (by kernel_rfl)]; exact laidMet_laidAll _ (by kernel_rfl) (by kernel_rfl))) ?_
 intro W base args ds gs before hval0 hW hcnd hsz0 hL _
 have hsz : (DataW.weightsEach Tryd.prog (Tryd.f4.params.toList ++ Rows.fnExactValidStateSpec.plain.varTypes Tryd.prog) (ds ++ gs)).all (· ≤ reachBytes) = true := hsz0
 have hval : ∀ (j : Nat) t v, Tryd.f4.params[j]? = some t → args[j]? = some v → Value.okWide Tryd.prog W .any base t v := hval0
 have hW' := hW
 obtain ⟨p, q, hA0, hV, rfl, hfz, hnd⟩ := hW
 have hA : DataW.TrodAll enc Tryd.prog W 0 (fun _ => true) true Tryd.f4.params.toList args.toList ds p := hA0
 rw [Tryd.params4] at hA hval hsz
 obtain ⟨v0, vs0, d0, ds0, p0, q0, hargs, rfl, rfl, h0, r0⟩ := trodAll_cons hA
 obtain ⟨rfl, rfl, rfl⟩ := trodAll_nil r0
 obtain rfl : args = #[v0] := by cases args; simp_all
 obtain ⟨rfl, rfl⟩ := trodVars_none hV
 have k0 := h0
 have lt0 : ∀ x ∈ p0, x.block < W.heap.size := by obtain ⟨m, hm⟩ := k0; exact DataW.trod_lt m _ _ _ hm
 obtain ⟨e0, g0, n0, t0, As0, cs0, xs0, An0, cn0, ns0, rfl, hs0, hcs0, hn0, hcn0, gx0, gn0, we0, wg0, wn0, wt0⟩ := state_open hsz (j := 0) rfl rfl (hval 0 30 v0 rfl rfl) h0
 clear hA0 hval0 hsz0 hsz
 refine (FnExactValidState_walk e0 g0 n0 t0 As0 cs0 xs0 An0 cn0 ns0 W hs0 hcs0 hn0 hcn0 gx0 gn0).mono fun e W' ⟨he, bel⟩ => ?_
 subst he
 exact ⟨_, rfl, _, _, _, [], _, [], hW', trodAll_mk1 (shut_bool Tryd.underlying4 _), (trodAll_cons_mk (Below.trod laidOut (by kernel_rfl) (of_decide_eq_true (by kernel_rfl)) k0 bel lt0) trodAll_mk0), rfl, bel.frame _, fun h => by cases h⟩
theorem over : Rows.fnExactValidStateRow.holds Tryd.pinned (OpenSpec.ofChange Rows.fnExactValidStateSpec) :=
 OpenClaim.holds_of_wide 4 Tryd.f4 rfl rfl rfl rfl rfl rfl rfl ⟨rfl, rfl, rfl, rfl, rfl⟩ rfl rfl rfl rfl rfl (by kernel_rfl) Tryd.func4 (by kernel_rfl)
  (of_decide_eq_true (by kernel_rfl)) (by unfold Func.isWrapper; first | (rw [if_pos (by decide +kernel)]; kernel_rfl) | (rw [if_neg (by decide +kernel)]; exact ⟨rfl, rfl⟩))
  (fun os started H enc _ => lifted os started H enc)
theorem card : Rows.FnExactValidStateCardSaid :=
 Claim7.holds_tied_plain_at .later [] [.data, .pinned] true (true, "315b13090ccdb0a690506cc700d9df368a48c098d999642fff85f69f6bfec662") true over (fun _ h => by cases h) (by kernel_rfl) (fun _ h => by cases h) fnExactValidState_row_tie rfl ⟨rfl, rfl⟩ (by kernel_rfl) rfl
  (fun f fn hf hfn => by
   obtain rfl : f = 4 := Option.some.inj ((show Tryd.prog.funcNamed "loop.example/s02132/laws.FnExactValidState" = some 4 by kernel_rfl).symm.trans hf) |>.symm
   obtain rfl : fn = Tryd.f4 := (Option.some.inj (Tryd.func4.symm.trans hfn)).symm
   exact ⟨by kernel_rfl, fun j t ht => by
    rw [Tryd.params4] at ht
    have hm : t ∈ [30] := by simpa using Array.mem_of_getElem? ht
    have hall : ([30].all fun u => !Tryd.prog.wantsStandIn u) = true := by kernel_rfl
    exact (show Tryd.prog.wantsStandIn t = false by simpa using List.all_eq_true.1 hall t hm)⟩)
  (by kernel_rfl)
end Go.Proofs.YtbgbocdohadhoaaDoor.fnExactValidState
namespace Go.Proofs.YtbgbocdohadhoaaDoor
theorem fnExactValidState_holds : Rows.FnExactValidStateCardSaid := fnExactValidState.card
end Go.Proofs.YtbgbocdohadhoaaDoor
