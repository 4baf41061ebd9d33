/- Texts of this session, joined by its own program. -/
import Derived.Laws.Cover1
import Derived.Test.YtbgbocdohadhoaaDoorCDS2
namespace Go.Proofs.YtbgbocdohadhoaaDoor.Print
open Go Go.RowKit Go.Proofs.YtbgbocdohadhoaaDoorW.PrintWords Go.Proofs.YtbgbocdohadhoaaDoorW.PrintLast Go.Proofs.YtbgbocdohadhoaaDoorW.PrintMore
set_option linter.unusedVariables false
set_option linter.unusedSimpArgs false
theorem rd_no (xs : List No) (i : Nat) (h : i < xs.length) : rd_T76 xs (i : Int) = xs[i] := by unfold rd_T76; rw [Int.toNat_natCast, List.getD_eq_getElem?_getD, List.getElem?_eq_getElem h]; rfl
theorem lock_f (e g n t : Int) (xs : List Se) (ns : List No) (p v : List Int) (o m : Int) (h : List Int) (ep ge : Int) (wa : List Int) : spec_l3lockOK.f 10 e g n t xs ns p v o m h ep ge wa = some (lockB e g ⟨p, v, o, m, h, ep, ge, wa⟩) := rfl
structure SmS (xs : List Se) (ns : List No) : Prop where
 x : xs.length ≤ 2097152
 n : ns.length ≤ 2097152
 e : ∀ x ∈ xs, x.f2.length ≤ 2097152 ∧ ∀ y ∈ x.f2, y.f1.length ≤ 2097152 ∧ ∀ z ∈ y.f1, 0 ≤ z ∧ z < 256
 m : ∀ x ∈ ns, ((x.f0.length ≤ 2097152 ∧ ∀ z ∈ x.f0, 0 ≤ z ∧ z < 256) ∧ x.f1.length ≤ 2097152) ∧ x.f4.length ≤ 2097152 ∧ x.f7.length ≤ 2097152
theorem parentL_bytes {p : List Int} (h : ∀ z ∈ p, 0 ≤ z ∧ z < 256) : ∀ z ∈ parentL p, 0 ≤ z ∧ z < 256 := by
 unfold parentL
 split
 ·
  simp
 ·
  exact fun z hz => h z (List.mem_of_mem_take hz)
set_option maxHeartbeats 8000000 in
set_option maxRecDepth 100000 in
theorem spec_nodeOK_calls (e g n t : Int) (As : Option Addr) (cs : Nat) (xs : List Se) (An : Option Addr) (cn : Nat) (ns : List No) (i : Nat) (w : World) (h1 : Kd.C kSe w As xs.length xs) (hc1 : xs.length ≤ cs) (h2 : Kd.C kNo w An ns.length ns) (hc2 : ns.length ≤ cn) (hs : SmS xs ns) (hi : i < ns.length) :
  Calls Tryd.prog 44 #[.agg #[.int .u64 e, .int .u64 g, .int .u64 n, .int .i64 t, .slice As xs.length cs, .slice An ns.length cn], .int .i64 (i : Int)] w fun r w' => r = .returned (.bool (nodeB e g xs ns i ns[i])) ∧ Below w.heap.size w w' := by
 have HR := Aside0.mk (And.intro h1 h2)
 have HL := Aside0.mk (And.intro hc1 hc2)
 have HSM := Aside0.mk hs
 have ci : (0 : Int) ≤ (i : Int) := by omega
 have ci2 : (i : Int) < (ns.length : Int) := by omega
 have hnl := hs.n
 obtain ⟨ad, A0, c0, A1, c1, A4, c4, A7, c7, eA, hx0, hx1, hx2, hx3, hx4, hx5, hx6, hx7, hl0, hi0, hl1, hi1, hl4, hi4, hl7, hi7⟩ := at_T76 h2 (i : Int) ci ci2
 rw [rd_no ns i hi] at hx0 hx1 hx2 hx3 hx4 hx5 hx6 hx7 hl0 hi0 hl1 hi1 hl4 hi4 hl7 hi7
 rw [Int.toNat_natCast] at hx0 hx1 hx2 hx3 hx4 hx5 hx6 hx7
 cases eA
 have hsm := hs.m ns[i] (List.getElem_mem hi)
 have hprev : 0 < i → ∃ Ap cp, w.cell? (ad.add ((i - 1) * 8)) = some (.slice Ap (ns.getD (i - 1) zNo).f0.length cp) ∧ Kd.C (Kd.int .u8) w Ap (ns.getD (i - 1) zNo).f0.length (ns.getD (i - 1) zNo).f0 := by
  intro h0
  have hj : i - 1 < ns.length := by omega
  obtain ⟨ad', B0, b0, B1, b1, B4, b4, B7, b7, eA', hy0, _, _, _, _, _, _, _, _, hyi, _⟩ := at_T76 h2 ((i - 1 : Nat) : Int) (by omega) (by omega)
  rw [rd_no ns (i - 1) hj] at hy0 hyi
  rw [Int.toNat_natCast] at hy0
  cases eA'
  rw [show ns.getD (i - 1) zNo = ns[i - 1] by rw [List.getD_eq_getElem?_getD, List.getElem?_eq_getElem hj]; rfl]
  exact ⟨B0, b0, hy0, hyi⟩
 obtain ⟨y, hy⟩ : ∃ y, ns[i] = y := ⟨_, rfl⟩
 rw [hy] at hx0 hx1 hx2 hx3 hx4 hx5 hx6 hx7 hl0 hi0 hl1 hi1 hl4 hi4 hl7 hi7 hsm ⊢
 clear hy
 obtain ⟨p, v, o, m, h, ep, ge, wa⟩ := y
 simp only at hx0 hx1 hx2 hx3 hx4 hx5 hx6 hx7 hl0 hi0 hl1 hi1 hl4 hi4 hl7 hi7 hsm
 obtain ⟨q, hq⟩ : ∃ q, (ns.getD (i - 1) zNo).f0 = q := ⟨_, rfl⟩
 rw [hq] at hprev
 have hE : nodeB e g xs ns i ⟨p, v, o, m, h, ep, ge, wa⟩ = (pathB p && (i == 0 || !leB p q) && canParB ns (parentL p) && decide (v.length ≤ 40) && (o == 0 || liveB xs o) && idsB xs h && idsB xs wa && lockB e g ⟨p, v, o, m, h, ep, ge, wa⟩) := by rw [← hq]; rfl
 have VP := Aside0.mk (fun (W : World) (hW : Below w.heap.size w W) => spec_ValidPath.calls 10000000 A0 c0 p (pathB p) W (Kd.C_below hi0 hW) hl0 (validPath_f p hsm.1.1.1 _ (by have := hsm.1.1.1; omega)))
 have PAR := Aside0.mk (fun (W : World) (hW : Below w.heap.size w W) => spec_parent_calls A0 c0 p W (Kd.C_below hi0 hW) hl0 hsm.1.1.1)
 have CAN := Aside0.mk (fun (B : Option Addr) (d : Nat) (W : World) (hW : Below w.heap.size w W) (hB : Kd.C (Kd.int .u8) W B (parentL p).length (parentL p)) (hd : (parentL p).length ≤ d) => spec_canParent_calls e g n t As cs xs (some ad) cn ns B d (parentL p) W (Kd.C_below h1 hW) hc1 (Kd.C_below h2 hW) hc2 hB hd hs.n (parentL_bytes hsm.1.1.2) (fun z hz => (hs.m z hz).1.1.2))
 have LIV := Aside0.mk (fun (W : World) (hW : Below w.heap.size w W) => spec_l3live.calls 10000000 e g n t As cs xs (some ad) cn ns o (liveB xs o) W (Kd.C_below h1 hW) hc1 (Kd.C_below h2 hW) hc2 (live_f e g n t xs ns o hs.x _ (by omega)))
 have ID4 := Aside0.mk (fun (W : World) (hW : Below w.heap.size w W) => spec_l3idsOK.calls 10000000 e g n t As cs xs (some ad) cn ns A4 c4 h (idsB xs h) W (Kd.C_below h1 hW) hc1 (Kd.C_below h2 hW) hc2 (Kd.C_below hi4 hW) hl4 (ids_f e g n t xs ns h hs.x hsm.2.1))
 have ID7 := Aside0.mk (fun (W : World) (hW : Below w.heap.size w W) => spec_l3idsOK.calls 10000000 e g n t As cs xs (some ad) cn ns A7 c7 wa (idsB xs wa) W (Kd.C_below h1 hW) hc1 (Kd.C_below h2 hW) hc2 (Kd.C_below hi7 hW) hl7 (ids_f e g n t xs ns wa hs.x hsm.2.2))
 have LOC := Aside0.mk (fun (W : World) (hW : Below w.heap.size w W) => spec_l3lockOK.calls 10 e g n t As cs xs (some ad) cn ns A0 c0 p A1 c1 v o m A4 c4 h ep ge A7 c7 wa (lockB e g ⟨p, v, o, m, h, ep, ge, wa⟩) W (Kd.C_below h1 hW) hc1 (Kd.C_below h2 hW) hc2 (Kd.C_below hi0 hW) hl0 (Kd.C_below hi1 hW) hl1 (Kd.C_below hi4 hW) hl4 (Kd.C_below hi7 hW) hl7 (lock_f e g n t xs ns p v o m h ep ge wa))
 have HP := Aside0.mk hi0
 have HPV := Aside0.mk hprev
 obtain ⟨b1, hb1⟩ : ∃ b, pathB p = b := ⟨_, rfl⟩
 obtain ⟨b2, hb2⟩ : ∃ b, leB p q = b := ⟨_, rfl⟩
 obtain ⟨b3, hb3⟩ : ∃ b, canParB ns (parentL p) = b := ⟨_, rfl⟩
 obtain ⟨b5, hb5⟩ : ∃ b, liveB xs o = b := ⟨_, rfl⟩
 obtain ⟨b6, hb6⟩ : ∃ b, idsB xs h = b := ⟨_, rfl⟩
 obtain ⟨b7, hb7⟩ : ∃ b, idsB xs wa = b := ⟨_, rfl⟩
 obtain ⟨b8, hb8⟩ : ∃ b, lockB e g ⟨p, v, o, m, h, ep, ge, wa⟩ = b := ⟨_, rfl⟩
 rw [hb1] at VP hE
 rw [hb2, hb3, hb5, hb6, hb7, hb8] at hE
 rw [hb3] at CAN
 rw [hb5] at LIV
 rw [hb6] at ID4
 rw [hb7] at ID7
 rw [hb8] at LOC
 have HE := Aside0.mk hE
 have HLE : Aside0 ((Op.bytesLess (strOfNums p).toList (strOfNums q).toList || (strOfNums p).toList == (strOfNums q).toList) = b2) := ⟨by rw [Lib.strOfNums_toList, Lib.strOfNums_toList]; exact hb2⟩
 clear hb1 hb2 hb3 hb5 hb6 hb7 hb8 hE h1 h2 hc1 hc2 hs hl0 hi0 hl1 hi1 hl4 hi4 hl7 hi7 hsm hprev hq
 have hal : ∀ {a : Addr} {z : Value}, w.cell? a = some z → (w.alloc (.cells #[.int .u64 e, .int .u64 g, .int .u64 n, .int .i64 t, .slice As xs.length cs, .slice (some ad) ns.length cn] 36)).cell? a = some z := fun hz => (World.cell?_alloc_lt _ _ _ (World.block_lt_of_cell? w _ hz)).trans hz
 replace hx0 := hal hx0
 replace hx1 := hal hx1
 replace hx2 := hal hx2
 replace hx3 := hal hx3
 replace hx4 := hal hx4
 replace hx5 := hal hx5
 replace hx6 := hal hx6
 replace hx7 := hal hx7
 clear hal
 go_enter Tryd.func44, Tryd.ntmps44
 go_wp2_with fail
 have b0 := blk_alloc (blk_new w (.cells #[.int .u64 e, .int .u64 g, .int .u64 n, .int .i64 t, .slice As xs.length cs, .slice (some ad) ns.length cn] 36)) (.cells #[.slice A0 p.length c0, .slice A1 v.length c1, .int .u64 o, .int .i64 m, .slice A4 h.length c4, .int .u64 ep, .int .u64 ge, .slice A7 wa.length c7] 76)
 have bn := blk_new (w.alloc (.cells #[.int .u64 e, .int .u64 g, .int .u64 n, .int .i64 t, .slice As xs.length cs, .slice (some ad) ns.length cn] 36)) (.cells #[.slice A0 p.length c0, .slice A1 v.length c1, .int .u64 o, .int .i64 m, .slice A4 h.length c4, .int .u64 ep, .int .u64 ge, .slice A7 wa.length c7] 76)
 have hB := below_alloc (below_alloc (Below.refl w.heap.size w) (.cells #[.int .u64 e, .int .u64 g, .int .u64 n, .int .i64 t, .slice As xs.length cs, .slice (some ad) ns.length cn] 36)) (.cells #[.slice A0 p.length c0, .slice A1 v.length c1, .int .u64 o, .int .i64 m, .slice A4 h.length c4, .int .u64 ep, .int .u64 ge, .slice A7 wa.length c7] 76)
 simp only [World.size_alloc] at bn
 generalize (w.alloc (.cells #[.int .u64 e, .int .u64 g, .int .u64 n, .int .i64 t, .slice As xs.length cs, .slice (some ad) ns.length cn] 36)).alloc (.cells #[.slice A0 p.length c0, .slice A1 v.length c1, .int .u64 o, .int .i64 m, .slice A4 h.length c4, .int .u64 ep, .int .u64 ge, .slice A7 wa.length c7] 76) = W0 at *
 have BS := Aside0.mk b0
 have BN := Aside0.mk bn
 have HB := Aside0.mk hB
 clear b0 bn hB hx0 hx1 hx2 hx3 hx4 hx5 hx6 hx7
 have s0 := blk_cell BS.out 0
 have s1 := blk_cell BS.out 1
 have s2 := blk_cell BS.out 2
 have s3 := blk_cell BS.out 3
 have s4 := blk_cell BS.out 4
 have s5 := blk_cell BS.out 5
 have m0 := blk_cell BN.out 0
 have m1 := blk_cell BN.out 1
 have m2 := blk_cell BN.out 2
 have m3 := blk_cell BN.out 3
 have m4 := blk_cell BN.out 4
 have m5 := blk_cell BN.out 5
 have m6 := blk_cell BN.out 6
 have m7 := blk_cell BN.out 7
 simp only [List.getElem?_toArray, List.getElem?_cons_zero, List.getElem?_cons_succ] at s0 s1 s2 s3 s4 s5 m0 m1 m2 m3 m4 m5 m6 m7
 cases b1 with
 | false =>
  by_cases hi0 : i = 0
  ·
   have di : decide (0 < i) = false := decide_eq_false (by omega)
   have CF : Aside0 (∀ w' : World, BelowOf W0 w' → (w'.cell? ⟨w.heap.size, 0, none⟩ = some (.int .u64 e) ∧ w'.cell? ⟨w.heap.size, 1, none⟩ = some (.int .u64 g) ∧ w'.cell? ⟨w.heap.size, 2, none⟩ = some (.int .u64 n) ∧ w'.cell? ⟨w.heap.size, 3, none⟩ = some (.int .i64 t) ∧ w'.cell? ⟨w.heap.size, 4, none⟩ = some (.slice As xs.length cs) ∧ w'.cell? ⟨w.heap.size, 5, none⟩ = some (.slice (some ad) ns.length cn) ∧ w'.cell? ⟨w.heap.size + 1, 0, none⟩ = some (.slice A0 p.length c0) ∧ w'.cell? ⟨w.heap.size + 1, 1, none⟩ = some (.slice A1 v.length c1) ∧ w'.cell? ⟨w.heap.size + 1, 2, none⟩ = some (.int .u64 o) ∧ w'.cell? ⟨w.heap.size + 1, 3, none⟩ = some (.int .i64 m) ∧ w'.cell? ⟨w.heap.size + 1, 4, none⟩ = some (.slice A4 h.length c4) ∧ w'.cell? ⟨w.heap.size + 1, 5, none⟩ = some (.int .u64 ep) ∧ w'.cell? ⟨w.heap.size + 1, 6, none⟩ = some (.int .u64 ge) ∧ w'.cell? ⟨w.heap.size + 1, 7, none⟩ = some (.slice A7 wa.length c7))) := ⟨fun w' hC => ⟨(hC.out.cell (World.block_lt_of_cell? _ _ s0)).trans s0, (hC.out.cell (World.block_lt_of_cell? _ _ s1)).trans s1, (hC.out.cell (World.block_lt_of_cell? _ _ s2)).trans s2, (hC.out.cell (World.block_lt_of_cell? _ _ s3)).trans s3, (hC.out.cell (World.block_lt_of_cell? _ _ s4)).trans s4, (hC.out.cell (World.block_lt_of_cell? _ _ s5)).trans s5, (hC.out.cell (World.block_lt_of_cell? _ _ m0)).trans m0, (hC.out.cell (World.block_lt_of_cell? _ _ m1)).trans m1, (hC.out.cell (World.block_lt_of_cell? _ _ m2)).trans m2, (hC.out.cell (World.block_lt_of_cell? _ _ m3)).trans m3, (hC.out.cell (World.block_lt_of_cell? _ _ m4)).trans m4, (hC.out.cell (World.block_lt_of_cell? _ _ m5)).trans m5, (hC.out.cell (World.block_lt_of_cell? _ _ m6)).trans m6, (hC.out.cell (World.block_lt_of_cell? _ _ m7)).trans m7⟩⟩
   have VP1 := Aside0.mk (fun (w' : World) (hC : BelowOf W0 w') => (VP.out w' (below_step HB.out hC.out)).mono (fun e w'' h => show e = .returned (.bool false) ∧ BelowOf W0 w'' from ⟨h.1, ⟨below_step hC.out h.2⟩⟩))
   clear s0 s1 s2 s3 s4 s5 m0 m1 m2 m3 m4 m5 m6 m7
   refine wp_region_below (by kernel_rfl) (by kernel_rfl) ?_
   repeat (first | go_big_quiet_skip | (go_big_quiet_want; rename_i K hK; refine quiet_mk (v := ?_) ?_ (hK _ ?_); rotate_left 1; (focus (intro w' hC; first | (go_simp; first | done | with_reducible rfl) | (obtain ⟨s0, s1, s2, s3, s4, s5, m0, m1, m2, m3, m4, m5, m6, m7⟩ := CF.out w' hC; go_simp; first | done | with_reducible rfl) | (go_simp; go_at_call 9; exact VP1.out w' hC))); clear hK K); try simp only [Act.put, List.setIfInBounds_toArray, List.set_cons_zero, List.set_cons_succ])
   refine wpQuiet_nil ?_
   intro W1 hb1
   have hb := hb1.out
   clear hb1 CF VP1
   replace BS := Aside0.mk (blk_below BS.out hb)
   replace BN := Aside0.mk (blk_below BN.out hb)
   replace HB := Aside0.mk (below_step HB.out hb)
   clear hb
   have s0 := blk_cell BS.out 0
   have s1 := blk_cell BS.out 1
   have s2 := blk_cell BS.out 2
   have s3 := blk_cell BS.out 3
   have s4 := blk_cell BS.out 4
   have s5 := blk_cell BS.out 5
   have m0 := blk_cell BN.out 0
   have m1 := blk_cell BN.out 1
   have m2 := blk_cell BN.out 2
   have m3 := blk_cell BN.out 3
   have m4 := blk_cell BN.out 4
   have m5 := blk_cell BN.out 5
   have m6 := blk_cell BN.out 6
   have m7 := blk_cell BN.out 7
   simp only [List.getElem?_toArray, List.getElem?_cons_zero, List.getElem?_cons_succ] at s0 s1 s2 s3 s4 s5 m0 m1 m2 m3 m4 m5 m6 m7
   go_wp2_with fail
   go_ret
   rw [HE.out]
   exact ⟨by simp, HB.out⟩
  ·
   have di : decide (0 < i) = true := decide_eq_true (by omega)
   have CF : Aside0 (∀ w' : World, BelowOf W0 w' → (w'.cell? ⟨w.heap.size, 0, none⟩ = some (.int .u64 e) ∧ w'.cell? ⟨w.heap.size, 1, none⟩ = some (.int .u64 g) ∧ w'.cell? ⟨w.heap.size, 2, none⟩ = some (.int .u64 n) ∧ w'.cell? ⟨w.heap.size, 3, none⟩ = some (.int .i64 t) ∧ w'.cell? ⟨w.heap.size, 4, none⟩ = some (.slice As xs.length cs) ∧ w'.cell? ⟨w.heap.size, 5, none⟩ = some (.slice (some ad) ns.length cn) ∧ w'.cell? ⟨w.heap.size + 1, 0, none⟩ = some (.slice A0 p.length c0) ∧ w'.cell? ⟨w.heap.size + 1, 1, none⟩ = some (.slice A1 v.length c1) ∧ w'.cell? ⟨w.heap.size + 1, 2, none⟩ = some (.int .u64 o) ∧ w'.cell? ⟨w.heap.size + 1, 3, none⟩ = some (.int .i64 m) ∧ w'.cell? ⟨w.heap.size + 1, 4, none⟩ = some (.slice A4 h.length c4) ∧ w'.cell? ⟨w.heap.size + 1, 5, none⟩ = some (.int .u64 ep) ∧ w'.cell? ⟨w.heap.size + 1, 6, none⟩ = some (.int .u64 ge) ∧ w'.cell? ⟨w.heap.size + 1, 7, none⟩ = some (.slice A7 wa.length c7))) := ⟨fun w' hC => ⟨(hC.out.cell (World.block_lt_of_cell? _ _ s0)).trans s0, (hC.out.cell (World.block_lt_of_cell? _ _ s1)).trans s1, (hC.out.cell (World.block_lt_of_cell? _ _ s2)).trans s2, (hC.out.cell (World.block_lt_of_cell? _ _ s3)).trans s3, (hC.out.cell (World.block_lt_of_cell? _ _ s4)).trans s4, (hC.out.cell (World.block_lt_of_cell? _ _ s5)).trans s5, (hC.out.cell (World.block_lt_of_cell? _ _ m0)).trans m0, (hC.out.cell (World.block_lt_of_cell? _ _ m1)).trans m1, (hC.out.cell (World.block_lt_of_cell? _ _ m2)).trans m2, (hC.out.cell (World.block_lt_of_cell? _ _ m3)).trans m3, (hC.out.cell (World.block_lt_of_cell? _ _ m4)).trans m4, (hC.out.cell (World.block_lt_of_cell? _ _ m5)).trans m5, (hC.out.cell (World.block_lt_of_cell? _ _ m6)).trans m6, (hC.out.cell (World.block_lt_of_cell? _ _ m7)).trans m7⟩⟩
   have VP1 := Aside0.mk (fun (w' : World) (hC : BelowOf W0 w') => (VP.out w' (below_step HB.out hC.out)).mono (fun e w'' h => show e = .returned (.bool false) ∧ BelowOf W0 w'' from ⟨h.1, ⟨below_step hC.out h.2⟩⟩))
   clear s0 s1 s2 s3 s4 s5 m0 m1 m2 m3 m4 m5 m6 m7
   refine wp_region_below (by kernel_rfl) (by kernel_rfl) ?_
   repeat (first | go_big_quiet_skip | (go_big_quiet_want; rename_i K hK; refine quiet_mk (v := ?_) ?_ (hK _ ?_); rotate_left 1; (focus (intro w' hC; first | (go_simp; first | done | with_reducible rfl) | (obtain ⟨s0, s1, s2, s3, s4, s5, m0, m1, m2, m3, m4, m5, m6, m7⟩ := CF.out w' hC; go_simp; first | done | with_reducible rfl) | (go_simp; go_at_call 9; exact VP1.out w' hC))); clear hK K); try simp only [Act.put, List.setIfInBounds_toArray, List.set_cons_zero, List.set_cons_succ])
   refine wpQuiet_nil ?_
   intro W1 hb1
   have hb := hb1.out
   clear hb1 CF VP1
   replace BS := Aside0.mk (blk_below BS.out hb)
   replace BN := Aside0.mk (blk_below BN.out hb)
   replace HB := Aside0.mk (below_step HB.out hb)
   clear hb
   have s0 := blk_cell BS.out 0
   have s1 := blk_cell BS.out 1
   have s2 := blk_cell BS.out 2
   have s3 := blk_cell BS.out 3
   have s4 := blk_cell BS.out 4
   have s5 := blk_cell BS.out 5
   have m0 := blk_cell BN.out 0
   have m1 := blk_cell BN.out 1
   have m2 := blk_cell BN.out 2
   have m3 := blk_cell BN.out 3
   have m4 := blk_cell BN.out 4
   have m5 := blk_cell BN.out 5
   have m6 := blk_cell BN.out 6
   have m7 := blk_cell BN.out 7
   simp only [List.getElem?_toArray, List.getElem?_cons_zero, List.getElem?_cons_succ] at s0 s1 s2 s3 s4 s5 m0 m1 m2 m3 m4 m5 m6 m7
   go_wp2_with fail
   go_ret
   rw [HE.out]
   exact ⟨by simp, HB.out⟩
 | true =>
  by_cases hi0 : i = 0
  ·
   have di : decide (0 < i) = false := decide_eq_false (by omega)
   have HI0 := Aside0.mk (show (i == 0) = true from beq_iff_eq.2 hi0)
   clear hi0
   have CF : Aside0 (∀ w' : World, BelowOf W0 w' → (w'.cell? ⟨w.heap.size, 0, none⟩ = some (.int .u64 e) ∧ w'.cell? ⟨w.heap.size, 1, none⟩ = some (.int .u64 g) ∧ w'.cell? ⟨w.heap.size, 2, none⟩ = some (.int .u64 n) ∧ w'.cell? ⟨w.heap.size, 3, none⟩ = some (.int .i64 t) ∧ w'.cell? ⟨w.heap.size, 4, none⟩ = some (.slice As xs.length cs) ∧ w'.cell? ⟨w.heap.size, 5, none⟩ = some (.slice (some ad) ns.length cn) ∧ w'.cell? ⟨w.heap.size + 1, 0, none⟩ = some (.slice A0 p.length c0) ∧ w'.cell? ⟨w.heap.size + 1, 1, none⟩ = some (.slice A1 v.length c1) ∧ w'.cell? ⟨w.heap.size + 1, 2, none⟩ = some (.int .u64 o) ∧ w'.cell? ⟨w.heap.size + 1, 3, none⟩ = some (.int .i64 m) ∧ w'.cell? ⟨w.heap.size + 1, 4, none⟩ = some (.slice A4 h.length c4) ∧ w'.cell? ⟨w.heap.size + 1, 5, none⟩ = some (.int .u64 ep) ∧ w'.cell? ⟨w.heap.size + 1, 6, none⟩ = some (.int .u64 ge) ∧ w'.cell? ⟨w.heap.size + 1, 7, none⟩ = some (.slice A7 wa.length c7))) := ⟨fun w' hC => ⟨(hC.out.cell (World.block_lt_of_cell? _ _ s0)).trans s0, (hC.out.cell (World.block_lt_of_cell? _ _ s1)).trans s1, (hC.out.cell (World.block_lt_of_cell? _ _ s2)).trans s2, (hC.out.cell (World.block_lt_of_cell? _ _ s3)).trans s3, (hC.out.cell (World.block_lt_of_cell? _ _ s4)).trans s4, (hC.out.cell (World.block_lt_of_cell? _ _ s5)).trans s5, (hC.out.cell (World.block_lt_of_cell? _ _ m0)).trans m0, (hC.out.cell (World.block_lt_of_cell? _ _ m1)).trans m1, (hC.out.cell (World.block_lt_of_cell? _ _ m2)).trans m2, (hC.out.cell (World.block_lt_of_cell? _ _ m3)).trans m3, (hC.out.cell (World.block_lt_of_cell? _ _ m4)).trans m4, (hC.out.cell (World.block_lt_of_cell? _ _ m5)).trans m5, (hC.out.cell (World.block_lt_of_cell? _ _ m6)).trans m6, (hC.out.cell (World.block_lt_of_cell? _ _ m7)).trans m7⟩⟩
   have VP1 := Aside0.mk (fun (w' : World) (hC : BelowOf W0 w') => (VP.out w' (below_step HB.out hC.out)).mono (fun e w'' h => show e = .returned (.bool true) ∧ BelowOf W0 w'' from ⟨h.1, ⟨below_step hC.out h.2⟩⟩))
   clear s0 s1 s2 s3 s4 s5 m0 m1 m2 m3 m4 m5 m6 m7
   refine wp_region_below (by kernel_rfl) (by kernel_rfl) ?_
   repeat (first | go_big_quiet_skip | (go_big_quiet_want; rename_i K hK; refine quiet_mk (v := ?_) ?_ (hK _ ?_); rotate_left 1; (focus (intro w' hC; first | (go_simp; first | done | with_reducible rfl) | (obtain ⟨s0, s1, s2, s3, s4, s5, m0, m1, m2, m3, m4, m5, m6, m7⟩ := CF.out w' hC; go_simp; first | done | with_reducible rfl) | (go_simp; go_at_call 9; exact VP1.out w' hC))); clear hK K); try simp only [Act.put, List.setIfInBounds_toArray, List.set_cons_zero, List.set_cons_succ])
   refine wpQuiet_nil ?_
   intro W1 hb1
   have hb := hb1.out
   clear hb1 CF VP1
   replace BS := Aside0.mk (blk_below BS.out hb)
   replace BN := Aside0.mk (blk_below BN.out hb)
   replace HB := Aside0.mk (below_step HB.out hb)
   clear hb
   have s0 := blk_cell BS.out 0
   have s1 := blk_cell BS.out 1
   have s2 := blk_cell BS.out 2
   have s3 := blk_cell BS.out 3
   have s4 := blk_cell BS.out 4
   have s5 := blk_cell BS.out 5
   have m0 := blk_cell BN.out 0
   have m1 := blk_cell BN.out 1
   have m2 := blk_cell BN.out 2
   have m3 := blk_cell BN.out 3
   have m4 := blk_cell BN.out 4
   have m5 := blk_cell BN.out 5
   have m6 := blk_cell BN.out 6
   have m7 := blk_cell BN.out 7
   simp only [List.getElem?_toArray, List.getElem?_cons_zero, List.getElem?_cons_succ] at s0 s1 s2 s3 s4 s5 m0 m1 m2 m3 m4 m5 m6 m7
   go_wp2_with fail
   rw [HI0.out] at HE
   cases b3 with
   | false =>
    (first | go_region_with (first | (go_at_call 93; refine (PAR.out _ (by with_reducible repeat (first | exact HB.out | apply below_drew1))).mono ?_; rintro r W2 ⟨B, d, rfl, hd, hC, hb0⟩; have hb : Below W1.heap.size W1 W2 := (by first | exact hb0 | exact (below_drew1 (Below.refl W1.heap.size W1)).trans hb0); clear hb0; replace BS := Aside0.mk (blk_below BS.out hb); replace BN := Aside0.mk (blk_below BN.out hb); replace HB := Aside0.mk (below_step HB.out hb); have HC := Aside0.mk hC; have HD := Aside0.mk hd; clear hb hC hd; clear s0 s1 s2 s3 s4 s5 m0 m1 m2 m3 m4 m5 m6 m7; have s0 := blk_cell BS.out 0; have s1 := blk_cell BS.out 1; have s2 := blk_cell BS.out 2; have s3 := blk_cell BS.out 3; have s4 := blk_cell BS.out 4; have s5 := blk_cell BS.out 5; have m0 := blk_cell BN.out 0; have m1 := blk_cell BN.out 1; have m2 := blk_cell BN.out 2; have m3 := blk_cell BN.out 3; have m4 := blk_cell BN.out 4; have m5 := blk_cell BN.out 5; have m6 := blk_cell BN.out 6; have m7 := blk_cell BN.out 7; simp only [List.getElem?_toArray, List.getElem?_cons_zero, List.getElem?_cons_succ] at s0 s1 s2 s3 s4 s5 m0 m1 m2 m3 m4 m5 m6 m7) | (go_at_call 92; refine (CAN.out B d _ (by with_reducible repeat (first | exact HB.out | apply below_drew1)) (by repeat (first | exact HC.out | refine Kd.C_drew ?_)) HD.out).mono ?_; rintro r W3 ⟨rfl, hb0⟩; have hb : Below W2.heap.size W2 W3 := (by first | exact hb0 | exact (below_drew1 (Below.refl W2.heap.size W2)).trans hb0); clear hb0; replace BS := Aside0.mk (blk_below BS.out hb); replace BN := Aside0.mk (blk_below BN.out hb); replace HB := Aside0.mk (below_step HB.out hb); clear hb HC HD; clear s0 s1 s2 s3 s4 s5 m0 m1 m2 m3 m4 m5 m6 m7; have s0 := blk_cell BS.out 0; have s1 := blk_cell BS.out 1; have s2 := blk_cell BS.out 2; have s3 := blk_cell BS.out 3; have s4 := blk_cell BS.out 4; have s5 := blk_cell BS.out 5; have m0 := blk_cell BN.out 0; have m1 := blk_cell BN.out 1; have m2 := blk_cell BN.out 2; have m3 := blk_cell BN.out 3; have m4 := blk_cell BN.out 4; have m5 := blk_cell BN.out 5; have m6 := blk_cell BN.out 6; have m7 := blk_cell BN.out 7; simp only [List.getElem?_toArray, List.getElem?_cons_zero, List.getElem?_cons_succ] at s0 s1 s2 s3 s4 s5 m0 m1 m2 m3 m4 m5 m6 m7)) | fail)
    all_goals (go_wp2_with fail; go_ret; rw [HE.out]; exact ⟨by simp, HB.out⟩)
   | true =>
    by_cases hv : 40 < v.length
    ·
     have hv1 : decide ((40 : Int) < (v.length : Int)) = true := decide_eq_true (by omega)
     have HV := Aside0.mk (show decide (v.length ≤ 40) = false from decide_eq_false (by omega))
     clear hv
     (first | go_region_held3 (fun w' => w'.cell? ⟨w.heap.size, 0, none⟩ = some (.int .u64 e) ∧ w'.cell? ⟨w.heap.size, 1, none⟩ = some (.int .u64 g) ∧ w'.cell? ⟨w.heap.size, 2, none⟩ = some (.int .u64 n) ∧ w'.cell? ⟨w.heap.size, 3, none⟩ = some (.int .i64 t) ∧ w'.cell? ⟨w.heap.size, 4, none⟩ = some (.slice As xs.length cs) ∧ w'.cell? ⟨w.heap.size, 5, none⟩ = some (.slice (some ad) ns.length cn) ∧ w'.cell? ⟨w.heap.size + 1, 0, none⟩ = some (.slice A0 p.length c0) ∧ w'.cell? ⟨w.heap.size + 1, 1, none⟩ = some (.slice A1 v.length c1) ∧ w'.cell? ⟨w.heap.size + 1, 2, none⟩ = some (.int .u64 o) ∧ w'.cell? ⟨w.heap.size + 1, 3, none⟩ = some (.int .i64 m) ∧ w'.cell? ⟨w.heap.size + 1, 4, none⟩ = some (.slice A4 h.length c4) ∧ w'.cell? ⟨w.heap.size + 1, 5, none⟩ = some (.int .u64 ep) ∧ w'.cell? ⟨w.heap.size + 1, 6, none⟩ = some (.int .u64 ge) ∧ w'.cell? ⟨w.heap.size + 1, 7, none⟩ = some (.slice A7 wa.length c7)) (first | exact ⟨s0, s1, s2, s3, s4, s5, m0, m1, m2, m3, m4, m5, m6, m7⟩) (first | (go_at_call 93; refine (PAR.out _ (by with_reducible repeat (first | exact HB.out | apply below_drew1))).mono ?_; rintro r W2 ⟨B, d, rfl, hd, hC, hb0⟩; have hb : Below W1.heap.size W1 W2 := (by first | exact hb0 | exact (below_drew1 (Below.refl W1.heap.size W1)).trans hb0); clear hb0; replace BS := Aside0.mk (blk_below BS.out hb); replace BN := Aside0.mk (blk_below BN.out hb); replace HB := Aside0.mk (below_step HB.out hb); have HC := Aside0.mk hC; have HD := Aside0.mk hd; clear hb hC hd; clear s0 s1 s2 s3 s4 s5 m0 m1 m2 m3 m4 m5 m6 m7; have s0 := blk_cell BS.out 0; have s1 := blk_cell BS.out 1; have s2 := blk_cell BS.out 2; have s3 := blk_cell BS.out 3; have s4 := blk_cell BS.out 4; have s5 := blk_cell BS.out 5; have m0 := blk_cell BN.out 0; have m1 := blk_cell BN.out 1; have m2 := blk_cell BN.out 2; have m3 := blk_cell BN.out 3; have m4 := blk_cell BN.out 4; have m5 := blk_cell BN.out 5; have m6 := blk_cell BN.out 6; have m7 := blk_cell BN.out 7; simp only [List.getElem?_toArray, List.getElem?_cons_zero, List.getElem?_cons_succ] at s0 s1 s2 s3 s4 s5 m0 m1 m2 m3 m4 m5 m6 m7) | (go_at_call 92; refine (CAN.out B d _ (by with_reducible repeat (first | exact HB.out | apply below_drew1)) (by repeat (first | exact HC.out | refine Kd.C_drew ?_)) HD.out).mono ?_; rintro r W3 ⟨rfl, hb0⟩; have hb : Below W2.heap.size W2 W3 := (by first | exact hb0 | exact (below_drew1 (Below.refl W2.heap.size W2)).trans hb0); clear hb0; replace BS := Aside0.mk (blk_below BS.out hb); replace BN := Aside0.mk (blk_below BN.out hb); replace HB := Aside0.mk (below_step HB.out hb); clear hb HC HD; clear s0 s1 s2 s3 s4 s5 m0 m1 m2 m3 m4 m5 m6 m7; have s0 := blk_cell BS.out 0; have s1 := blk_cell BS.out 1; have s2 := blk_cell BS.out 2; have s3 := blk_cell BS.out 3; have s4 := blk_cell BS.out 4; have s5 := blk_cell BS.out 5; have m0 := blk_cell BN.out 0; have m1 := blk_cell BN.out 1; have m2 := blk_cell BN.out 2; have m3 := blk_cell BN.out 3; have m4 := blk_cell BN.out 4; have m5 := blk_cell BN.out 5; have m6 := blk_cell BN.out 6; have m7 := blk_cell BN.out 7; simp only [List.getElem?_toArray, List.getElem?_cons_zero, List.getElem?_cons_succ] at s0 s1 s2 s3 s4 s5 m0 m1 m2 m3 m4 m5 m6 m7)) | fail)
     go_wp2_with fail
     go_ret
     rw [HE.out, HV.out]
     exact ⟨by simp, HB.out⟩
    ·
     have hv1 : decide ((40 : Int) < (v.length : Int)) = false := decide_eq_false (by omega)
     have HV := Aside0.mk (show decide (v.length ≤ 40) = true from decide_eq_true (by omega))
     clear hv
     (first | go_region_held3 (fun w' => w'.cell? ⟨w.heap.size, 0, none⟩ = some (.int .u64 e) ∧ w'.cell? ⟨w.heap.size, 1, none⟩ = some (.int .u64 g) ∧ w'.cell? ⟨w.heap.size, 2, none⟩ = some (.int .u64 n) ∧ w'.cell? ⟨w.heap.size, 3, none⟩ = some (.int .i64 t) ∧ w'.cell? ⟨w.heap.size, 4, none⟩ = some (.slice As xs.length cs) ∧ w'.cell? ⟨w.heap.size, 5, none⟩ = some (.slice (some ad) ns.length cn) ∧ w'.cell? ⟨w.heap.size + 1, 0, none⟩ = some (.slice A0 p.length c0) ∧ w'.cell? ⟨w.heap.size + 1, 1, none⟩ = some (.slice A1 v.length c1) ∧ w'.cell? ⟨w.heap.size + 1, 2, none⟩ = some (.int .u64 o) ∧ w'.cell? ⟨w.heap.size + 1, 3, none⟩ = some (.int .i64 m) ∧ w'.cell? ⟨w.heap.size + 1, 4, none⟩ = some (.slice A4 h.length c4) ∧ w'.cell? ⟨w.heap.size + 1, 5, none⟩ = some (.int .u64 ep) ∧ w'.cell? ⟨w.heap.size + 1, 6, none⟩ = some (.int .u64 ge) ∧ w'.cell? ⟨w.heap.size + 1, 7, none⟩ = some (.slice A7 wa.length c7)) (first | exact ⟨s0, s1, s2, s3, s4, s5, m0, m1, m2, m3, m4, m5, m6, m7⟩) (first | (go_at_call 93; refine (PAR.out _ (by with_reducible repeat (first | exact HB.out | apply below_drew1))).mono ?_; rintro r W2 ⟨B, d, rfl, hd, hC, hb0⟩; have hb : Below W1.heap.size W1 W2 := (by first | exact hb0 | exact (below_drew1 (Below.refl W1.heap.size W1)).trans hb0); clear hb0; replace BS := Aside0.mk (blk_below BS.out hb); replace BN := Aside0.mk (blk_below BN.out hb); replace HB := Aside0.mk (below_step HB.out hb); have HC := Aside0.mk hC; have HD := Aside0.mk hd; clear hb hC hd; clear s0 s1 s2 s3 s4 s5 m0 m1 m2 m3 m4 m5 m6 m7; have s0 := blk_cell BS.out 0; have s1 := blk_cell BS.out 1; have s2 := blk_cell BS.out 2; have s3 := blk_cell BS.out 3; have s4 := blk_cell BS.out 4; have s5 := blk_cell BS.out 5; have m0 := blk_cell BN.out 0; have m1 := blk_cell BN.out 1; have m2 := blk_cell BN.out 2; have m3 := blk_cell BN.out 3; have m4 := blk_cell BN.out 4; have m5 := blk_cell BN.out 5; have m6 := blk_cell BN.out 6; have m7 := blk_cell BN.out 7; simp only [List.getElem?_toArray, List.getElem?_cons_zero, List.getElem?_cons_succ] at s0 s1 s2 s3 s4 s5 m0 m1 m2 m3 m4 m5 m6 m7) | (go_at_call 92; refine (CAN.out B d _ (by with_reducible repeat (first | exact HB.out | apply below_drew1)) (by repeat (first | exact HC.out | refine Kd.C_drew ?_)) HD.out).mono ?_; rintro r W3 ⟨rfl, hb0⟩; have hb : Below W2.heap.size W2 W3 := (by first | exact hb0 | exact (below_drew1 (Below.refl W2.heap.size W2)).trans hb0); clear hb0; replace BS := Aside0.mk (blk_below BS.out hb); replace BN := Aside0.mk (blk_below BN.out hb); replace HB := Aside0.mk (below_step HB.out hb); clear hb HC HD; clear s0 s1 s2 s3 s4 s5 m0 m1 m2 m3 m4 m5 m6 m7; have s0 := blk_cell BS.out 0; have s1 := blk_cell BS.out 1; have s2 := blk_cell BS.out 2; have s3 := blk_cell BS.out 3; have s4 := blk_cell BS.out 4; have s5 := blk_cell BS.out 5; have m0 := blk_cell BN.out 0; have m1 := blk_cell BN.out 1; have m2 := blk_cell BN.out 2; have m3 := blk_cell BN.out 3; have m4 := blk_cell BN.out 4; have m5 := blk_cell BN.out 5; have m6 := blk_cell BN.out 6; have m7 := blk_cell BN.out 7; simp only [List.getElem?_toArray, List.getElem?_cons_zero, List.getElem?_cons_succ] at s0 s1 s2 s3 s4 s5 m0 m1 m2 m3 m4 m5 m6 m7)) | fail)
     by_cases h0 : o = 0
     ·
      subst h0
      have HO := Aside0.mk (show ((0 : Int) == 0) = true from rfl)
      go_wp2_with fail
      refine (ID4.out _ HB.out).mono ?_
      rintro r Wi ⟨rfl, hb⟩
      replace BS := Aside0.mk (blk_below BS.out hb)
      replace BN := Aside0.mk (blk_below BN.out hb)
      replace HB := Aside0.mk (below_step HB.out hb)
      clear hb
      clear s0 s1 s2 s3 s4 s5 m0 m1 m2 m3 m4 m5 m6 m7
      have s0 := blk_cell BS.out 0
      have s1 := blk_cell BS.out 1
      have s2 := blk_cell BS.out 2
      have s3 := blk_cell BS.out 3
      have s4 := blk_cell BS.out 4
      have s5 := blk_cell BS.out 5
      have m0 := blk_cell BN.out 0
      have m1 := blk_cell BN.out 1
      have m2 := blk_cell BN.out 2
      have m3 := blk_cell BN.out 3
      have m4 := blk_cell BN.out 4
      have m5 := blk_cell BN.out 5
      have m6 := blk_cell BN.out 6
      have m7 := blk_cell BN.out 7
      simp only [List.getElem?_toArray, List.getElem?_cons_zero, List.getElem?_cons_succ] at s0 s1 s2 s3 s4 s5 m0 m1 m2 m3 m4 m5 m6 m7
      cases b6 with
      | false =>
       go_wp2_with fail
       go_ret
       rw [HE.out, HO.out]
       exact ⟨by simp, HB.out⟩
      | true =>
       go_wp2_with fail
       refine (ID7.out _ HB.out).mono ?_
       rintro r Wj ⟨rfl, hb⟩
       replace BS := Aside0.mk (blk_below BS.out hb)
       replace BN := Aside0.mk (blk_below BN.out hb)
       replace HB := Aside0.mk (below_step HB.out hb)
       clear hb
       clear s0 s1 s2 s3 s4 s5 m0 m1 m2 m3 m4 m5 m6 m7
       have s0 := blk_cell BS.out 0
       have s1 := blk_cell BS.out 1
       have s2 := blk_cell BS.out 2
       have s3 := blk_cell BS.out 3
       have s4 := blk_cell BS.out 4
       have s5 := blk_cell BS.out 5
       have m0 := blk_cell BN.out 0
       have m1 := blk_cell BN.out 1
       have m2 := blk_cell BN.out 2
       have m3 := blk_cell BN.out 3
       have m4 := blk_cell BN.out 4
       have m5 := blk_cell BN.out 5
       have m6 := blk_cell BN.out 6
       have m7 := blk_cell BN.out 7
       simp only [List.getElem?_toArray, List.getElem?_cons_zero, List.getElem?_cons_succ] at s0 s1 s2 s3 s4 s5 m0 m1 m2 m3 m4 m5 m6 m7
       cases b7 with
       | false =>
        go_wp2_with fail
        go_ret
        rw [HE.out, HO.out]
        exact ⟨by simp, HB.out⟩
       | true =>
        go_wp2_with fail
        refine (LOC.out _ HB.out).mono ?_
        rintro r Wk ⟨rfl, hb⟩
        replace BS := Aside0.mk (blk_below BS.out hb)
        replace BN := Aside0.mk (blk_below BN.out hb)
        replace HB := Aside0.mk (below_step HB.out hb)
        clear hb
        clear s0 s1 s2 s3 s4 s5 m0 m1 m2 m3 m4 m5 m6 m7
        have s0 := blk_cell BS.out 0
        have s1 := blk_cell BS.out 1
        have s2 := blk_cell BS.out 2
        have s3 := blk_cell BS.out 3
        have s4 := blk_cell BS.out 4
        have s5 := blk_cell BS.out 5
        have m0 := blk_cell BN.out 0
        have m1 := blk_cell BN.out 1
        have m2 := blk_cell BN.out 2
        have m3 := blk_cell BN.out 3
        have m4 := blk_cell BN.out 4
        have m5 := blk_cell BN.out 5
        have m6 := blk_cell BN.out 6
        have m7 := blk_cell BN.out 7
        simp only [List.getElem?_toArray, List.getElem?_cons_zero, List.getElem?_cons_succ] at s0 s1 s2 s3 s4 s5 m0 m1 m2 m3 m4 m5 m6 m7
        go_wp2_with fail
        go_ret
        rw [HE.out, HO.out, HV.out]
        exact ⟨by simp, HB.out⟩
     ·
      have d0 : decide (o = 0) = false := decide_eq_false h0
      have d1 : (o == 0) = false := beq_eq_false_iff_ne.2 h0
      have HO := Aside0.mk d1
      clear d1
      go_wp2_with fail
      refine (LIV.out _ HB.out).mono ?_
      rintro r Wl ⟨rfl, hb⟩
      replace BS := Aside0.mk (blk_below BS.out hb)
      replace BN := Aside0.mk (blk_below BN.out hb)
      replace HB := Aside0.mk (below_step HB.out hb)
      clear hb
      clear s0 s1 s2 s3 s4 s5 m0 m1 m2 m3 m4 m5 m6 m7
      have s0 := blk_cell BS.out 0
      have s1 := blk_cell BS.out 1
      have s2 := blk_cell BS.out 2
      have s3 := blk_cell BS.out 3
      have s4 := blk_cell BS.out 4
      have s5 := blk_cell BS.out 5
      have m0 := blk_cell BN.out 0
      have m1 := blk_cell BN.out 1
      have m2 := blk_cell BN.out 2
      have m3 := blk_cell BN.out 3
      have m4 := blk_cell BN.out 4
      have m5 := blk_cell BN.out 5
      have m6 := blk_cell BN.out 6
      have m7 := blk_cell BN.out 7
      simp only [List.getElem?_toArray, List.getElem?_cons_zero, List.getElem?_cons_succ] at s0 s1 s2 s3 s4 s5 m0 m1 m2 m3 m4 m5 m6 m7
      cases b5 with
      | false =>
       go_wp2_with fail
       go_ret
       rw [HE.out, HO.out]
       exact ⟨by simp, HB.out⟩
      | true =>
       go_wp2_with fail
       refine (ID4.out _ HB.out).mono ?_
       rintro r Wi ⟨rfl, hb⟩
       replace BS := Aside0.mk (blk_below BS.out hb)
       replace BN := Aside0.mk (blk_below BN.out hb)
       replace HB := Aside0.mk (below_step HB.out hb)
       clear hb
       clear s0 s1 s2 s3 s4 s5 m0 m1 m2 m3 m4 m5 m6 m7
       have s0 := blk_cell BS.out 0
       have s1 := blk_cell BS.out 1
       have s2 := blk_cell BS.out 2
       have s3 := blk_cell BS.out 3
       have s4 := blk_cell BS.out 4
       have s5 := blk_cell BS.out 5
       have m0 := blk_cell BN.out 0
       have m1 := blk_cell BN.out 1
       have m2 := blk_cell BN.out 2
       have m3 := blk_cell BN.out 3
       have m4 := blk_cell BN.out 4
       have m5 := blk_cell BN.out 5
       have m6 := blk_cell BN.out 6
       have m7 := blk_cell BN.out 7
       simp only [List.getElem?_toArray, List.getElem?_cons_zero, List.getElem?_cons_succ] at s0 s1 s2 s3 s4 s5 m0 m1 m2 m3 m4 m5 m6 m7
       cases b6 with
       | false =>
        go_wp2_with fail
        go_ret
        rw [HE.out, HO.out]
        exact ⟨by simp, HB.out⟩
       | true =>
        go_wp2_with fail
        refine (ID7.out _ HB.out).mono ?_
        rintro r Wj ⟨rfl, hb⟩
        replace BS := Aside0.mk (blk_below BS.out hb)
        replace BN := Aside0.mk (blk_below BN.out hb)
        replace HB := Aside0.mk (below_step HB.out hb)
        clear hb
        clear s0 s1 s2 s3 s4 s5 m0 m1 m2 m3 m4 m5 m6 m7
        have s0 := blk_cell BS.out 0
        have s1 := blk_cell BS.out 1
        have s2 := blk_cell BS.out 2
        have s3 := blk_cell BS.out 3
        have s4 := blk_cell BS.out 4
        have s5 := blk_cell BS.out 5
        have m0 := blk_cell BN.out 0
        have m1 := blk_cell BN.out 1
        have m2 := blk_cell BN.out 2
        have m3 := blk_cell BN.out 3
        have m4 := blk_cell BN.out 4
        have m5 := blk_cell BN.out 5
        have m6 := blk_cell BN.out 6
        have m7 := blk_cell BN.out 7
        simp only [List.getElem?_toArray, List.getElem?_cons_zero, List.getElem?_cons_succ] at s0 s1 s2 s3 s4 s5 m0 m1 m2 m3 m4 m5 m6 m7
        cases b7 with
        | false =>
         go_wp2_with fail
         go_ret
         rw [HE.out, HO.out]
         exact ⟨by simp, HB.out⟩
        | true =>
         go_wp2_with fail
         refine (LOC.out _ HB.out).mono ?_
         rintro r Wk ⟨rfl, hb⟩
         replace BS := Aside0.mk (blk_below BS.out hb)
         replace BN := Aside0.mk (blk_below BN.out hb)
         replace HB := Aside0.mk (below_step HB.out hb)
         clear hb
         clear s0 s1 s2 s3 s4 s5 m0 m1 m2 m3 m4 m5 m6 m7
         have s0 := blk_cell BS.out 0
         have s1 := blk_cell BS.out 1
         have s2 := blk_cell BS.out 2
         have s3 := blk_cell BS.out 3
         have s4 := blk_cell BS.out 4
         have s5 := blk_cell BS.out 5
         have m0 := blk_cell BN.out 0
         have m1 := blk_cell BN.out 1
         have m2 := blk_cell BN.out 2
         have m3 := blk_cell BN.out 3
         have m4 := blk_cell BN.out 4
         have m5 := blk_cell BN.out 5
         have m6 := blk_cell BN.out 6
         have m7 := blk_cell BN.out 7
         simp only [List.getElem?_toArray, List.getElem?_cons_zero, List.getElem?_cons_succ] at s0 s1 s2 s3 s4 s5 m0 m1 m2 m3 m4 m5 m6 m7
         go_wp2_with fail
         go_ret
         rw [HE.out, HO.out, HV.out]
         exact ⟨by simp, HB.out⟩
  ·
   have di : decide (0 < i) = true := decide_eq_true (by omega)
   obtain ⟨Ap, cp, hpc1, hpc2⟩ := HPV.out (by omega)
   have wd0 := wrap_down i (by omega) (by omega)
   have wd3 : ((i - 1 : Nat) : Int) < (ns.length : Int) := by omega
   obtain ⟨j, hj⟩ : ∃ j, i - 1 = j := ⟨_, rfl⟩
   rw [hj] at wd0 wd3 hpc1
   have wd := (i64_w ((i : Int) - 1)).trans wd0
   have wd2 : (0 : Int) ≤ (j : Int) := by omega
   have HPC := Aside0.mk (And.intro hpc1 hpc2)
   have HI0 := Aside0.mk (show (i == 0) = false from beq_eq_false_iff_ne.2 hi0)
   clear wd0 hj hi0 hpc1 hpc2
   have CF : Aside0 (∀ w' : World, BelowOf W0 w' → (w'.cell? ⟨w.heap.size, 0, none⟩ = some (.int .u64 e) ∧ w'.cell? ⟨w.heap.size, 1, none⟩ = some (.int .u64 g) ∧ w'.cell? ⟨w.heap.size, 2, none⟩ = some (.int .u64 n) ∧ w'.cell? ⟨w.heap.size, 3, none⟩ = some (.int .i64 t) ∧ w'.cell? ⟨w.heap.size, 4, none⟩ = some (.slice As xs.length cs) ∧ w'.cell? ⟨w.heap.size, 5, none⟩ = some (.slice (some ad) ns.length cn) ∧ w'.cell? ⟨w.heap.size + 1, 0, none⟩ = some (.slice A0 p.length c0) ∧ w'.cell? ⟨w.heap.size + 1, 1, none⟩ = some (.slice A1 v.length c1) ∧ w'.cell? ⟨w.heap.size + 1, 2, none⟩ = some (.int .u64 o) ∧ w'.cell? ⟨w.heap.size + 1, 3, none⟩ = some (.int .i64 m) ∧ w'.cell? ⟨w.heap.size + 1, 4, none⟩ = some (.slice A4 h.length c4) ∧ w'.cell? ⟨w.heap.size + 1, 5, none⟩ = some (.int .u64 ep) ∧ w'.cell? ⟨w.heap.size + 1, 6, none⟩ = some (.int .u64 ge) ∧ w'.cell? ⟨w.heap.size + 1, 7, none⟩ = some (.slice A7 wa.length c7))) := ⟨fun w' hC => ⟨(hC.out.cell (World.block_lt_of_cell? _ _ s0)).trans s0, (hC.out.cell (World.block_lt_of_cell? _ _ s1)).trans s1, (hC.out.cell (World.block_lt_of_cell? _ _ s2)).trans s2, (hC.out.cell (World.block_lt_of_cell? _ _ s3)).trans s3, (hC.out.cell (World.block_lt_of_cell? _ _ s4)).trans s4, (hC.out.cell (World.block_lt_of_cell? _ _ s5)).trans s5, (hC.out.cell (World.block_lt_of_cell? _ _ m0)).trans m0, (hC.out.cell (World.block_lt_of_cell? _ _ m1)).trans m1, (hC.out.cell (World.block_lt_of_cell? _ _ m2)).trans m2, (hC.out.cell (World.block_lt_of_cell? _ _ m3)).trans m3, (hC.out.cell (World.block_lt_of_cell? _ _ m4)).trans m4, (hC.out.cell (World.block_lt_of_cell? _ _ m5)).trans m5, (hC.out.cell (World.block_lt_of_cell? _ _ m6)).trans m6, (hC.out.cell (World.block_lt_of_cell? _ _ m7)).trans m7⟩⟩
   have VP1 := Aside0.mk (fun (w' : World) (hC : BelowOf W0 w') => (VP.out w' (below_step HB.out hC.out)).mono (fun e w'' h => show e = .returned (.bool true) ∧ BelowOf W0 w'' from ⟨h.1, ⟨below_step hC.out h.2⟩⟩))
   clear s0 s1 s2 s3 s4 s5 m0 m1 m2 m3 m4 m5 m6 m7
   refine wp_region_below (by kernel_rfl) (by kernel_rfl) ?_
   repeat (first | go_big_quiet_skip | (go_big_quiet_want; rename_i K hK; refine quiet_mk (v := ?_) ?_ (hK _ ?_); rotate_left 1; (focus (intro w' hC; first | (go_simp; first | done | with_reducible rfl) | (obtain ⟨s0, s1, s2, s3, s4, s5, m0, m1, m2, m3, m4, m5, m6, m7⟩ := CF.out w' hC; go_simp; first | done | with_reducible rfl) | (have hp0 := ((below_step HB.out hC.out).cell (World.block_lt_of_cell? w _ HPC.out.1)).trans HPC.out.1; go_simp; first | done | with_reducible rfl) | (have hcv1 := Kd.C_string (P := Tryd.prog) (A := A0) (c := c0) Tryd.underlying22 Tryd.underlying5 Tryd.underlying9 (Kd.C_below HP.out (below_step HB.out hC.out)); go_simp; first | done | with_reducible rfl) | (have hcv2 := Kd.C_string (P := Tryd.prog) (A := Ap) (c := cp) Tryd.underlying22 Tryd.underlying5 Tryd.underlying9 (Kd.C_below HPC.out.2 (below_step HB.out hC.out)); go_simp; first | done | with_reducible rfl) | (have hle := HLE.out; go_simp; first | done | with_reducible rfl) | (go_simp; go_at_call 9; exact VP1.out w' hC))); clear hK K); try simp only [Act.put, List.setIfInBounds_toArray, List.set_cons_zero, List.set_cons_succ])
   refine wpQuiet_nil ?_
   intro W1 hb1
   have hb := hb1.out
   clear hb1 CF VP1
   replace BS := Aside0.mk (blk_below BS.out hb)
   replace BN := Aside0.mk (blk_below BN.out hb)
   replace HB := Aside0.mk (below_step HB.out hb)
   clear hb
   have s0 := blk_cell BS.out 0
   have s1 := blk_cell BS.out 1
   have s2 := blk_cell BS.out 2
   have s3 := blk_cell BS.out 3
   have s4 := blk_cell BS.out 4
   have s5 := blk_cell BS.out 5
   have m0 := blk_cell BN.out 0
   have m1 := blk_cell BN.out 1
   have m2 := blk_cell BN.out 2
   have m3 := blk_cell BN.out 3
   have m4 := blk_cell BN.out 4
   have m5 := blk_cell BN.out 5
   have m6 := blk_cell BN.out 6
   have m7 := blk_cell BN.out 7
   simp only [List.getElem?_toArray, List.getElem?_cons_zero, List.getElem?_cons_succ] at s0 s1 s2 s3 s4 s5 m0 m1 m2 m3 m4 m5 m6 m7
   rw [HLE.out]
   clear HLE
   cases b2 with
   | true =>
    go_wp2_with fail
    go_ret
    rw [HE.out, HI0.out]
    exact ⟨by simp, HB.out⟩
   | false =>
    rw [HI0.out] at HE
    go_wp2_with fail
    cases b3 with
    | false =>
     (first | go_region_with (first | (go_at_call 93; refine (PAR.out _ (by with_reducible repeat (first | exact HB.out | apply below_drew1))).mono ?_; rintro r W2 ⟨B, d, rfl, hd, hC, hb0⟩; have hb : Below W1.heap.size W1 W2 := (by first | exact hb0 | exact (below_drew1 (Below.refl W1.heap.size W1)).trans hb0); clear hb0; replace BS := Aside0.mk (blk_below BS.out hb); replace BN := Aside0.mk (blk_below BN.out hb); replace HB := Aside0.mk (below_step HB.out hb); have HC := Aside0.mk hC; have HD := Aside0.mk hd; clear hb hC hd; clear s0 s1 s2 s3 s4 s5 m0 m1 m2 m3 m4 m5 m6 m7; have s0 := blk_cell BS.out 0; have s1 := blk_cell BS.out 1; have s2 := blk_cell BS.out 2; have s3 := blk_cell BS.out 3; have s4 := blk_cell BS.out 4; have s5 := blk_cell BS.out 5; have m0 := blk_cell BN.out 0; have m1 := blk_cell BN.out 1; have m2 := blk_cell BN.out 2; have m3 := blk_cell BN.out 3; have m4 := blk_cell BN.out 4; have m5 := blk_cell BN.out 5; have m6 := blk_cell BN.out 6; have m7 := blk_cell BN.out 7; simp only [List.getElem?_toArray, List.getElem?_cons_zero, List.getElem?_cons_succ] at s0 s1 s2 s3 s4 s5 m0 m1 m2 m3 m4 m5 m6 m7) | (go_at_call 92; refine (CAN.out B d _ (by with_reducible repeat (first | exact HB.out | apply below_drew1)) (by repeat (first | exact HC.out | refine Kd.C_drew ?_)) HD.out).mono ?_; rintro r W3 ⟨rfl, hb0⟩; have hb : Below W2.heap.size W2 W3 := (by first | exact hb0 | exact (below_drew1 (Below.refl W2.heap.size W2)).trans hb0); clear hb0; replace BS := Aside0.mk (blk_below BS.out hb); replace BN := Aside0.mk (blk_below BN.out hb); replace HB := Aside0.mk (below_step HB.out hb); clear hb HC HD; clear s0 s1 s2 s3 s4 s5 m0 m1 m2 m3 m4 m5 m6 m7; have s0 := blk_cell BS.out 0; have s1 := blk_cell BS.out 1; have s2 := blk_cell BS.out 2; have s3 := blk_cell BS.out 3; have s4 := blk_cell BS.out 4; have s5 := blk_cell BS.out 5; have m0 := blk_cell BN.out 0; have m1 := blk_cell BN.out 1; have m2 := blk_cell BN.out 2; have m3 := blk_cell BN.out 3; have m4 := blk_cell BN.out 4; have m5 := blk_cell BN.out 5; have m6 := blk_cell BN.out 6; have m7 := blk_cell BN.out 7; simp only [List.getElem?_toArray, List.getElem?_cons_zero, List.getElem?_cons_succ] at s0 s1 s2 s3 s4 s5 m0 m1 m2 m3 m4 m5 m6 m7)) | fail)
     all_goals (go_wp2_with fail; go_ret; rw [HE.out]; exact ⟨by simp, HB.out⟩)
    | true =>
     by_cases hv : 40 < v.length
     ·
      have hv1 : decide ((40 : Int) < (v.length : Int)) = true := decide_eq_true (by omega)
      have HV := Aside0.mk (show decide (v.length ≤ 40) = false from decide_eq_false (by omega))
      clear hv
      (first | go_region_held3 (fun w' => w'.cell? ⟨w.heap.size, 0, none⟩ = some (.int .u64 e) ∧ w'.cell? ⟨w.heap.size, 1, none⟩ = some (.int .u64 g) ∧ w'.cell? ⟨w.heap.size, 2, none⟩ = some (.int .u64 n) ∧ w'.cell? ⟨w.heap.size, 3, none⟩ = some (.int .i64 t) ∧ w'.cell? ⟨w.heap.size, 4, none⟩ = some (.slice As xs.length cs) ∧ w'.cell? ⟨w.heap.size, 5, none⟩ = some (.slice (some ad) ns.length cn) ∧ w'.cell? ⟨w.heap.size + 1, 0, none⟩ = some (.slice A0 p.length c0) ∧ w'.cell? ⟨w.heap.size + 1, 1, none⟩ = some (.slice A1 v.length c1) ∧ w'.cell? ⟨w.heap.size + 1, 2, none⟩ = some (.int .u64 o) ∧ w'.cell? ⟨w.heap.size + 1, 3, none⟩ = some (.int .i64 m) ∧ w'.cell? ⟨w.heap.size + 1, 4, none⟩ = some (.slice A4 h.length c4) ∧ w'.cell? ⟨w.heap.size + 1, 5, none⟩ = some (.int .u64 ep) ∧ w'.cell? ⟨w.heap.size + 1, 6, none⟩ = some (.int .u64 ge) ∧ w'.cell? ⟨w.heap.size + 1, 7, none⟩ = some (.slice A7 wa.length c7)) (first | exact ⟨s0, s1, s2, s3, s4, s5, m0, m1, m2, m3, m4, m5, m6, m7⟩) (first | (go_at_call 93; refine (PAR.out _ (by with_reducible repeat (first | exact HB.out | apply below_drew1))).mono ?_; rintro r W2 ⟨B, d, rfl, hd, hC, hb0⟩; have hb : Below W1.heap.size W1 W2 := (by first | exact hb0 | exact (below_drew1 (Below.refl W1.heap.size W1)).trans hb0); clear hb0; replace BS := Aside0.mk (blk_below BS.out hb); replace BN := Aside0.mk (blk_below BN.out hb); replace HB := Aside0.mk (below_step HB.out hb); have HC := Aside0.mk hC; have HD := Aside0.mk hd; clear hb hC hd; clear s0 s1 s2 s3 s4 s5 m0 m1 m2 m3 m4 m5 m6 m7; have s0 := blk_cell BS.out 0; have s1 := blk_cell BS.out 1; have s2 := blk_cell BS.out 2; have s3 := blk_cell BS.out 3; have s4 := blk_cell BS.out 4; have s5 := blk_cell BS.out 5; have m0 := blk_cell BN.out 0; have m1 := blk_cell BN.out 1; have m2 := blk_cell BN.out 2; have m3 := blk_cell BN.out 3; have m4 := blk_cell BN.out 4; have m5 := blk_cell BN.out 5; have m6 := blk_cell BN.out 6; have m7 := blk_cell BN.out 7; simp only [List.getElem?_toArray, List.getElem?_cons_zero, List.getElem?_cons_succ] at s0 s1 s2 s3 s4 s5 m0 m1 m2 m3 m4 m5 m6 m7) | (go_at_call 92; refine (CAN.out B d _ (by with_reducible repeat (first | exact HB.out | apply below_drew1)) (by repeat (first | exact HC.out | refine Kd.C_drew ?_)) HD.out).mono ?_; rintro r W3 ⟨rfl, hb0⟩; have hb : Below W2.heap.size W2 W3 := (by first | exact hb0 | exact (below_drew1 (Below.refl W2.heap.size W2)).trans hb0); clear hb0; replace BS := Aside0.mk (blk_below BS.out hb); replace BN := Aside0.mk (blk_below BN.out hb); replace HB := Aside0.mk (below_step HB.out hb); clear hb HC HD; clear s0 s1 s2 s3 s4 s5 m0 m1 m2 m3 m4 m5 m6 m7; have s0 := blk_cell BS.out 0; have s1 := blk_cell BS.out 1; have s2 := blk_cell BS.out 2; have s3 := blk_cell BS.out 3; have s4 := blk_cell BS.out 4; have s5 := blk_cell BS.out 5; have m0 := blk_cell BN.out 0; have m1 := blk_cell BN.out 1; have m2 := blk_cell BN.out 2; have m3 := blk_cell BN.out 3; have m4 := blk_cell BN.out 4; have m5 := blk_cell BN.out 5; have m6 := blk_cell BN.out 6; have m7 := blk_cell BN.out 7; simp only [List.getElem?_toArray, List.getElem?_cons_zero, List.getElem?_cons_succ] at s0 s1 s2 s3 s4 s5 m0 m1 m2 m3 m4 m5 m6 m7)) | fail)
      go_wp2_with fail
      go_ret
      rw [HE.out, HV.out]
      exact ⟨by simp, HB.out⟩
     ·
      have hv1 : decide ((40 : Int) < (v.length : Int)) = false := decide_eq_false (by omega)
      have HV := Aside0.mk (show decide (v.length ≤ 40) = true from decide_eq_true (by omega))
      clear hv
      (first | go_region_held3 (fun w' => w'.cell? ⟨w.heap.size, 0, none⟩ = some (.int .u64 e) ∧ w'.cell? ⟨w.heap.size, 1, none⟩ = some (.int .u64 g) ∧ w'.cell? ⟨w.heap.size, 2, none⟩ = some (.int .u64 n) ∧ w'.cell? ⟨w.heap.size, 3, none⟩ = some (.int .i64 t) ∧ w'.cell? ⟨w.heap.size, 4, none⟩ = some (.slice As xs.length cs) ∧ w'.cell? ⟨w.heap.size, 5, none⟩ = some (.slice (some ad) ns.length cn) ∧ w'.cell? ⟨w.heap.size + 1, 0, none⟩ = some (.slice A0 p.length c0) ∧ w'.cell? ⟨w.heap.size + 1, 1, none⟩ = some (.slice A1 v.length c1) ∧ w'.cell? ⟨w.heap.size + 1, 2, none⟩ = some (.int .u64 o) ∧ w'.cell? ⟨w.heap.size + 1, 3, none⟩ = some (.int .i64 m) ∧ w'.cell? ⟨w.heap.size + 1, 4, none⟩ = some (.slice A4 h.length c4) ∧ w'.cell? ⟨w.heap.size + 1, 5, none⟩ = some (.int .u64 ep) ∧ w'.cell? ⟨w.heap.size + 1, 6, none⟩ = some (.int .u64 ge) ∧ w'.cell? ⟨w.heap.size + 1, 7, none⟩ = some (.slice A7 wa.length c7)) (first | exact ⟨s0, s1, s2, s3, s4, s5, m0, m1, m2, m3, m4, m5, m6, m7⟩) (first | (go_at_call 93; refine (PAR.out _ (by with_reducible repeat (first | exact HB.out | apply below_drew1))).mono ?_; rintro r W2 ⟨B, d, rfl, hd, hC, hb0⟩; have hb : Below W1.heap.size W1 W2 := (by first | exact hb0 | exact (below_drew1 (Below.refl W1.heap.size W1)).trans hb0); clear hb0; replace BS := Aside0.mk (blk_below BS.out hb); replace BN := Aside0.mk (blk_below BN.out hb); replace HB := Aside0.mk (below_step HB.out hb); have HC := Aside0.mk hC; have HD := Aside0.mk hd; clear hb hC hd; clear s0 s1 s2 s3 s4 s5 m0 m1 m2 m3 m4 m5 m6 m7; have s0 := blk_cell BS.out 0; have s1 := blk_cell BS.out 1; have s2 := blk_cell BS.out 2; have s3 := blk_cell BS.out 3; have s4 := blk_cell BS.out 4; have s5 := blk_cell BS.out 5; have m0 := blk_cell BN.out 0; have m1 := blk_cell BN.out 1; have m2 := blk_cell BN.out 2; have m3 := blk_cell BN.out 3; have m4 := blk_cell BN.out 4; have m5 := blk_cell BN.out 5; have m6 := blk_cell BN.out 6; have m7 := blk_cell BN.out 7; simp only [List.getElem?_toArray, List.getElem?_cons_zero, List.getElem?_cons_succ] at s0 s1 s2 s3 s4 s5 m0 m1 m2 m3 m4 m5 m6 m7) | (go_at_call 92; refine (CAN.out B d _ (by with_reducible repeat (first | exact HB.out | apply below_drew1)) (by repeat (first | exact HC.out | refine Kd.C_drew ?_)) HD.out).mono ?_; rintro r W3 ⟨rfl, hb0⟩; have hb : Below W2.heap.size W2 W3 := (by first | exact hb0 | exact (below_drew1 (Below.refl W2.heap.size W2)).trans hb0); clear hb0; replace BS := Aside0.mk (blk_below BS.out hb); replace BN := Aside0.mk (blk_below BN.out hb); replace HB := Aside0.mk (below_step HB.out hb); clear hb HC HD; clear s0 s1 s2 s3 s4 s5 m0 m1 m2 m3 m4 m5 m6 m7; have s0 := blk_cell BS.out 0; have s1 := blk_cell BS.out 1; have s2 := blk_cell BS.out 2; have s3 := blk_cell BS.out 3; have s4 := blk_cell BS.out 4; have s5 := blk_cell BS.out 5; have m0 := blk_cell BN.out 0; have m1 := blk_cell BN.out 1; have m2 := blk_cell BN.out 2; have m3 := blk_cell BN.out 3; have m4 := blk_cell BN.out 4; have m5 := blk_cell BN.out 5; have m6 := blk_cell BN.out 6; have m7 := blk_cell BN.out 7; simp only [List.getElem?_toArray, List.getElem?_cons_zero, List.getElem?_cons_succ] at s0 s1 s2 s3 s4 s5 m0 m1 m2 m3 m4 m5 m6 m7)) | fail)
      by_cases h0 : o = 0
      ·
       subst h0
       have HO := Aside0.mk (show ((0 : Int) == 0) = true from rfl)
       go_wp2_with fail
       refine (ID4.out _ HB.out).mono ?_
       rintro r Wi ⟨rfl, hb⟩
       replace BS := Aside0.mk (blk_below BS.out hb)
       replace BN := Aside0.mk (blk_below BN.out hb)
       replace HB := Aside0.mk (below_step HB.out hb)
       clear hb
       clear s0 s1 s2 s3 s4 s5 m0 m1 m2 m3 m4 m5 m6 m7
       have s0 := blk_cell BS.out 0
       have s1 := blk_cell BS.out 1
       have s2 := blk_cell BS.out 2
       have s3 := blk_cell BS.out 3
       have s4 := blk_cell BS.out 4
       have s5 := blk_cell BS.out 5
       have m0 := blk_cell BN.out 0
       have m1 := blk_cell BN.out 1
       have m2 := blk_cell BN.out 2
       have m3 := blk_cell BN.out 3
       have m4 := blk_cell BN.out 4
       have m5 := blk_cell BN.out 5
       have m6 := blk_cell BN.out 6
       have m7 := blk_cell BN.out 7
       simp only [List.getElem?_toArray, List.getElem?_cons_zero, List.getElem?_cons_succ] at s0 s1 s2 s3 s4 s5 m0 m1 m2 m3 m4 m5 m6 m7
       cases b6 with
       | false =>
        go_wp2_with fail
        go_ret
        rw [HE.out, HO.out]
        exact ⟨by simp, HB.out⟩
       | true =>
        go_wp2_with fail
        refine (ID7.out _ HB.out).mono ?_
        rintro r Wj ⟨rfl, hb⟩
        replace BS := Aside0.mk (blk_below BS.out hb)
        replace BN := Aside0.mk (blk_below BN.out hb)
        replace HB := Aside0.mk (below_step HB.out hb)
        clear hb
        clear s0 s1 s2 s3 s4 s5 m0 m1 m2 m3 m4 m5 m6 m7
        have s0 := blk_cell BS.out 0
        have s1 := blk_cell BS.out 1
        have s2 := blk_cell BS.out 2
        have s3 := blk_cell BS.out 3
        have s4 := blk_cell BS.out 4
        have s5 := blk_cell BS.out 5
        have m0 := blk_cell BN.out 0
        have m1 := blk_cell BN.out 1
        have m2 := blk_cell BN.out 2
        have m3 := blk_cell BN.out 3
        have m4 := blk_cell BN.out 4
        have m5 := blk_cell BN.out 5
        have m6 := blk_cell BN.out 6
        have m7 := blk_cell BN.out 7
        simp only [List.getElem?_toArray, List.getElem?_cons_zero, List.getElem?_cons_succ] at s0 s1 s2 s3 s4 s5 m0 m1 m2 m3 m4 m5 m6 m7
        cases b7 with
        | false =>
         go_wp2_with fail
         go_ret
         rw [HE.out, HO.out]
         exact ⟨by simp, HB.out⟩
        | true =>
         go_wp2_with fail
         refine (LOC.out _ HB.out).mono ?_
         rintro r Wk ⟨rfl, hb⟩
         replace BS := Aside0.mk (blk_below BS.out hb)
         replace BN := Aside0.mk (blk_below BN.out hb)
         replace HB := Aside0.mk (below_step HB.out hb)
         clear hb
         clear s0 s1 s2 s3 s4 s5 m0 m1 m2 m3 m4 m5 m6 m7
         have s0 := blk_cell BS.out 0
         have s1 := blk_cell BS.out 1
         have s2 := blk_cell BS.out 2
         have s3 := blk_cell BS.out 3
         have s4 := blk_cell BS.out 4
         have s5 := blk_cell BS.out 5
         have m0 := blk_cell BN.out 0
         have m1 := blk_cell BN.out 1
         have m2 := blk_cell BN.out 2
         have m3 := blk_cell BN.out 3
         have m4 := blk_cell BN.out 4
         have m5 := blk_cell BN.out 5
         have m6 := blk_cell BN.out 6
         have m7 := blk_cell BN.out 7
         simp only [List.getElem?_toArray, List.getElem?_cons_zero, List.getElem?_cons_succ] at s0 s1 s2 s3 s4 s5 m0 m1 m2 m3 m4 m5 m6 m7
         go_wp2_with fail
         go_ret
         rw [HE.out, HO.out, HV.out]
         exact ⟨by simp, HB.out⟩
      ·
       have d0 : decide (o = 0) = false := decide_eq_false h0
       have d1 : (o == 0) = false := beq_eq_false_iff_ne.2 h0
       have HO := Aside0.mk d1
       clear d1
       go_wp2_with fail
       refine (LIV.out _ HB.out).mono ?_
       rintro r Wl ⟨rfl, hb⟩
       replace BS := Aside0.mk (blk_below BS.out hb)
       replace BN := Aside0.mk (blk_below BN.out hb)
       replace HB := Aside0.mk (below_step HB.out hb)
       clear hb
       clear s0 s1 s2 s3 s4 s5 m0 m1 m2 m3 m4 m5 m6 m7
       have s0 := blk_cell BS.out 0
       have s1 := blk_cell BS.out 1
       have s2 := blk_cell BS.out 2
       have s3 := blk_cell BS.out 3
       have s4 := blk_cell BS.out 4
       have s5 := blk_cell BS.out 5
       have m0 := blk_cell BN.out 0
       have m1 := blk_cell BN.out 1
       have m2 := blk_cell BN.out 2
       have m3 := blk_cell BN.out 3
       have m4 := blk_cell BN.out 4
       have m5 := blk_cell BN.out 5
       have m6 := blk_cell BN.out 6
       have m7 := blk_cell BN.out 7
       simp only [List.getElem?_toArray, List.getElem?_cons_zero, List.getElem?_cons_succ] at s0 s1 s2 s3 s4 s5 m0 m1 m2 m3 m4 m5 m6 m7
       cases b5 with
       | false =>
        go_wp2_with fail
        go_ret
        rw [HE.out, HO.out]
        exact ⟨by simp, HB.out⟩
       | true =>
        go_wp2_with fail
        refine (ID4.out _ HB.out).mono ?_
        rintro r Wi ⟨rfl, hb⟩
        replace BS := Aside0.mk (blk_below BS.out hb)
        replace BN := Aside0.mk (blk_below BN.out hb)
        replace HB := Aside0.mk (below_step HB.out hb)
        clear hb
        clear s0 s1 s2 s3 s4 s5 m0 m1 m2 m3 m4 m5 m6 m7
        have s0 := blk_cell BS.out 0
        have s1 := blk_cell BS.out 1
        have s2 := blk_cell BS.out 2
        have s3 := blk_cell BS.out 3
        have s4 := blk_cell BS.out 4
        have s5 := blk_cell BS.out 5
        have m0 := blk_cell BN.out 0
        have m1 := blk_cell BN.out 1
        have m2 := blk_cell BN.out 2
        have m3 := blk_cell BN.out 3
        have m4 := blk_cell BN.out 4
        have m5 := blk_cell BN.out 5
        have m6 := blk_cell BN.out 6
        have m7 := blk_cell BN.out 7
        simp only [List.getElem?_toArray, List.getElem?_cons_zero, List.getElem?_cons_succ] at s0 s1 s2 s3 s4 s5 m0 m1 m2 m3 m4 m5 m6 m7
        cases b6 with
        | false =>
         go_wp2_with fail
         go_ret
         rw [HE.out, HO.out]
         exact ⟨by simp, HB.out⟩
        | true =>
         go_wp2_with fail
         refine (ID7.out _ HB.out).mono ?_
         rintro r Wj ⟨rfl, hb⟩
         replace BS := Aside0.mk (blk_below BS.out hb)
         replace BN := Aside0.mk (blk_below BN.out hb)
         replace HB := Aside0.mk (below_step HB.out hb)
         clear hb
         clear s0 s1 s2 s3 s4 s5 m0 m1 m2 m3 m4 m5 m6 m7
         have s0 := blk_cell BS.out 0
         have s1 := blk_cell BS.out 1
         have s2 := blk_cell BS.out 2
         have s3 := blk_cell BS.out 3
         have s4 := blk_cell BS.out 4
         have s5 := blk_cell BS.out 5
         have m0 := blk_cell BN.out 0
         have m1 := blk_cell BN.out 1
         have m2 := blk_cell BN.out 2
         have m3 := blk_cell BN.out 3
         have m4 := blk_cell BN.out 4
         have m5 := blk_cell BN.out 5
         have m6 := blk_cell BN.out 6
         have m7 := blk_cell BN.out 7
         simp only [List.getElem?_toArray, List.getElem?_cons_zero, List.getElem?_cons_succ] at s0 s1 s2 s3 s4 s5 m0 m1 m2 m3 m4 m5 m6 m7
         cases b7 with
         | false =>
          go_wp2_with fail
          go_ret
          rw [HE.out, HO.out]
          exact ⟨by simp, HB.out⟩
         | true =>
          go_wp2_with fail
          refine (LOC.out _ HB.out).mono ?_
          rintro r Wk ⟨rfl, hb⟩
          replace BS := Aside0.mk (blk_below BS.out hb)
          replace BN := Aside0.mk (blk_below BN.out hb)
          replace HB := Aside0.mk (below_step HB.out hb)
          clear hb
          clear s0 s1 s2 s3 s4 s5 m0 m1 m2 m3 m4 m5 m6 m7
          have s0 := blk_cell BS.out 0
          have s1 := blk_cell BS.out 1
          have s2 := blk_cell BS.out 2
          have s3 := blk_cell BS.out 3
          have s4 := blk_cell BS.out 4
          have s5 := blk_cell BS.out 5
          have m0 := blk_cell BN.out 0
          have m1 := blk_cell BN.out 1
          have m2 := blk_cell BN.out 2
          have m3 := blk_cell BN.out 3
          have m4 := blk_cell BN.out 4
          have m5 := blk_cell BN.out 5
          have m6 := blk_cell BN.out 6
          have m7 := blk_cell BN.out 7
          simp only [List.getElem?_toArray, List.getElem?_cons_zero, List.getElem?_cons_succ] at s0 s1 s2 s3 s4 s5 m0 m1 m2 m3 m4 m5 m6 m7
          go_wp2_with fail
          go_ret
          rw [HE.out, HO.out, HV.out]
          exact ⟨by simp, HB.out⟩
def durSe (x : Se) : Se := ⟨x.f0, 0, []⟩
def durNo (x : No) : No := ⟨x.f0, x.f1, x.f2, x.f3, x.f4, x.f5, x.f6, []⟩
set_option maxHeartbeats 4000000 in
set_option maxRecDepth 100000 in
theorem durable_ok (e g n t : Int) (As : Option Addr) (cs : Nat) (xs : List Se) (An : Option Addr) (cn : Nat) (ns : List No) (w : World) (h1 : Kd.C kSe w As xs.length xs) (hc1 : xs.length ≤ cs) (h2 : Kd.C kNo w An ns.length ns) (hc2 : ns.length ≤ cn) (hs : SmS xs ns) :
  Calls Tryd.prog 62 #[.agg #[.int .u64 e, .int .u64 g, .int .u64 n, .int .i64 t, .slice As xs.length cs, .slice An ns.length cn]] w fun r w' => ∃ Bs ds Bn dn, r = .returned (.agg #[.int .u64 e, .int .u64 g, .int .u64 n, .int .i64 0, .slice Bs (xs.map durSe).length ds, .slice Bn (ns.map durNo).length dn]) ∧ SK w w' w.heap.size w'.heap.size Bs ds (xs.map durSe) Bn dn (ns.map durNo) ∧ Below w.heap.size w w' := by
 have H1 := Aside0.mk h1
 have H2 := Aside0.mk h2
 have HS := Aside0.mk hs
 have hxl := hs.x
 have hnl := hs.n
 clear h1 hc1 h2 hc2 hs
 go_enter Tryd.func62, Tryd.ntmps62
 go_upto_region 2 with (fail)
 have bs := blk_alloc (blk_alloc (blk_new w (.cells #[.int .u64 e, .int .u64 g, .int .u64 n, .int .i64 t, .slice As xs.length cs, .slice An ns.length cn] 36)) (.cells #[.int .u64 0, .int .u64 0, .int .u64 0, .int .i64 0, .slice none 0 0, .slice none 0 0] 36)) (.cells #[.int .u64 e, .int .u64 g, .int .u64 n, .int .i64 0, .slice none 0 0, .slice none 0 0] 36)
 have bz := blk_alloc (blk_new (w.alloc (.cells #[.int .u64 e, .int .u64 g, .int .u64 n, .int .i64 t, .slice As xs.length cs, .slice An ns.length cn] 36)) (.cells #[.int .u64 0, .int .u64 0, .int .u64 0, .int .i64 0, .slice none 0 0, .slice none 0 0] 36)) (.cells #[.int .u64 e, .int .u64 g, .int .u64 n, .int .i64 0, .slice none 0 0, .slice none 0 0] 36)
 have bo := blk_new ((w.alloc (.cells #[.int .u64 e, .int .u64 g, .int .u64 n, .int .i64 t, .slice As xs.length cs, .slice An ns.length cn] 36)).alloc (.cells #[.int .u64 0, .int .u64 0, .int .u64 0, .int .i64 0, .slice none 0 0, .slice none 0 0] 36)) (.cells #[.int .u64 e, .int .u64 g, .int .u64 n, .int .i64 0, .slice none 0 0, .slice none 0 0] 36)
 have hB := below_alloc (below_alloc (below_alloc (Below.refl w.heap.size w) (.cells #[.int .u64 e, .int .u64 g, .int .u64 n, .int .i64 t, .slice As xs.length cs, .slice An ns.length cn] 36)) (.cells #[.int .u64 0, .int .u64 0, .int .u64 0, .int .i64 0, .slice none 0 0, .slice none 0 0] 36)) (.cells #[.int .u64 e, .int .u64 g, .int .u64 n, .int .i64 0, .slice none 0 0, .slice none 0 0] 36)
 simp only [World.size_alloc] at bz bo
 generalize ((w.alloc (.cells #[.int .u64 e, .int .u64 g, .int .u64 n, .int .i64 t, .slice As xs.length cs, .slice An ns.length cn] 36)).alloc (.cells #[.int .u64 0, .int .u64 0, .int .u64 0, .int .i64 0, .slice none 0 0, .slice none 0 0] 36)).alloc (.cells #[.int .u64 e, .int .u64 g, .int .u64 n, .int .i64 0, .slice none 0 0, .slice none 0 0] 36) = W0 at *
 have BS := Aside0.mk bs
 have BZ := Aside0.mk bz
 have BO := Aside0.mk bo
 have HB := Aside0.mk hB
 clear bs bz bo hB
 obtain ⟨s0, s1, s2, s3, s4, s5⟩ := cells6 BS.out
 go_wp2_with fail
 clear s0 s1 s2 s3 s4 s5
 go_loopg [18] (xs.length + 1) (fun kq v18 w' => ∃ (i : Nat) (B : Option Addr) (d : Nat), v18 = .int .i64 i ∧ Aside0 (kq + i = xs.length + 1 ∧ i ≤ xs.length) ∧ Aside0 (Kd.S aSe 70 w' w.heap.size (fun k => w.heap.size + 3 ≤ k) (.slice B i d) ((xs.take i).map durSe)) ∧ Aside0 (w'.heap[w.heap.size]? = some (.cells #[.int .u64 e, .int .u64 g, .int .u64 n, .int .i64 t, .slice As xs.length cs, .slice An ns.length cn] 36 (0, 0))) ∧ Aside0 (w'.heap[w.heap.size + 1]? = some (.cells #[.int .u64 0, .int .u64 0, .int .u64 0, .int .i64 0, .slice none 0 0, .slice none 0 0] 36 (0, 0))) ∧ Aside0 (w'.heap[w.heap.size + 1 + 1]? = some (.cells #[.int .u64 e, .int .u64 g, .int .u64 n, .int .i64 0, .slice B i d, .slice none 0 0] 36 (0, 0))) ∧ Aside0 (Below w.heap.size w w'))
 case atStart => exact ⟨0, none, 0, rfl, ⟨⟨by omega, by omega⟩⟩, ⟨by rw [List.take_zero]; exact Kd.S_nil _ _ _ _ _⟩, BS, BZ, BO, HB⟩
 case round =>
  clear BS BZ BO HB
  obtain ⟨i, B, d, rfl, HJ, HR, BS, BZ, BO, HB⟩ := hrel
  have hj0 := HJ.out
  by_cases hj : i < xs.length
  ·
   have c1 : decide ((i : Int) < (xs.length : Int)) = true := decide_eq_true (by omega)
   have ci : (0 : Int) ≤ (i : Int) := by omega
   have ci2 : (i : Int) < (xs.length : Int) := by omega
   have HT := Aside0.mk (show (xs.take (i + 1)).map durSe = (xs.take i).map durSe ++ [durSe xs[i]] by rw [List.take_succ_eq_append_getElem hj, List.map_append]; rfl)
   have HLN := Aside0.mk (show ((xs.take i).map durSe).length = i by rw [List.length_map, List.length_take]; omega)
   obtain ⟨ad, A2, c2, eA, hx0, hx1, hx2, hl2, hi2⟩ := at_T70 H1.out (i : Int) ci ci2
   have ex : rd_T70 xs (i : Int) = xs[i] := by unfold rd_T70; rw [Int.toNat_natCast, List.getD_eq_getElem?_getD, List.getElem?_eq_getElem hj]; rfl
   rw [ex] at hx0 hx1 hx2 hl2 hi2
   rw [Int.toNat_natCast] at hx0 hx1 hx2
   cases eA
   have hal : ∀ {a : Addr} {z : Value}, w.cell? a = some z → wr.cell? a = some z := fun hz => (HB.out.cell (World.block_lt_of_cell? w _ hz)).trans hz
   replace hx0 := hal hx0
   replace hx1 := hal hx1
   replace hx2 := hal hx2
   clear hal hl2 hi2 ex
   obtain ⟨y, hy⟩ : ∃ y, xs[i] = y := ⟨_, rfl⟩
   rw [hy] at hx0 hx1 hx2 HT
   clear hy
   obtain ⟨id, dl, q⟩ := y
   simp only at hx0 hx1 hx2
   obtain ⟨x, hxq⟩ : ∃ x, (xs.take i).map durSe = x := ⟨_, rfl⟩
   rw [hxq] at HT HR HLN
   clear hxq
   go_upto_region 5 with (fail)
   have bs := blk_alloc BS.out (.cells #[.int .u64 id, .int .i64 dl, .slice A2 q.length c2] 70)
   have bz := blk_alloc BZ.out (.cells #[.int .u64 id, .int .i64 dl, .slice A2 q.length c2] 70)
   have bo := blk_alloc BO.out (.cells #[.int .u64 id, .int .i64 dl, .slice A2 q.length c2] 70)
   have bn := blk_new wr (.cells #[.int .u64 id, .int .i64 dl, .slice A2 q.length c2] 70)
   have hba := below_alloc (Below.refl wr.heap.size wr) (.cells #[.int .u64 id, .int .i64 dl, .slice A2 q.length c2] 70)
   have HR2 := Aside0.mk (Kd.S_below HR.out hba)
   have HB2 := Aside0.mk (below_step HB.out hba)
   have HG2 := Aside0.mk (blk_lt BO.out)
   generalize wr.heap.size = g2 at *
   generalize wr.alloc (.cells #[.int .u64 id, .int .i64 dl, .slice A2 q.length c2] 70) = W3 at *
   have BS2 := Aside0.mk bs
   have BZ2 := Aside0.mk bz
   have BO2 := Aside0.mk bo
   have BN2 := Aside0.mk bn
   clear bs bz bo bn hba HR HB BS BZ BO hx0 hx1 hx2
   have n0 := (cells3 BN2.out).1
   have o4 := (cells6 BO2.out).2.2.2.2.1
   have HZ := Aside0.mk (show (∀ w5, W3.grownBy w5 (Value.slice B i d).ownBlock → w5.heap[w.heap.size + 1 + 1]? = some (.cells #[.int .u64 e, .int .u64 g, .int .u64 n, .int .i64 0, .slice B i d, .slice none 0 0] 36 (0, 0)) ∧ w5.cell? ⟨w.heap.size + 1 + 1, 4, none⟩ = some (.slice B i d) ∧ w5.frozen? ⟨w.heap.size + 1 + 1, 4, none⟩ = false ∧ w5.heap[w.heap.size]? = some (.cells #[.int .u64 e, .int .u64 g, .int .u64 n, .int .i64 t, .slice (some ad) xs.length cs, .slice An ns.length cn] 36 (0, 0)) ∧ w5.heap[w.heap.size + 1]? = some (.cells #[.int .u64 0, .int .u64 0, .int .u64 0, .int .i64 0, .slice none 0 0, .slice none 0 0] 36 (0, 0))) from fun w5 hg => by
    have hn1 : ∀ {b : Nat} {c : Array Value}, W3.heap[b]? = some (.cells c 36 (0, 0)) → some b ≠ (Value.slice B i d).ownBlock := fun hb => Kd.R_ne (Kd.S_R HR2.out) hb (by decide)
    have h1 := blk_grown BO2.out hg (hn1 BO2.out)
    exact ⟨h1, (cells6 h1).2.2.2.2.1, blk_frozen h1 4, blk_grown BS2.out hg (hn1 BS2.out), blk_grown BZ2.out hg (hn1 BZ2.out)⟩)
   go_wp2_with (first | ((with_reducible refine gate_builtin (b := .append) (xs := #[.tmp 23, .tmp 27]) rfl ?_); at_builtin; refine Kd.S_append aSe (w0 := w) w.heap.size rfl (.tmp 23) (.tmp 27) 33 70 (.agg #[(.int .u64 0), (.int .i64 0), (.slice none 0 0)]) 40 rfl Tryd.underlying33 info70 rfl (by decide) (by omega) (.slice B i d) x (⟨id, 0, []⟩ : Se) [.int .u64 id, .int .i64 0, .slice none 0 0] (fun k => w.heap.size + 3 ≤ k) (fun _ => False) ?eS ?eX ?aP (fun _ hk => hk.elim) ?aF ?aO HB2.out HB2.out.size ?aL ?_; (case eS => first | rfl | simp [Act.eval, Act.put]); (case eX => first | rfl | simp [Act.eval, Act.put]); (case aP => exact aSe_mk _ _ _ (⟨id, 0, []⟩ : Se) (Kd.S_nil _ _ _ _ _)); (case aF => exact (fun k hk => by have := HG2.out; have h3 := blk_lt BN2.out; show w.heap.size + 3 ≤ k; omega)); (case aO => exact Kd.S_mono HR2.out (fun k hk => ⟨hk, fun h => h.elim⟩)); (case aL => have := HLN.out; omega); intro v1 w5 ho hb hg hat; obtain ⟨B1, d1, rfl⟩ := Kd.S_slice ho; have HO5 := Aside0.mk ho; have HB5 := Aside0.mk hb; have HG5 := Aside0.mk hg; have y0 := (HZ.out w5 hg).2.1; have y1 := (HZ.out w5 hg).2.2.1; clear ho hb hg hat))
   have hz := HZ.out w5 HG5.out
   have hj2 := HJ.out
   have e1 := HLN.out
   have eL : (x ++ [(⟨id, 0, []⟩ : Se)]).length = i + 1 := by rw [List.length_append, e1]; rfl
   have HO6 := HO5.out
   rw [eL] at HO6
   obtain ⟨k1, rfl⟩ : ∃ k1, gk = k1 + 1 := ⟨gk - 1, by omega⟩
   go_roundg k1
   case measure => omega
   case rel =>
    rw [e1]
    refine ⟨i + 1, B1, d1, by go_num, ⟨⟨by omega, by omega⟩⟩, ⟨?_⟩, ⟨blk_far hz.2.2.2.1 (show w.heap.size ≠ w.heap.size + 1 + 1 by omega) _⟩, ⟨blk_far hz.2.2.2.2 (show w.heap.size + 1 ≠ w.heap.size + 1 + 1 by omega) _⟩, ⟨blk_put hz.1 4 _ rfl⟩, ⟨below_set HB5.out (by omega)⟩⟩
    rw [HT.out]
    exact Kd.S_far HO6 (fun k hk => by show k ≠ w.heap.size + 1 + 1; have : w.heap.size + 3 ≤ k := hk; omega) _
  ·
   have c1 : decide ((i : Int) < (xs.length : Int)) = false := decide_eq_false (by omega)
   obtain rfl : i = xs.length := by omega
   rw [List.take_length] at HR
   obtain ⟨s0, s1, s2, s3, s4, s5⟩ := cells6 BS.out
   have HSE := Aside0.mk (Kd.S_mono (Kd.S_bound HR.out) (ok' := fun k => w.heap.size + 3 ≤ k ∧ k < wr.heap.size) (fun k hk => ⟨hk.1, hk.2.2.1⟩))
   have HO2 := Aside0.mk (blk_lt BO.out)
   have HTT := Aside0.mk (Nat.le_refl wr.heap.size)
   clear HR H1
   go_wp2_with fail
   clear s0 s1 s2 s3 s4 s5 BS
   obtain ⟨T1, hT1⟩ : ∃ T1, wr.heap.size = T1 := ⟨_, rfl⟩
   have HTT : Aside0 (T1 ≤ wr.heap.size) := ⟨by omega⟩
   rw [hT1] at HSE HO2
   clear hT1
   go_loopg [34] (ns.length + 1) (fun kq v34 w' => ∃ (i2 : Nat) (A : Option Addr) (c : Nat), v34 = .int .i64 i2 ∧ Aside0 (kq + i2 = ns.length + 1 ∧ i2 ≤ ns.length) ∧ Aside0 (Kd.S aNo 76 w' w.heap.size (fun k => T1 ≤ k) (.slice A i2 c) ((ns.take i2).map durNo)) ∧ Aside0 (Kd.S aSe 70 w' w.heap.size (fun k => w.heap.size + 3 ≤ k ∧ k < T1) (.slice B xs.length d) (xs.map durSe)) ∧ Aside0 (w'.heap[w.heap.size + 1]? = some (.cells #[.int .u64 0, .int .u64 0, .int .u64 0, .int .i64 0, .slice none 0 0, .slice none 0 0] 36 (0, 0))) ∧ Aside0 (w'.heap[w.heap.size + 1 + 1]? = some (.cells #[.int .u64 e, .int .u64 g, .int .u64 n, .int .i64 0, .slice B xs.length d, .slice A i2 c] 36 (0, 0))) ∧ Aside0 (Below w.heap.size w w') ∧ Aside0 (T1 ≤ w'.heap.size))
   case atStart => exact ⟨0, none, 0, rfl, ⟨⟨by omega, by omega⟩⟩, ⟨by rw [List.take_zero]; exact Kd.S_nil _ _ _ _ _⟩, HSE, BZ, BO, HB, HTT⟩
   case round =>
    clear HSE BZ BO HB HTT HJ
    obtain ⟨i2, A, c, rfl, HJ, HR, HSE, BZ, BO, HB, HTT⟩ := hrel
    have hj0 := HJ.out
    by_cases hj : i2 < ns.length
    ·
     have c1b : decide ((i2 : Int) < (ns.length : Int)) = true := decide_eq_true (by omega)
     have ci : (0 : Int) ≤ (i2 : Int) := by omega
     have ci2 : (i2 : Int) < (ns.length : Int) := by omega
     have HT := Aside0.mk (show (ns.take (i2 + 1)).map durNo = (ns.take i2).map durNo ++ [durNo ns[i2]] by rw [List.take_succ_eq_append_getElem hj, List.map_append]; rfl)
     have HLN := Aside0.mk (show ((ns.take i2).map durNo).length = i2 by rw [List.length_map, List.length_take]; omega)
     have hsm := HS.out.m ns[i2] (List.getElem_mem hj)
     obtain ⟨ad, C0, k0, C1, k1', C4, k4, C7, k7, eA, hx0, hx1, hx2, hx3, hx4, hx5, hx6, hx7, hl0, hi0, hl1, hi1, hl4, hi4, hl7, hi7⟩ := at_T76 H2.out (i2 : Int) ci ci2
     have ex : rd_T76 ns (i2 : Int) = ns[i2] := by unfold rd_T76; rw [Int.toNat_natCast, List.getD_eq_getElem?_getD, List.getElem?_eq_getElem hj]; rfl
     rw [ex] at hx0 hx1 hx2 hx3 hx4 hx5 hx6 hx7 hl0 hi0 hl1 hi1 hl4 hi4 hl7 hi7
     rw [Int.toNat_natCast] at hx0 hx1 hx2 hx3 hx4 hx5 hx6 hx7
     cases eA
     have hal : ∀ {a : Addr} {z : Value}, w.cell? a = some z → wr.cell? a = some z := fun hz => (HB.out.cell (World.block_lt_of_cell? w _ hz)).trans hz
     replace hx0 := hal hx0
     replace hx1 := hal hx1
     replace hx2 := hal hx2
     replace hx3 := hal hx3
     replace hx4 := hal hx4
     replace hx5 := hal hx5
     replace hx6 := hal hx6
     replace hx7 := hal hx7
     obtain ⟨y, hy⟩ : ∃ y, ns[i2] = y := ⟨_, rfl⟩
     rw [hy] at hx0 hx1 hx2 hx3 hx4 hx5 hx6 hx7 HT hl0 hi0 hl1 hi1 hl4 hi4 hl7 hi7 hsm
     clear hal hy ex
     obtain ⟨l0, l1, o, m, l4, ep, ge, l7⟩ := y
     simp only at hx0 hx1 hx2 hx3 hx4 hx5 hx6 hx7 hl0 hi0 hl1 hi1 hl4 hi4 hl7 hi7 hsm
     have NC := Aside0.mk (fun (W : World) (hW : Below w.heap.size w W) => nodeCopy_ok C0 k0 l0 C1 k1' l1 o m C4 k4 l4 ep ge C7 k7 l7 W (Kd.C_below hi0 hW) hl0 (Kd.C_below hi1 hW) hl1 (Kd.C_below hi4 hW) hl4 (Kd.C_below hi7 hW) hl7 hsm.1.1.1 hsm.1.2 hsm.2.1 hsm.2.2)
     clear hl0 hi0 hl1 hi1 hl4 hi4 hl7 hi7 hsm
     obtain ⟨x, hxq⟩ : ∃ x, (ns.take i2).map durNo = x := ⟨_, rfl⟩
     rw [hxq] at HT HR HLN
     clear hxq
     go_upto_region 10 with (fail)
     have bz := blk_alloc BZ.out (.cells #[.slice C0 l0.length k0, .slice C1 l1.length k1', .int .u64 o, .int .i64 m, .slice C4 l4.length k4, .int .u64 ep, .int .u64 ge, .slice C7 l7.length k7] 76)
     have bo := blk_alloc BO.out (.cells #[.slice C0 l0.length k0, .slice C1 l1.length k1', .int .u64 o, .int .i64 m, .slice C4 l4.length k4, .int .u64 ep, .int .u64 ge, .slice C7 l7.length k7] 76)
     have bn := blk_new wr (.cells #[.slice C0 l0.length k0, .slice C1 l1.length k1', .int .u64 o, .int .i64 m, .slice C4 l4.length k4, .int .u64 ep, .int .u64 ge, .slice C7 l7.length k7] 76)
     have hba := below_alloc (Below.refl wr.heap.size wr) (.cells #[.slice C0 l0.length k0, .slice C1 l1.length k1', .int .u64 o, .int .i64 m, .slice C4 l4.length k4, .int .u64 ep, .int .u64 ge, .slice C7 l7.length k7] 76)
     have HR2 := Aside0.mk (Kd.S_below (Kd.S_mono (Kd.S_bound HR.out) (ok' := fun k => T1 ≤ k ∧ k < wr.heap.size) (fun k hk => ⟨hk.1, hk.2.2.1⟩)) hba)
     have HSE2 := Aside0.mk (Kd.S_below HSE.out hba)
     have HB2 := Aside0.mk (below_step HB.out hba)
     have HG2 := Aside0.mk (blk_lt BO.out)
     have HL2 := Aside0.mk (blk_lt bn)
     have HB2s := Aside0.mk (below_step HB.out hba).size
     generalize wr.heap.size = g2 at *
     generalize wr.alloc (.cells #[.slice C0 l0.length k0, .slice C1 l1.length k1', .int .u64 o, .int .i64 m, .slice C4 l4.length k4, .int .u64 ep, .int .u64 ge, .slice C7 l7.length k7] 76) = W3 at *
     have BZ2 := Aside0.mk bz
     have BO2 := Aside0.mk bo
     have BN2 := Aside0.mk bn
     clear bz bo bn hba HR HSE HB BZ BO hx0 hx1 hx2 hx3 hx4 hx5 hx6 hx7
     obtain ⟨n0, n1, n2, n3, n4, n5, n6, n7⟩ := cells8 BN2.out
     go_wp2_with fail
     refine (NC.out _ HB2.out).mono ?_
     rintro r W4 ⟨B0, d0, B1, d1, B4, d4, B7, d7, rfl, hM, hb⟩
     clear n0 n1 n2 n3 n4 n5 n6 n7 NC
     have BZ3 := Aside0.mk (blk_below BZ2.out hb)
     have BO3 := Aside0.mk (blk_below BO2.out hb)
     have BN3 := Aside0.mk (blk_below BN2.out hb)
     have HR3 := Aside0.mk (Kd.S_below HR2.out hb)
     have HSE3 := Aside0.mk (Kd.S_below HSE2.out hb)
     have HB3 := Aside0.mk (below_step HB2.out hb)
     have HM3 := Aside0.mk (aNo.M_bound hM)
     have hs4 := hb.size
     clear BZ2 BO2 BN2 HR2 HSE2 HB2 hM hb
     obtain ⟨n0, n1, n2, n3, n4, n5, n6, n7⟩ := cells8 BN3.out
     have f0 := blk_frozen BN3.out 0
     have f1 := blk_frozen BN3.out 1
     have f2 := blk_frozen BN3.out 2
     have f3 := blk_frozen BN3.out 3
     have f4 := blk_frozen BN3.out 4
     have f5 := blk_frozen BN3.out 5
     have f6 := blk_frozen BN3.out 6
     have f7 := blk_frozen BN3.out 7
     go_upto_region 11 with (fail)
     clear n0 n1 n2 n3 n4 n5 n6 n7 f0 f1 f2 f3 f4 f5 f6 f7
     have hlt := HL2.out
     have hg0 := HG2.out
     have htt := HTT.out
     have BN4 := Aside0.mk (blk_put (cs := #[.slice B0 l0.length d0, .slice B1 l1.length d1, .int .u64 o, .int .i64 m, .slice B4 l4.length d4, .int .u64 ep, .int .u64 ge, .slice C7 l7.length k7]) (cs' := #[.slice B0 l0.length d0, .slice B1 l1.length d1, .int .u64 o, .int .i64 m, .slice B4 l4.length d4, .int .u64 ep, .int .u64 ge, .slice B7 l7.length d7]) (blk_put (cs := #[.slice B0 l0.length d0, .slice B1 l1.length d1, .int .u64 o, .int .i64 m, .slice B4 l4.length d4, .int .u64 ep, .int .u64 ge, .slice C7 l7.length k7]) (cs' := #[.slice B0 l0.length d0, .slice B1 l1.length d1, .int .u64 o, .int .i64 m, .slice B4 l4.length d4, .int .u64 ep, .int .u64 ge, .slice C7 l7.length k7]) (blk_put (cs := #[.slice B0 l0.length d0, .slice B1 l1.length d1, .int .u64 o, .int .i64 m, .slice B4 l4.length d4, .int .u64 ep, .int .u64 ge, .slice C7 l7.length k7]) (cs' := #[.slice B0 l0.length d0, .slice B1 l1.length d1, .int .u64 o, .int .i64 m, .slice B4 l4.length d4, .int .u64 ep, .int .u64 ge, .slice C7 l7.length k7]) (blk_put (cs := #[.slice B0 l0.length d0, .slice B1 l1.length d1, .int .u64 o, .int .i64 m, .slice C4 l4.length k4, .int .u64 ep, .int .u64 ge, .slice C7 l7.length k7]) (cs' := #[.slice B0 l0.length d0, .slice B1 l1.length d1, .int .u64 o, .int .i64 m, .slice B4 l4.length d4, .int .u64 ep, .int .u64 ge, .slice C7 l7.length k7]) (blk_put (cs := #[.slice B0 l0.length d0, .slice B1 l1.length d1, .int .u64 o, .int .i64 m, .slice C4 l4.length k4, .int .u64 ep, .int .u64 ge, .slice C7 l7.length k7]) (cs' := #[.slice B0 l0.length d0, .slice B1 l1.length d1, .int .u64 o, .int .i64 m, .slice C4 l4.length k4, .int .u64 ep, .int .u64 ge, .slice C7 l7.length k7]) (blk_put (cs := #[.slice B0 l0.length d0, .slice B1 l1.length d1, .int .u64 o, .int .i64 m, .slice C4 l4.length k4, .int .u64 ep, .int .u64 ge, .slice C7 l7.length k7]) (cs' := #[.slice B0 l0.length d0, .slice B1 l1.length d1, .int .u64 o, .int .i64 m, .slice C4 l4.length k4, .int .u64 ep, .int .u64 ge, .slice C7 l7.length k7]) (blk_put (cs := #[.slice B0 l0.length d0, .slice C1 l1.length k1', .int .u64 o, .int .i64 m, .slice C4 l4.length k4, .int .u64 ep, .int .u64 ge, .slice C7 l7.length k7]) (cs' := #[.slice B0 l0.length d0, .slice B1 l1.length d1, .int .u64 o, .int .i64 m, .slice C4 l4.length k4, .int .u64 ep, .int .u64 ge, .slice C7 l7.length k7]) (blk_put (cs := #[.slice C0 l0.length k0, .slice C1 l1.length k1', .int .u64 o, .int .i64 m, .slice C4 l4.length k4, .int .u64 ep, .int .u64 ge, .slice C7 l7.length k7]) (cs' := #[.slice B0 l0.length d0, .slice C1 l1.length k1', .int .u64 o, .int .i64 m, .slice C4 l4.length k4, .int .u64 ep, .int .u64 ge, .slice C7 l7.length k7]) BN3.out 0 _ rfl) 1 _ rfl) 2 _ rfl) 3 _ rfl) 4 _ rfl) 5 _ rfl) 6 _ rfl) 7 _ rfl)
     have BZ4 : Aside0 (((((((((W4.setCell ⟨g2, 0, none⟩ (.slice B0 l0.length d0)).setCell ⟨g2, 1, none⟩ (.slice B1 l1.length d1)).setCell ⟨g2, 2, none⟩ (.int .u64 o)).setCell ⟨g2, 3, none⟩ (.int .i64 m)).setCell ⟨g2, 4, none⟩ (.slice B4 l4.length d4)).setCell ⟨g2, 5, none⟩ (.int .u64 ep)).setCell ⟨g2, 6, none⟩ (.int .u64 ge)).setCell ⟨g2, 7, none⟩ (.slice B7 l7.length d7)).heap[w.heap.size + 1]? = some (.cells #[.int .u64 0, .int .u64 0, .int .u64 0, .int .i64 0, .slice none 0 0, .slice none 0 0] 36 (0, 0))) := ⟨by repeat (first | with_reducible exact BZ3.out | refine blk_far ?_ (show w.heap.size + 1 ≠ g2 by omega) _)⟩
     have BO4 : Aside0 (((((((((W4.setCell ⟨g2, 0, none⟩ (.slice B0 l0.length d0)).setCell ⟨g2, 1, none⟩ (.slice B1 l1.length d1)).setCell ⟨g2, 2, none⟩ (.int .u64 o)).setCell ⟨g2, 3, none⟩ (.int .i64 m)).setCell ⟨g2, 4, none⟩ (.slice B4 l4.length d4)).setCell ⟨g2, 5, none⟩ (.int .u64 ep)).setCell ⟨g2, 6, none⟩ (.int .u64 ge)).setCell ⟨g2, 7, none⟩ (.slice B7 l7.length d7)).heap[w.heap.size + 1 + 1]? = some (.cells #[.int .u64 e, .int .u64 g, .int .u64 n, .int .i64 0, .slice B xs.length d, .slice A i2 c] 36 (0, 0))) := ⟨by repeat (first | with_reducible exact BO3.out | refine blk_far ?_ (show w.heap.size + 1 + 1 ≠ g2 by omega) _)⟩
     have HR4 : Aside0 (Kd.S aNo 76 ((((((((W4.setCell ⟨g2, 0, none⟩ (.slice B0 l0.length d0)).setCell ⟨g2, 1, none⟩ (.slice B1 l1.length d1)).setCell ⟨g2, 2, none⟩ (.int .u64 o)).setCell ⟨g2, 3, none⟩ (.int .i64 m)).setCell ⟨g2, 4, none⟩ (.slice B4 l4.length d4)).setCell ⟨g2, 5, none⟩ (.int .u64 ep)).setCell ⟨g2, 6, none⟩ (.int .u64 ge)).setCell ⟨g2, 7, none⟩ (.slice B7 l7.length d7)) w.heap.size (fun k => T1 ≤ k ∧ k < g2) (.slice A i2 c) x) := ⟨by repeat (first | with_reducible exact HR3.out | refine Kd.S_far ?_ (fun k hk => by have := hk.2; show k ≠ g2; omega) _)⟩
     have HSE4 : Aside0 (Kd.S aSe 70 ((((((((W4.setCell ⟨g2, 0, none⟩ (.slice B0 l0.length d0)).setCell ⟨g2, 1, none⟩ (.slice B1 l1.length d1)).setCell ⟨g2, 2, none⟩ (.int .u64 o)).setCell ⟨g2, 3, none⟩ (.int .i64 m)).setCell ⟨g2, 4, none⟩ (.slice B4 l4.length d4)).setCell ⟨g2, 5, none⟩ (.int .u64 ep)).setCell ⟨g2, 6, none⟩ (.int .u64 ge)).setCell ⟨g2, 7, none⟩ (.slice B7 l7.length d7)) w.heap.size (fun k => w.heap.size + 3 ≤ k ∧ k < T1) (.slice B xs.length d) (xs.map durSe)) := ⟨by repeat (first | with_reducible exact HSE3.out | refine Kd.S_far ?_ (fun k hk => by have := hk.2; show k ≠ g2; omega) _)⟩
     have HB4 : Aside0 (Below w.heap.size w ((((((((W4.setCell ⟨g2, 0, none⟩ (.slice B0 l0.length d0)).setCell ⟨g2, 1, none⟩ (.slice B1 l1.length d1)).setCell ⟨g2, 2, none⟩ (.int .u64 o)).setCell ⟨g2, 3, none⟩ (.int .i64 m)).setCell ⟨g2, 4, none⟩ (.slice B4 l4.length d4)).setCell ⟨g2, 5, none⟩ (.int .u64 ep)).setCell ⟨g2, 6, none⟩ (.int .u64 ge)).setCell ⟨g2, 7, none⟩ (.slice B7 l7.length d7))) := ⟨by with_reducible repeat (first | exact HB3.out | refine below_set ?_ (by omega))⟩
     have HM4 : Aside0 (aNo.M ((((((((W4.setCell ⟨g2, 0, none⟩ (.slice B0 l0.length d0)).setCell ⟨g2, 1, none⟩ (.slice B1 l1.length d1)).setCell ⟨g2, 2, none⟩ (.int .u64 o)).setCell ⟨g2, 3, none⟩ (.int .i64 m)).setCell ⟨g2, 4, none⟩ (.slice B4 l4.length d4)).setCell ⟨g2, 5, none⟩ (.int .u64 ep)).setCell ⟨g2, 6, none⟩ (.int .u64 ge)).setCell ⟨g2, 7, none⟩ (.slice B7 l7.length d7)) W3.heap.size (fun k => W3.heap.size ≤ k) ⟨l0, l1, o, m, l4, ep, ge, l7⟩ [.slice B0 l0.length d0, .slice B1 l1.length d1, .int .u64 o, .int .i64 m, .slice B4 l4.length d4, .int .u64 ep, .int .u64 ge, .slice B7 l7.length d7]) := ⟨by repeat (first | with_reducible exact aNo.M_mono (fun k hk => hk.2.1) HM3.out | refine Kd.M_far ?_ (fun k hk => by have : W3.heap.size ≤ k := hk; show k ≠ g2; omega) _)⟩
     have SW5 : Aside0 (W3.heap.size ≤ ((((((((W4.setCell ⟨g2, 0, none⟩ (.slice B0 l0.length d0)).setCell ⟨g2, 1, none⟩ (.slice B1 l1.length d1)).setCell ⟨g2, 2, none⟩ (.int .u64 o)).setCell ⟨g2, 3, none⟩ (.int .i64 m)).setCell ⟨g2, 4, none⟩ (.slice B4 l4.length d4)).setCell ⟨g2, 5, none⟩ (.int .u64 ep)).setCell ⟨g2, 6, none⟩ (.int .u64 ge)).setCell ⟨g2, 7, none⟩ (.slice B7 l7.length d7)).heap.size) := ⟨by simp only [World.size_setCell]; exact hs4⟩
     clear hs4
     generalize ((((((((W4.setCell ⟨g2, 0, none⟩ (.slice B0 l0.length d0)).setCell ⟨g2, 1, none⟩ (.slice B1 l1.length d1)).setCell ⟨g2, 2, none⟩ (.int .u64 o)).setCell ⟨g2, 3, none⟩ (.int .i64 m)).setCell ⟨g2, 4, none⟩ (.slice B4 l4.length d4)).setCell ⟨g2, 5, none⟩ (.int .u64 ep)).setCell ⟨g2, 6, none⟩ (.int .u64 ge)).setCell ⟨g2, 7, none⟩ (.slice B7 l7.length d7)) = W5 at *
     clear BN3 BZ3 BO3 HR3 HSE3 HB3 HM3
     obtain ⟨p0, p1, p4, v0, v1, v4, v7, ev, hR0, hR1, hR4, hR7⟩ := aNo_open HM4.out
     simp only [List.cons.injEq, and_true] at ev
     obtain ⟨rfl, rfl, _, _, rfl, _, _, rfl⟩ := ev
     obtain ⟨W6, hclr, hg6, hR7b⟩ := run_clear_u64 hR7
     have n7 := (cells8 BN4.out).2.2.2.2.2.2.2
     have own7 : ∀ k, k < W5.heap.size → (k < W3.heap.size ∨ p0 k ∨ p1 k ∨ p4 k) → W6.heap[k]? = W5.heap[k]? := fun k hk hp => hg6.block k hk (fun e => by
      have h := hR7.1 k e.symm
      rcases hp with hp | hp | hp | hp
      ·
       have : W3.heap.size ≤ k := h.1.1.1; omega
      ·
       exact h.1.1.2 hp
      ·
       exact h.1.2 hp
      ·
       exact h.2 hp)
     have BN5 := Aside0.mk ((own7 g2 (blk_lt BN4.out) (Or.inl hlt)).trans BN4.out)
     have BZ5 := Aside0.mk ((own7 _ (blk_lt BZ4.out) (Or.inl (by omega))).trans BZ4.out)
     have BO5 := Aside0.mk ((own7 _ (blk_lt BO4.out) (Or.inl (by omega))).trans BO4.out)
     have HR5 := Aside0.mk (Kd.S_step HR4.out (fun k hk hl => own7 k hl (Or.inl (by have := hk.2; omega))))
     have HSE5 := Aside0.mk (Kd.S_step HSE4.out (fun k hk hl => own7 k hl (Or.inl (by have := hk.2; omega))))
     have hW3 : ∀ k, (Value.slice B7 l7.length d7).ownBlock = some k → W3.heap.size ≤ k := fun k hk => (hR7.1 k hk).1.1.1
     have HB5 := Aside0.mk (HB4.out.grown hg6 HB4.out.size (fun k hk => by have := hW3 k hk; omega))
     have HQ0 := Aside0.mk (Kd.R_step hR0 (fun k hk hl => own7 k hl (Or.inr (Or.inl hk.2))))
     have HQ1 := Aside0.mk (Kd.R_step hR1 (fun k hk hl => own7 k hl (Or.inr (Or.inr (Or.inl hk.2)))))
     have HQ4 := Aside0.mk (Kd.R_step hR4 (fun k hk hl => own7 k hl (Or.inr (Or.inr (Or.inr hk.2)))))
     have HQ7 := Aside0.mk hR7b
     have HCL := Aside0.mk hclr
     have S5 := Aside0.mk hg6.size
     have S4 := Aside0.mk (show T1 ≤ W3.heap.size by omega)
     clear own7 hW3 hR0 hR1 hR4 hR7 hR7b hg6 HM4 BZ4 BO4 HR4 HSE4 HB4
     go_upto_region 12 with (fail)
     clear hclr n7 HCL BN4
     have n7 := (cells8 BN5.out).2.2.2.2.2.2.2
     have f7 := blk_frozen BN5.out 7
     go_upto_region 13 with (fail)
     clear n7 f7
     have BN6 := Aside0.mk (blk_put (cs' := #[.slice B0 l0.length d0, .slice B1 l1.length d1, .int .u64 o, .int .i64 m, .slice B4 l4.length d4, .int .u64 ep, .int .u64 ge, .slice B7 0 d7]) BN5.out 7 (.slice B7 0 d7) rfl)
     have BZ6 := Aside0.mk (blk_far BZ5.out (p := ⟨g2, 7, none⟩) (show w.heap.size + 1 ≠ g2 by omega) (.slice B7 0 d7))
     have BO6 := Aside0.mk (blk_far BO5.out (p := ⟨g2, 7, none⟩) (show w.heap.size + 1 + 1 ≠ g2 by omega) (.slice B7 0 d7))
     have HR6 := Aside0.mk (Kd.S_far (p := ⟨g2, 7, none⟩) HR5.out (fun k hk => by have := hk.2; show k ≠ g2; omega) (.slice B7 0 d7))
     have HSE6 := Aside0.mk (Kd.S_far (p := ⟨g2, 7, none⟩) HSE5.out (fun k hk => by have := hk.2; show k ≠ g2; omega) (.slice B7 0 d7))
     have HB6 := Aside0.mk (below_set (g := g2) (j := 7) (v := .slice B7 0 d7) HB5.out (by omega))
     have HM6 := Aside0.mk (show aNo.M (W6.setCell ⟨g2, 7, none⟩ (.slice B7 0 d7)) W3.heap.size (fun k => W3.heap.size ≤ k) ⟨l0, l1, o, m, l4, ep, ge, []⟩ [.slice B0 l0.length d0, .slice B1 l1.length d1, .int .u64 o, .int .i64 m, .slice B4 l4.length d4, .int .u64 ep, .int .u64 ge, .slice B7 0 d7] from aNo_mkp _ _ _ ⟨l0, l1, o, m, l4, ep, ge, []⟩ p0 p1 p4 (Kd.R_far (p := ⟨g2, 7, none⟩) HQ0.out (fun k hk => by have : W3.heap.size ≤ k := hk.1; show k ≠ g2; omega) _) (Kd.R_far (p := ⟨g2, 7, none⟩) HQ1.out (fun k hk => by have : W3.heap.size ≤ k := hk.1.1; show k ≠ g2; omega) _) (Kd.R_far (p := ⟨g2, 7, none⟩) HQ4.out (fun k hk => by have : W3.heap.size ≤ k := hk.1.1.1; show k ≠ g2; omega) _) (Kd.R_far (p := ⟨g2, 7, none⟩) HQ7.out (fun k hk => by have : W3.heap.size ≤ k := hk.1.1.1; show k ≠ g2; omega) _))
     have hsz : (W6.setCell ⟨g2, 7, none⟩ (.slice B7 0 d7)).heap.size = W6.heap.size := by simp [World.setCell]
     have S6 := Aside0.mk (show W5.heap.size ≤ (W6.setCell ⟨g2, 7, none⟩ (.slice B7 0 d7)).heap.size by rw [hsz]; exact S5.out)
     clear hsz
     generalize (W6.setCell ⟨g2, 7, none⟩ (.slice B7 0 d7)) = W7 at *
     clear BN5 BZ5 BO5 HR5 HSE5 HB5 HQ0 HQ1 HQ4 HQ7 S5
     obtain ⟨n0, n1, n2, n3, n4, n5, n6, n7⟩ := cells8 BN6.out
     have o5 := (cells6 BO6.out).2.2.2.2.2
     have HZ := Aside0.mk (show (∀ w5, W7.grownBy w5 (Value.slice A i2 c).ownBlock → w5.heap[w.heap.size + 1 + 1]? = some (.cells #[.int .u64 e, .int .u64 g, .int .u64 n, .int .i64 0, .slice B xs.length d, .slice A i2 c] 36 (0, 0)) ∧ w5.cell? ⟨w.heap.size + 1 + 1, 5, none⟩ = some (.slice A i2 c) ∧ w5.frozen? ⟨w.heap.size + 1 + 1, 5, none⟩ = false ∧ w5.heap[w.heap.size + 1]? = some (.cells #[.int .u64 0, .int .u64 0, .int .u64 0, .int .i64 0, .slice none 0 0, .slice none 0 0] 36 (0, 0)) ∧ Kd.S aSe 70 w5 w.heap.size (fun k => w.heap.size + 3 ≤ k ∧ k < T1) (.slice B xs.length d) (xs.map durSe)) from fun w5 hg => by
      have hn1 : ∀ {b : Nat} {c' : Array Value}, W7.heap[b]? = some (.cells c' 36 (0, 0)) → some b ≠ (Value.slice A i2 c).ownBlock := fun hb => Kd.R_ne (Kd.S_R HR6.out) hb (by decide)
      have h1 := blk_grown BO6.out hg (hn1 BO6.out)
      exact ⟨h1, (cells6 h1).2.2.2.2.2, blk_frozen h1 5, blk_grown BZ6.out hg (hn1 BZ6.out), Kd.S_step HSE6.out (fun k hk hl => hg.block k hl (fun e => by
       have h := (Kd.S_R HR6.out).1 k e.symm
       have := hk.2
       have := h.1
       omega))⟩)
     go_wp2_with (first | ((with_reducible refine gate_builtin (b := .append) (xs := #[.tmp 47, .tmp 49]) rfl ?_); at_builtin; refine Kd.S_append aNo (w0 := w) w.heap.size rfl (.tmp 47) (.tmp 49) 34 76 (.agg #[(.slice none 0 0), (.slice none 0 0), (.int .u64 0), (.int .i64 0), (.slice none 0 0), (.int .u64 0), (.int .u64 0), (.slice none 0 0)]) 128 rfl Tryd.underlying34 info76 rfl (by decide) (by omega) (.slice A i2 c) x (⟨l0, l1, o, m, l4, ep, ge, []⟩ : No) [.slice B0 l0.length d0, .slice B1 l1.length d1, .int .u64 o, .int .i64 m, .slice B4 l4.length d4, .int .u64 ep, .int .u64 ge, .slice B7 0 d7] (fun k => T1 ≤ k) (fun k => W3.heap.size ≤ k) ?eS ?eX ?aP ?aK ?aF ?aO HB6.out HB6.out.size ?aL ?_; (case eS => first | rfl | simp [Act.eval, Act.put]); (case eX => first | rfl | simp [Act.eval, Act.put]); (case aP => exact aNo.M_lower (by have := HB2s.out; omega) HM6.out); (case aK => exact (fun k hk => ⟨by have := S4.out; show T1 ≤ k; have h3 : W3.heap.size ≤ k := hk; omega, fun e => by have h := ((Kd.S_R HR6.out).1 k e.symm).2; have h3 : W3.heap.size ≤ k := hk; omega⟩)); (case aF => exact (fun k hk => by have := S4.out; have := S6.out; have := SW5.out; show T1 ≤ k; omega)); (case aO => exact Kd.S_mono HR6.out (fun k hk => ⟨hk.1, fun h => by have : W3.heap.size ≤ k := h; have := hk.2; omega⟩)); (case aL => have := HLN.out; have := HS.out.n; omega); intro v1 w5 ho hb hg hat; obtain ⟨A1, c1', rfl⟩ := Kd.S_slice ho; have HO7 := Aside0.mk ho; have HB7 := Aside0.mk hb; have HG7 := Aside0.mk hg; have y0 := (HZ.out w5 hg).2.1; have y1 := (HZ.out w5 hg).2.2.1; clear ho hb hg hat))
     have hz := HZ.out w5 HG7.out
     have hj2 := HJ.out
     have e1 := HLN.out
     have eL : (x ++ [(⟨l0, l1, o, m, l4, ep, ge, []⟩ : No)]).length = i2 + 1 := by rw [List.length_append, e1]; rfl
     have HO8 := HO7.out
     rw [eL] at HO8
     have S7 := HG7.out.size
     have S7a := S6.out
     have S7b := SW5.out
     obtain ⟨k1, rfl⟩ : ∃ k1, gk = k1 + 1 := ⟨gk - 1, by omega⟩
     go_roundg k1
     case measure => omega
     case rel =>
      rw [e1]
      refine ⟨i2 + 1, A1, c1', by go_num, ⟨⟨by omega, by omega⟩⟩, ⟨?_⟩, ⟨Kd.S_far hz.2.2.2.2 (fun k hk => by have : w.heap.size + 3 ≤ k := hk.1; show k ≠ w.heap.size + 1 + 1; omega) _⟩, ⟨blk_far hz.2.2.2.1 (show w.heap.size + 1 ≠ w.heap.size + 1 + 1 by omega) _⟩, ⟨blk_put hz.1 5 _ rfl⟩, ⟨below_set HB7.out (by omega)⟩, ⟨by simp [World.setCell]; omega⟩⟩
      rw [HT.out]
      exact Kd.S_far HO8 (fun k hk => by show k ≠ w.heap.size + 1 + 1; have : T1 ≤ k := hk; have := HO2.out; omega) _
    ·
     have c1b : decide ((i2 : Int) < (ns.length : Int)) = false := decide_eq_false (by omega)
     obtain rfl : i2 = ns.length := by omega
     rw [List.take_length] at HR
     obtain ⟨y0, y1, y2, y3, y4, y5⟩ := cells6 BO.out
     obtain ⟨z0, z1, z2, z3, z4, z5⟩ := cells6 BZ.out
     have f0 := blk_frozen BZ.out 0
     have f1 := blk_frozen BZ.out 1
     have f2 := blk_frozen BZ.out 2
     have f3 := blk_frozen BZ.out 3
     have f4 := blk_frozen BZ.out 4
     have f5 := blk_frozen BZ.out 5
     go_wp2_with fail
     refine bodyPost_ret (results_cell_row rfl _ _ (w.heap.size + 1) 36 #[.int .u64 e, .int .u64 g, .int .u64 n, .int .i64 0, .slice B xs.length d, .slice A ns.length c] (0, 0) _ rfl (by refine blk_put (cs := #[.int .u64 e, .int .u64 g, .int .u64 n, .int .i64 0, .slice B xs.length d, .slice none 0 0]) ?_ 5 _ rfl; refine blk_put (cs := #[.int .u64 e, .int .u64 g, .int .u64 n, .int .i64 0, .slice none 0 0, .slice none 0 0]) ?_ 4 _ rfl; refine blk_put (cs := #[.int .u64 e, .int .u64 g, .int .u64 n, .int .i64 0, .slice none 0 0, .slice none 0 0]) ?_ 3 _ rfl; refine blk_put (cs := #[.int .u64 e, .int .u64 g, .int .u64 0, .int .i64 0, .slice none 0 0, .slice none 0 0]) ?_ 2 _ rfl; refine blk_put (cs := #[.int .u64 e, .int .u64 0, .int .u64 0, .int .i64 0, .slice none 0 0, .slice none 0 0]) ?_ 1 _ rfl; refine blk_put (cs := #[.int .u64 0, .int .u64 0, .int .u64 0, .int .i64 0, .slice none 0 0, .slice none 0 0]) ?_ 0 _ rfl; exact BZ.out) Tryd.underlying36 rfl (by kernel_rfl)) rfl ?_
     have ho2 := HO2.out
     have htt := HTT.out
     have hsz : ∀ (a b : Nat) (u : World) (v : Value), (u.setCell ⟨a, b, none⟩ v).heap.size = u.heap.size := fun a b u v => by simp [World.setCell]
     refine ⟨B, d, A, c, by rw [List.length_map, List.length_map], ⟨fun k => k < T1, ?_, ?_⟩, by with_reducible repeat (first | exact HB.out | refine below_set ?_ (by omega))⟩
     ·
      rw [List.length_map]
      refine Kd.S_mono (ok := fun k => w.heap.size + 3 ≤ k ∧ k < T1) ?_ (fun k hk => ⟨⟨by omega, by simp only [hsz]; omega⟩, hk.2⟩)
      repeat (first | with_reducible exact HSE.out | refine Kd.S_far ?_ (fun k hk => by have := hk.1; show k ≠ w.heap.size + 1; omega) _)
     ·
      rw [List.length_map]
      refine Kd.S_mono (ok := fun k => T1 ≤ k ∧ k < wr.heap.size) ?_ (fun k hk => ⟨⟨by omega, by simp only [hsz]; omega⟩, by omega⟩)
      repeat (first | with_reducible exact Kd.S_mono (Kd.S_bound HR.out) (fun k hk => ⟨hk.1, hk.2.2.1⟩) | refine Kd.S_far ?_ (fun k hk => by have := hk.1; show k ≠ w.heap.size + 1; omega) _)
def sumL {α : Type} (ln : α → Nat) : List α → Nat
 | [] => 0
 | x :: r => ln x + sumL ln r
theorem sumL_snoc {α : Type} (ln : α → Nat) (xs : List α) (x : α) : sumL ln (xs ++ [x]) = sumL ln xs + ln x := by
 induction xs with
 | nil => simp [sumL]
 | cons y r ih => simp only [List.cons_append, sumL, ih]; omega
theorem sumL_succ {α : Type} (ln : α → Nat) (xs : List α) (j : Nat) (hj : j < xs.length) : sumL ln (xs.take (j + 1)) = sumL ln (xs.take j) + ln xs[j] := by
 rw [List.take_succ_eq_append_getElem hj, sumL_snoc]
def laws_markUint64S.l0 : Nat → List Int → Int → Int → Option (Int × List Int)
 | 0, _, _, _ => none
 | k + 1, x0, x1, x5 => if x5 < (x0.length : Int) then (if 0 ≤ x5 then (laws_markUint64S.l0 k (x0.set (x5 : Int).toNat (IntKind.u64.wrap (x1))) (wrap64 (x1 + 1)) (wrap64 (x5 + 1))) else (none)) else (some (x1, x0))
def laws_markUint64S.f (k : Nat) (l0 : List Int) (a1 : Int) : Option (Int × List Int) := laws_markUint64S.l0 k l0 a1 0
set_option maxHeartbeats 8000000 in
set_option maxRecDepth 100000 in
theorem laws_markUint64S.calls (k : Nat) (P0_ : Nat → Prop) (u9000_ : Value) (l0 : List Int) (a1 : Int) (r1 : Int) (r2 : List Int) (w0 w : World) (hB : Below w0.heap.size w0 w) (ho0 : Kd.R (Kd.int .u64) 26 w w0.heap.size P0_ u9000_ l0) (h : laws_markUint64S.f k l0 a1 = some (r1, r2)) :
  Calls Tryd.prog 22 #[u9000_, .int .i64 a1] w fun e w' => e = .returned (.int .i64 r1) ∧ Kd.R (Kd.int .u64) 26 w' w0.heap.size (fun k_ => (P0_ k_ ∨ w.heap.size ≤ k_)) u9000_ r2 ∧ Below w0.heap.size w0 w' ∧ Kept w w' (fun k_ => P0_ k_) := by
 have HO0 := Aside0.mk (show Kd.R (Kd.int .u64) 26 w w0.heap.size (fun k_ => (P0_ k_ ∨ w.heap.size ≤ k_)) u9000_ l0 from Kd.R_mono ho0 (fun k_ hk => (.inl hk)))
 have HK := Aside0.mk (Kept.refl w (fun k_ => P0_ k_))
 have HW0 := Aside0.mk hB.size
 have HB := Aside0.mk hB
 clear hB
 have H : (laws_markUint64S.l0 k l0 a1 0) = some (r1, r2) := h
 clear h
 have H' := Aside0.mk H
 clear H
 go_enter Tryd.func22, Tryd.ntmps22
 go_wp2
 go_loopg [1, 5] k (fun kq v1 v5 w' => ∃ (x0_1 : List Int) (x1_1 : Int) (x5_1 : Int), v1 = .int .i64 x1_1 ∧ v5 = .int .i64 x5_1 ∧ Aside0 (laws_markUint64S.l0 kq x0_1 x1_1 x5_1 = some (r1, r2)) ∧ Aside0 (kq ≤ k) ∧ Aside0 (Kd.R (Kd.int .u64) 26 w' w0.heap.size (fun k_ => (P0_ k_ ∨ w.heap.size ≤ k_)) u9000_ x0_1) ∧ Aside0 (Kept w w' (fun k_ => P0_ k_)) ∧ Aside0 (Below w0.heap.size w0 w'))
 case atStart => exact ⟨(l0), (a1), (0), (by first | rfl | (simp; done) | (simp [*]; done)), (by first | rfl | (simp; done) | (simp [*]; done)), H', ⟨Nat.le_refl _⟩, ⟨by (with_reducible repeat (first | apply Kd.R_alloc | apply Kd.R_drewN | apply Kd.R_drew)); exact HO0.out⟩, ⟨by repeat (first | (with_reducible first | exact HK.out | apply Kept.alloc | apply Kept.drewN | apply Kept.drew) | exact HK.out)⟩, ⟨by repeat (first | (with_reducible first | exact HB.out | apply below_alloc | apply pw_below_drewN | apply below_drew1) | exact HB.out)⟩⟩
 case round =>
  clear H'
  try clear c2
  try clear p2
  obtain ⟨x0_1, x1_1, x5_1, rfl, rfl, HA, HK1, HO_0, HK, HB⟩ := hrel
  cases gk with
  | zero => exact absurd HA.out (by simp [laws_markUint64S.l0])
  | succ k1 =>
   have H := HA.out
   clear HA
   simp only [laws_markUint64S.l0] at H
   by_cases c3 : x5_1 < (x0_1.length : Int)
   ·
    rw [if_pos c3] at H
    have c3b0 : decide (x5_1 < (x0_1.length : Int)) = true := decide_eq_true c3
    clear c3
    by_cases c4 : 0 ≤ x5_1
    ·
     rw [if_pos c4] at H
     have c4b0 : decide (0 ≤ x5_1) = true := decide_eq_true c4
     clear c4
     obtain ⟨y314, hy314⟩ : ∃ y_ : List Int, y_ = (x0_1.set (x5_1 : Int).toNat (IntKind.u64.wrap (x1_1))) := ⟨_, rfl⟩
     replace H : (laws_markUint64S.l0 k1 y314 (wrap64 (x1_1 + 1)) (wrap64 (x5_1 + 1))) = some (r1, r2) := by first | (rw [hy314]; with_reducible exact H) | (have H2_ := (Option.bind_some _ _).symm.trans H; rw [hy314]; with_reducible exact H2_) | (have H2_ := (Option.bind_some _ _).symm.trans H; with_reducible exact H2_) | with_reducible exact H | (rw [hy314]; exact H) | exact H
     have Ny314 := Aside0.mk hy314
     clear hy314
     have H' := Aside0.mk H
     clear H
     obtain ⟨Ao6, co6, eo6⟩ := Kd.R_slice HO_0.out
     subst eo6
     have p5 : 0 ≤ (x5_1 : Int) := of_decide_eq_true (by first | (with_reducible assumption) | assumption)
     have q5 : (x5_1 : Int) < ((x0_1.length : Int) : Int) := of_decide_eq_true (by first | (with_reducible assumption) | assumption)
     obtain ⟨go5, co5, eo5, gb5, gl5, cl5, HG5⟩ := Kd.R_form HO_0.out (by omega)
     (first | cases eo5 | (injection eo5 with ea_ en_ ec_; (first | subst ea_ | (injection ea_ with ea_; subst ea_)); subst ec_; clear en_))
     have GB5 := Aside0.mk gb5
     have GG5 := Aside0.mk HG5
     clear gb5 gl5 HG5
     have HMgo5 := Aside0.mk (show (P0_ go5 ∨ w.heap.size ≤ go5) from (HO_0.out.1 _ rfl))
     obtain ⟨hx5_0, hf5_0⟩ := Kd.R_celln 0 HO_0.out (x5_1 : Int) p5 q5
     replace p5 := eq_true p5
     replace q5 := eq_true q5
     have HP7 := Kd.R_putg HO_0.out (x5_1 : Int) (IntKind.u64.wrap (x1_1))
     go_wp2_with (first | ((with_reducible refine gate_store (t := 26) (p := 16) rfl ?_); refine store_event (t := 26) (p := 16) (v := ?vo_w8) (w1 := (wr.setCell ⟨go5, (x5_1 : Int).toNat, none⟩ (.int .u64 (IntKind.u64.wrap (x1_1))))) ?hg ?ho ?hn ?hr ?_; (case ho => rfl); (case hg => rfl); (case hn => rfl); (case hr => first | (go_simp; done) | (go_simp; rfl)); intro w8 hw; have hg : wr.grownBy w8 (some go5) := (by rw [hw]; exact HP7.2); have hp_ : Kd.R (Kd.int .u64) 26 w8 w0.heap.size (fun k_ => (P0_ k_ ∨ w.heap.size ≤ k_)) (.slice (some ⟨go5, 0, none⟩) x0_1.length co6) y314 := (by rw [hw, Ny314.out]; exact HP7.1); clear HP7; have n0_ := Aside0.mk (hp_); have n1_ := Aside0.mk ((by rw [hw]; exact below_set (HB.out) GB5.out : Below w0.heap.size w0 w8)); have n2_ := Aside0.mk (Kept.of_grown (S := (fun k_ => P0_ k_)) hg (by repeat (first | (with_reducible first | exact HK.out | apply Kept.alloc | apply Kept.drewN | apply Kept.drew) | exact HK.out)) (fun k_ e_ => (HO_0.out.1 k_ e_))); clear HO_0; clear HB; clear HK; have HO_0 := n0_; have HB := n1_; have HK := n2_; clear n0_ n1_ n2_; clear hg hw hp_))
     go_roundg k1
     case measure => have := HK1.out; omega
     case rel => exact ⟨(y314), (wrap64 (x1_1 + 1)), (wrap64 (x5_1 + 1)), (by first | rfl | (simp; done) | (simp [*]; done)), (by first | rfl | (simp; done) | (simp [*]; done)), H', ⟨by have := HK1.out; omega⟩, ⟨by (with_reducible repeat (first | apply Kd.R_alloc | apply Kd.R_drewN | apply Kd.R_drew)); exact HO_0.out⟩, ⟨by repeat (first | (with_reducible first | exact HK.out | apply Kept.alloc | apply Kept.drewN | apply Kept.drew) | exact HK.out)⟩, ⟨by repeat (first | (with_reducible first | exact HB.out | apply below_alloc | apply pw_below_drewN | apply below_drew1) | exact HB.out)⟩⟩
    ·
     rw [if_neg c4] at H
     exact absurd H (by simp)
   ·
    rw [if_neg c3] at H
    have c3b0 : decide (x5_1 < (x0_1.length : Int)) = false := decide_eq_false c3
    clear c3
    simp only [Option.some.injEq, Prod.mk.injEq] at H
    obtain ⟨rfl, rfl⟩ := H
    obtain ⟨Ao9, co9, eo9⟩ := Kd.R_slice HO_0.out
    subst eo9
    go_wp2
    go_ret
    exact ⟨by first | rfl | (simp [errW_none, errW_some] <;> rfl) | (simp [*, errW_none, errW_some] <;> rfl), by (with_reducible repeat (first | apply Kd.R_alloc | apply Kd.R_drewN | apply Kd.R_drew)); exact HO_0.out, by repeat (first | (with_reducible first | exact HB.out | apply below_alloc | apply pw_below_drewN | apply below_drew1) | exact HB.out), by repeat (first | (with_reducible first | exact HK.out | apply Kept.alloc | apply Kept.drewN | apply Kept.drew) | exact HK.out)⟩
end Go.Proofs.YtbgbocdohadhoaaDoor.Print
