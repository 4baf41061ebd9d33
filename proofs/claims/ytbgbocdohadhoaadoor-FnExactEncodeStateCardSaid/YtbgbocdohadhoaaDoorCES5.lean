/- Texts of this session, joined by its own program. -/
import Derived.Laws.Cover1
import Derived.Test.YtbgbocdohadhoaaDoorCES4
namespace Go.Proofs.YtbgbocdohadhoaaDoor.Print
open Go Go.RowKit Go.Proofs.YtbgbocdohadhoaaDoorW.PrintWords Go.Proofs.YtbgbocdohadhoaaDoorW.PrintLast Go.Proofs.YtbgbocdohadhoaaDoorW.PrintMore
set_option linter.unusedVariables false
set_option linter.unusedSimpArgs false
theorem rd_no (xs : List No) (i : Nat) (h : i < xs.length) : rd_T76 xs (i : Int) = xs[i] := by unfold rd_T76; rw [Int.toNat_natCast, List.getD_eq_getElem?_getD, List.getElem?_eq_getElem h]; rfl
theorem lock_f (e g n t : Int) (xs : List Se) (ns : List No) (p v : List Int) (o m : Int) (h : List Int) (ep ge : Int) (wa : List Int) : spec_l3lockOK.f 10 e g n t xs ns p v o m h ep ge wa = some (lockB e g ⟨p, v, o, m, h, ep, ge, wa⟩) := rfl
structure SmS (xs : List Se) (ns : List No) : Prop where
 x : xs.length ≤ 2097152
 n : ns.length ≤ 2097152
 e : ∀ x ∈ xs, x.f2.length ≤ 2097152 ∧ ∀ y ∈ x.f2, y.f1.length ≤ 2097152 ∧ ∀ z ∈ y.f1, 0 ≤ z ∧ z < 256
 m : ∀ x ∈ ns, ((x.f0.length ≤ 2097152 ∧ ∀ z ∈ x.f0, 0 ≤ z ∧ z < 256) ∧ x.f1.length ≤ 2097152) ∧ x.f4.length ≤ 2097152 ∧ x.f7.length ≤ 2097152
theorem parentL_bytes {p : List Int} (h : ∀ z ∈ p, 0 ≤ z ∧ z < 256) : ∀ z ∈ parentL p, 0 ≤ z ∧ z < 256 := by
 unfold parentL
 split
 ·
  simp
 ·
  exact fun z hz => h z (List.mem_of_mem_take hz)
set_option maxHeartbeats 8000000 in
set_option maxRecDepth 100000 in
theorem spec_nodeOK_calls (e g n t : Int) (As : Option Addr) (cs : Nat) (xs : List Se) (An : Option Addr) (cn : Nat) (ns : List No) (i : Nat) (w : World) (h1 : Kd.C kSe w As xs.length xs) (hc1 : xs.length ≤ cs) (h2 : Kd.C kNo w An ns.length ns) (hc2 : ns.length ≤ cn) (hs : SmS xs ns) (hi : i < ns.length) :
  Calls Tryd.prog 44 #[.agg #[.int .u64 e, .int .u64 g, .int .u64 n, .int .i64 t, .slice As xs.length cs, .slice An ns.length cn], .int .i64 (i : Int)] w fun r w' => r = .returned (.bool (nodeB e g xs ns i ns[i])) ∧ Below w.heap.size w w' := by
 have HR := Aside0.mk (And.intro h1 h2)
 have HL := Aside0.mk (And.intro hc1 hc2)
 have HSM := Aside0.mk hs
 have ci : (0 : Int) ≤ (i : Int) := by omega
 have ci2 : (i : Int) < (ns.length : Int) := by omega
 have hnl := hs.n
 obtain ⟨ad, A0, c0, A1, c1, A4, c4, A7, c7, eA, hx0, hx1, hx2, hx3, hx4, hx5, hx6, hx7, hl0, hi0, hl1, hi1, hl4, hi4, hl7, hi7⟩ := at_T76 h2 (i : Int) ci ci2
 rw [rd_no ns i hi] at hx0 hx1 hx2 hx3 hx4 hx5 hx6 hx7 hl0 hi0 hl1 hi1 hl4 hi4 hl7 hi7
 rw [Int.toNat_natCast] at hx0 hx1 hx2 hx3 hx4 hx5 hx6 hx7
 cases eA
 have hsm := hs.m ns[i] (List.getElem_mem hi)
 have hprev : 0 < i → ∃ Ap cp, w.cell? (ad.add ((i - 1) * 8)) = some (.slice Ap (ns.getD (i - 1) zNo).f0.length cp) ∧ Kd.C (Kd.int .u8) w Ap (ns.getD (i - 1) zNo).f0.length (ns.getD (i - 1) zNo).f0 := by
  intro h0
  have hj : i - 1 < ns.length := by omega
  obtain ⟨ad', B0, b0, B1, b1, B4, b4, B7, b7, eA', hy0, _, _, _, _, _, _, _, _, hyi, _⟩ := at_T76 h2 ((i - 1 : Nat) : Int) (by omega) (by omega)
  rw [rd_no ns (i - 1) hj] at hy0 hyi
  rw [Int.toNat_natCast] at hy0
  cases eA'
  rw [show ns.getD (i - 1) zNo = ns[i - 1] by rw [List.getD_eq_getElem?_getD, List.getElem?_eq_getElem hj]; rfl]
  exact ⟨B0, b0, hy0, hyi⟩
 obtain ⟨y, hy⟩ : ∃ y, ns[i] = y := ⟨_, rfl⟩
 rw [hy] at hx0 hx1 hx2 hx3 hx4 hx5 hx6 hx7 hl0 hi0 hl1 hi1 hl4 hi4 hl7 hi7 hsm ⊢
 clear hy
 obtain ⟨p, v, o, m, h, ep, ge, wa⟩ := y
 simp only at hx0 hx1 hx2 hx3 hx4 hx5 hx6 hx7 hl0 hi0 hl1 hi1 hl4 hi4 hl7 hi7 hsm
 obtain ⟨q, hq⟩ : ∃ q, (ns.getD (i - 1) zNo).f0 = q := ⟨_, rfl⟩
 rw [hq] at hprev
 have hE : nodeB e g xs ns i ⟨p, v, o, m, h, ep, ge, wa⟩ = (pathB p && (i == 0 || !leB p q) && canParB ns (parentL p) && decide (v.length ≤ 40) && (o == 0 || liveB xs o) && idsB xs h && idsB xs wa && lockB e g ⟨p, v, o, m, h, ep, ge, wa⟩) := by rw [← hq]; rfl
 have VP := Aside0.mk (fun (W : World) (hW : Below w.heap.size w W) => spec_ValidPath.calls 10000000 A0 c0 p (pathB p) W (Kd.C_below hi0 hW) hl0 (validPath_f p hsm.1.1.1 _ (by have := hsm.1.1.1; omega)))
 have PAR := Aside0.mk (fun (W : World) (hW : Below w.heap.size w W) => spec_parent_calls A0 c0 p W (Kd.C_below hi0 hW) hl0 hsm.1.1.1)
 have CAN := Aside0.mk (fun (B : Option Addr) (d : Nat) (W : World) (hW : Below w.heap.size w W) (hB : Kd.C (Kd.int .u8) W B (parentL p).length (parentL p)) (hd : (parentL p).length ≤ d) => spec_canParent_calls e g n t As cs xs (some ad) cn ns B d (parentL p) W (Kd.C_below h1 hW) hc1 (Kd.C_below h2 hW) hc2 hB hd hs.n (parentL_bytes hsm.1.1.2) (fun z hz => (hs.m z hz).1.1.2))
 have LIV := Aside0.mk (fun (W : World) (hW : Below w.heap.size w W) => spec_l3live.calls 10000000 e g n t As cs xs (some ad) cn ns o (liveB xs o) W (Kd.C_below h1 hW) hc1 (Kd.C_below h2 hW) hc2 (live_f e g n t xs ns o hs.x _ (by omega)))
 have ID4 := Aside0.mk (fun (W : World) (hW : Below w.heap.size w W) => spec_l3idsOK.calls 10000000 e g n t As cs xs (some ad) cn ns A4 c4 h (idsB xs h) W (Kd.C_below h1 hW) hc1 (Kd.C_below h2 hW) hc2 (Kd.C_below hi4 hW) hl4 (ids_f e g n t xs ns h hs.x hsm.2.1))
 have ID7 := Aside0.mk (fun (W : World) (hW : Below w.heap.size w W) => spec_l3idsOK.calls 10000000 e g n t As cs xs (some ad) cn ns A7 c7 wa (idsB xs wa) W (Kd.C_below h1 hW) hc1 (Kd.C_below h2 hW) hc2 (Kd.C_below hi7 hW) hl7 (ids_f e g n t xs ns wa hs.x hsm.2.2))
 have LOC := Aside0.mk (fun (W : World) (hW : Below w.heap.size w W) => spec_l3lockOK.calls 10 e g n t As cs xs (some ad) cn ns A0 c0 p A1 c1 v o m A4 c4 h ep ge A7 c7 wa (lockB e g ⟨p, v, o, m, h, ep, ge, wa⟩) W (Kd.C_below h1 hW) hc1 (Kd.C_below h2 hW) hc2 (Kd.C_below hi0 hW) hl0 (Kd.C_below hi1 hW) hl1 (Kd.C_below hi4 hW) hl4 (Kd.C_below hi7 hW) hl7 (lock_f e g n t xs ns p v o m h ep ge wa))
 have HP := Aside0.mk hi0
 have HPV := Aside0.mk hprev
 obtain ⟨b1, hb1⟩ : ∃ b, pathB p = b := ⟨_, rfl⟩
 obtain ⟨b2, hb2⟩ : ∃ b, leB p q = b := ⟨_, rfl⟩
 obtain ⟨b3, hb3⟩ : ∃ b, canParB ns (parentL p) = b := ⟨_, rfl⟩
 obtain ⟨b5, hb5⟩ : ∃ b, liveB xs o = b := ⟨_, rfl⟩
 obtain ⟨b6, hb6⟩ : ∃ b, idsB xs h = b := ⟨_, rfl⟩
 obtain ⟨b7, hb7⟩ : ∃ b, idsB xs wa = b := ⟨_, rfl⟩
 obtain ⟨b8, hb8⟩ : ∃ b, lockB e g ⟨p, v, o, m, h, ep, ge, wa⟩ = b := ⟨_, rfl⟩
 rw [hb1] at VP hE
 rw [hb2, hb3, hb5, hb6, hb7, hb8] at hE
 rw [hb3] at CAN
 rw [hb5] at LIV
 rw [hb6] at ID4
 rw [hb7] at ID7
 rw [hb8] at LOC
 have HE := Aside0.mk hE
 have HLE : Aside0 ((Op.bytesLess (strOfNums p).toList (strOfNums q).toList || (strOfNums p).toList == (strOfNums q).toList) = b2) := ⟨by rw [Lib.strOfNums_toList, Lib.strOfNums_toList]; exact hb2⟩
 clear hb1 hb2 hb3 hb5 hb6 hb7 hb8 hE h1 h2 hc1 hc2 hs hl0 hi0 hl1 hi1 hl4 hi4 hl7 hi7 hsm hprev hq
 have hal : ∀ {a : Addr} {z : Value}, w.cell? a = some z → (w.alloc (.cells #[.int .u64 e, .int .u64 g, .int .u64 n, .int .i64 t, .slice As xs.length cs, .slice (some ad) ns.length cn] 36)).cell? a = some z := fun hz => (World.cell?_alloc_lt _ _ _ (World.block_lt_of_cell? w _ hz)).trans hz
 replace hx0 := hal hx0
 replace hx1 := hal hx1
 replace hx2 := hal hx2
 replace hx3 := hal hx3
 replace hx4 := hal hx4
 replace hx5 := hal hx5
 replace hx6 := hal hx6
 replace hx7 := hal hx7
 clear hal
 go_enter Tryd.func44, Tryd.ntmps44
 go_wp2_with fail
 have b0 := blk_alloc (blk_new w (.cells #[.int .u64 e, .int .u64 g, .int .u64 n, .int .i64 t, .slice As xs.length cs, .slice (some ad) ns.length cn] 36)) (.cells #[.slice A0 p.length c0, .slice A1 v.length c1, .int .u64 o, .int .i64 m, .slice A4 h.length c4, .int .u64 ep, .int .u64 ge, .slice A7 wa.length c7] 76)
 have bn := blk_new (w.alloc (.cells #[.int .u64 e, .int .u64 g, .int .u64 n, .int .i64 t, .slice As xs.length cs, .slice (some ad) ns.length cn] 36)) (.cells #[.slice A0 p.length c0, .slice A1 v.length c1, .int .u64 o, .int .i64 m, .slice A4 h.length c4, .int .u64 ep, .int .u64 ge, .slice A7 wa.length c7] 76)
 have hB := below_alloc (below_alloc (Below.refl w.heap.size w) (.cells #[.int .u64 e, .int .u64 g, .int .u64 n, .int .i64 t, .slice As xs.length cs, .slice (some ad) ns.length cn] 36)) (.cells #[.slice A0 p.length c0, .slice A1 v.length c1, .int .u64 o, .int .i64 m, .slice A4 h.length c4, .int .u64 ep, .int .u64 ge, .slice A7 wa.length c7] 76)
 simp only [World.size_alloc] at bn
 generalize (w.alloc (.cells #[.int .u64 e, .int .u64 g, .int .u64 n, .int .i64 t, .slice As xs.length cs, .slice (some ad) ns.length cn] 36)).alloc (.cells #[.slice A0 p.length c0, .slice A1 v.length c1, .int .u64 o, .int .i64 m, .slice A4 h.length c4, .int .u64 ep, .int .u64 ge, .slice A7 wa.length c7] 76) = W0 at *
 have BS := Aside0.mk b0
 have BN := Aside0.mk bn
 have HB := Aside0.mk hB
 clear b0 bn hB hx0 hx1 hx2 hx3 hx4 hx5 hx6 hx7
 have s0 := blk_cell BS.out 0
 have s1 := blk_cell BS.out 1
 have s2 := blk_cell BS.out 2
 have s3 := blk_cell BS.out 3
 have s4 := blk_cell BS.out 4
 have s5 := blk_cell BS.out 5
 have m0 := blk_cell BN.out 0
 have m1 := blk_cell BN.out 1
 have m2 := blk_cell BN.out 2
 have m3 := blk_cell BN.out 3
 have m4 := blk_cell BN.out 4
 have m5 := blk_cell BN.out 5
 have m6 := blk_cell BN.out 6
 have m7 := blk_cell BN.out 7
 simp only [List.getElem?_toArray, List.getElem?_cons_zero, List.getElem?_cons_succ] at s0 s1 s2 s3 s4 s5 m0 m1 m2 m3 m4 m5 m6 m7
 cases b1 with
 | false =>
  by_cases hi0 : i = 0
  ·
   have di : decide (0 < i) = false := decide_eq_false (by omega)
   have CF : Aside0 (∀ w' : World, BelowOf W0 w' → (w'.cell? ⟨w.heap.size, 0, none⟩ = some (.int .u64 e) ∧ w'.cell? ⟨w.heap.size, 1, none⟩ = some (.int .u64 g) ∧ w'.cell? ⟨w.heap.size, 2, none⟩ = some (.int .u64 n) ∧ w'.cell? ⟨w.heap.size, 3, none⟩ = some (.int .i64 t) ∧ w'.cell? ⟨w.heap.size, 4, none⟩ = some (.slice As xs.length cs) ∧ w'.cell? ⟨w.heap.size, 5, none⟩ = some (.slice (some ad) ns.length cn) ∧ w'.cell? ⟨w.heap.size + 1, 0, none⟩ = some (.slice A0 p.length c0) ∧ w'.cell? ⟨w.heap.size + 1, 1, none⟩ = some (.slice A1 v.length c1) ∧ w'.cell? ⟨w.heap.size + 1, 2, none⟩ = some (.int .u64 o) ∧ w'.cell? ⟨w.heap.size + 1, 3, none⟩ = some (.int .i64 m) ∧ w'.cell? ⟨w.heap.size + 1, 4, none⟩ = some (.slice A4 h.length c4) ∧ w'.cell? ⟨w.heap.size + 1, 5, none⟩ = some (.int .u64 ep) ∧ w'.cell? ⟨w.heap.size + 1, 6, none⟩ = some (.int .u64 ge) ∧ w'.cell? ⟨w.heap.size + 1, 7, none⟩ = some (.slice A7 wa.length c7))) := ⟨fun w' hC => ⟨(hC.out.cell (World.block_lt_of_cell? _ _ s0)).trans s0, (hC.out.cell (World.block_lt_of_cell? _ _ s1)).trans s1, (hC.out.cell (World.block_lt_of_cell? _ _ s2)).trans s2, (hC.out.cell (World.block_lt_of_cell? _ _ s3)).trans s3, (hC.out.cell (World.block_lt_of_cell? _ _ s4)).trans s4, (hC.out.cell (World.block_lt_of_cell? _ _ s5)).trans s5, (hC.out.cell (World.block_lt_of_cell? _ _ m0)).trans m0, (hC.out.cell (World.block_lt_of_cell? _ _ m1)).trans m1, (hC.out.cell (World.block_lt_of_cell? _ _ m2)).trans m2, (hC.out.cell (World.block_lt_of_cell? _ _ m3)).trans m3, (hC.out.cell (World.block_lt_of_cell? _ _ m4)).trans m4, (hC.out.cell (World.block_lt_of_cell? _ _ m5)).trans m5, (hC.out.cell (World.block_lt_of_cell? _ _ m6)).trans m6, (hC.out.cell (World.block_lt_of_cell? _ _ m7)).trans m7⟩⟩
   have VP1 := Aside0.mk (fun (w' : World) (hC : BelowOf W0 w') => (VP.out w' (below_step HB.out hC.out)).mono (fun e w'' h => show e = .returned (.bool false) ∧ BelowOf W0 w'' from ⟨h.1, ⟨below_step hC.out h.2⟩⟩))
   clear s0 s1 s2 s3 s4 s5 m0 m1 m2 m3 m4 m5 m6 m7
   refine wp_region_below (by kernel_rfl) (by kernel_rfl) ?_
   repeat (first | go_big_quiet_skip | (go_big_quiet_want; rename_i K hK; refine quiet_mk (v := ?_) ?_ (hK _ ?_); rotate_left 1; (focus (intro w' hC; first | (go_simp; first | done | with_reducible rfl) | (obtain ⟨s0, s1, s2, s3, s4, s5, m0, m1, m2, m3, m4, m5, m6, m7⟩ := CF.out w' hC; go_simp; first | done | with_reducible rfl) | (go_simp; go_at_call 9; exact VP1.out w' hC))); clear hK K); try simp only [Act.put, List.setIfInBounds_toArray, List.set_cons_zero, List.set_cons_succ])
   refine wpQuiet_nil ?_
   intro W1 hb1
   have hb := hb1.out
   clear hb1 CF VP1
   replace BS := Aside0.mk (blk_below BS.out hb)
   replace BN := Aside0.mk (blk_below BN.out hb)
   replace HB := Aside0.mk (below_step HB.out hb)
   clear hb
   have s0 := blk_cell BS.out 0
   have s1 := blk_cell BS.out 1
   have s2 := blk_cell BS.out 2
   have s3 := blk_cell BS.out 3
   have s4 := blk_cell BS.out 4
   have s5 := blk_cell BS.out 5
   have m0 := blk_cell BN.out 0
   have m1 := blk_cell BN.out 1
   have m2 := blk_cell BN.out 2
   have m3 := blk_cell BN.out 3
   have m4 := blk_cell BN.out 4
   have m5 := blk_cell BN.out 5
   have m6 := blk_cell BN.out 6
   have m7 := blk_cell BN.out 7
   simp only [List.getElem?_toArray, List.getElem?_cons_zero, List.getElem?_cons_succ] at s0 s1 s2 s3 s4 s5 m0 m1 m2 m3 m4 m5 m6 m7
   go_wp2_with fail
   go_ret
   rw [HE.out]
   exact ⟨by simp, HB.out⟩
  ·
   have di : decide (0 < i) = true := decide_eq_true (by omega)
   have CF : Aside0 (∀ w' : World, BelowOf W0 w' → (w'.cell? ⟨w.heap.size, 0, none⟩ = some (.int .u64 e) ∧ w'.cell? ⟨w.heap.size, 1, none⟩ = some (.int .u64 g) ∧ w'.cell? ⟨w.heap.size, 2, none⟩ = some (.int .u64 n) ∧ w'.cell? ⟨w.heap.size, 3, none⟩ = some (.int .i64 t) ∧ w'.cell? ⟨w.heap.size, 4, none⟩ = some (.slice As xs.length cs) ∧ w'.cell? ⟨w.heap.size, 5, none⟩ = some (.slice (some ad) ns.length cn) ∧ w'.cell? ⟨w.heap.size + 1, 0, none⟩ = some (.slice A0 p.length c0) ∧ w'.cell? ⟨w.heap.size + 1, 1, none⟩ = some (.slice A1 v.length c1) ∧ w'.cell? ⟨w.heap.size + 1, 2, none⟩ = some (.int .u64 o) ∧ w'.cell? ⟨w.heap.size + 1, 3, none⟩ = some (.int .i64 m) ∧ w'.cell? ⟨w.heap.size + 1, 4, none⟩ = some (.slice A4 h.length c4) ∧ w'.cell? ⟨w.heap.size + 1, 5, none⟩ = some (.int .u64 ep) ∧ w'.cell? ⟨w.heap.size + 1, 6, none⟩ = some (.int .u64 ge) ∧ w'.cell? ⟨w.heap.size + 1, 7, none⟩ = some (.slice A7 wa.length c7))) := ⟨fun w' hC => ⟨(hC.out.cell (World.block_lt_of_cell? _ _ s0)).trans s0, (hC.out.cell (World.block_lt_of_cell? _ _ s1)).trans s1, (hC.out.cell (World.block_lt_of_cell? _ _ s2)).trans s2, (hC.out.cell (World.block_lt_of_cell? _ _ s3)).trans s3, (hC.out.cell (World.block_lt_of_cell? _ _ s4)).trans s4, (hC.out.cell (World.block_lt_of_cell? _ _ s5)).trans s5, (hC.out.cell (World.block_lt_of_cell? _ _ m0)).trans m0, (hC.out.cell (World.block_lt_of_cell? _ _ m1)).trans m1, (hC.out.cell (World.block_lt_of_cell? _ _ m2)).trans m2, (hC.out.cell (World.block_lt_of_cell? _ _ m3)).trans m3, (hC.out.cell (World.block_lt_of_cell? _ _ m4)).trans m4, (hC.out.cell (World.block_lt_of_cell? _ _ m5)).trans m5, (hC.out.cell (World.block_lt_of_cell? _ _ m6)).trans m6, (hC.out.cell (World.block_lt_of_cell? _ _ m7)).trans m7⟩⟩
   have VP1 := Aside0.mk (fun (w' : World) (hC : BelowOf W0 w') => (VP.out w' (below_step HB.out hC.out)).mono (fun e w'' h => show e = .returned (.bool false) ∧ BelowOf W0 w'' from ⟨h.1, ⟨below_step hC.out h.2⟩⟩))
   clear s0 s1 s2 s3 s4 s5 m0 m1 m2 m3 m4 m5 m6 m7
   refine wp_region_below (by kernel_rfl) (by kernel_rfl) ?_
   repeat (first | go_big_quiet_skip | (go_big_quiet_want; rename_i K hK; refine quiet_mk (v := ?_) ?_ (hK _ ?_); rotate_left 1; (focus (intro w' hC; first | (go_simp; first | done | with_reducible rfl) | (obtain ⟨s0, s1, s2, s3, s4, s5, m0, m1, m2, m3, m4, m5, m6, m7⟩ := CF.out w' hC; go_simp; first | done | with_reducible rfl) | (go_simp; go_at_call 9; exact VP1.out w' hC))); clear hK K); try simp only [Act.put, List.setIfInBounds_toArray, List.set_cons_zero, List.set_cons_succ])
   refine wpQuiet_nil ?_
   intro W1 hb1
   have hb := hb1.out
   clear hb1 CF VP1
   replace BS := Aside0.mk (blk_below BS.out hb)
   replace BN := Aside0.mk (blk_below BN.out hb)
   replace HB := Aside0.mk (below_step HB.out hb)
   clear hb
   have s0 := blk_cell BS.out 0
   have s1 := blk_cell BS.out 1
   have s2 := blk_cell BS.out 2
   have s3 := blk_cell BS.out 3
   have s4 := blk_cell BS.out 4
   have s5 := blk_cell BS.out 5
   have m0 := blk_cell BN.out 0
   have m1 := blk_cell BN.out 1
   have m2 := blk_cell BN.out 2
   have m3 := blk_cell BN.out 3
   have m4 := blk_cell BN.out 4
   have m5 := blk_cell BN.out 5
   have m6 := blk_cell BN.out 6
   have m7 := blk_cell BN.out 7
   simp only [List.getElem?_toArray, List.getElem?_cons_zero, List.getElem?_cons_succ] at s0 s1 s2 s3 s4 s5 m0 m1 m2 m3 m4 m5 m6 m7
   go_wp2_with fail
   go_ret
   rw [HE.out]
   exact ⟨by simp, HB.out⟩
 | true =>
  by_cases hi0 : i = 0
  ·
   have di : decide (0 < i) = false := decide_eq_false (by omega)
   have HI0 := Aside0.mk (show (i == 0) = true from beq_iff_eq.2 hi0)
   clear hi0
   have CF : Aside0 (∀ w' : World, BelowOf W0 w' → (w'.cell? ⟨w.heap.size, 0, none⟩ = some (.int .u64 e) ∧ w'.cell? ⟨w.heap.size, 1, none⟩ = some (.int .u64 g) ∧ w'.cell? ⟨w.heap.size, 2, none⟩ = some (.int .u64 n) ∧ w'.cell? ⟨w.heap.size, 3, none⟩ = some (.int .i64 t) ∧ w'.cell? ⟨w.heap.size, 4, none⟩ = some (.slice As xs.length cs) ∧ w'.cell? ⟨w.heap.size, 5, none⟩ = some (.slice (some ad) ns.length cn) ∧ w'.cell? ⟨w.heap.size + 1, 0, none⟩ = some (.slice A0 p.length c0) ∧ w'.cell? ⟨w.heap.size + 1, 1, none⟩ = some (.slice A1 v.length c1) ∧ w'.cell? ⟨w.heap.size + 1, 2, none⟩ = some (.int .u64 o) ∧ w'.cell? ⟨w.heap.size + 1, 3, none⟩ = some (.int .i64 m) ∧ w'.cell? ⟨w.heap.size + 1, 4, none⟩ = some (.slice A4 h.length c4) ∧ w'.cell? ⟨w.heap.size + 1, 5, none⟩ = some (.int .u64 ep) ∧ w'.cell? ⟨w.heap.size + 1, 6, none⟩ = some (.int .u64 ge) ∧ w'.cell? ⟨w.heap.size + 1, 7, none⟩ = some (.slice A7 wa.length c7))) := ⟨fun w' hC => ⟨(hC.out.cell (World.block_lt_of_cell? _ _ s0)).trans s0, (hC.out.cell (World.block_lt_of_cell? _ _ s1)).trans s1, (hC.out.cell (World.block_lt_of_cell? _ _ s2)).trans s2, (hC.out.cell (World.block_lt_of_cell? _ _ s3)).trans s3, (hC.out.cell (World.block_lt_of_cell? _ _ s4)).trans s4, (hC.out.cell (World.block_lt_of_cell? _ _ s5)).trans s5, (hC.out.cell (World.block_lt_of_cell? _ _ m0)).trans m0, (hC.out.cell (World.block_lt_of_cell? _ _ m1)).trans m1, (hC.out.cell (World.block_lt_of_cell? _ _ m2)).trans m2, (hC.out.cell (World.block_lt_of_cell? _ _ m3)).trans m3, (hC.out.cell (World.block_lt_of_cell? _ _ m4)).trans m4, (hC.out.cell (World.block_lt_of_cell? _ _ m5)).trans m5, (hC.out.cell (World.block_lt_of_cell? _ _ m6)).trans m6, (hC.out.cell (World.block_lt_of_cell? _ _ m7)).trans m7⟩⟩
   have VP1 := Aside0.mk (fun (w' : World) (hC : BelowOf W0 w') => (VP.out w' (below_step HB.out hC.out)).mono (fun e w'' h => show e = .returned (.bool true) ∧ BelowOf W0 w'' from ⟨h.1, ⟨below_step hC.out h.2⟩⟩))
   clear s0 s1 s2 s3 s4 s5 m0 m1 m2 m3 m4 m5 m6 m7
   refine wp_region_below (by kernel_rfl) (by kernel_rfl) ?_
   repeat (first | go_big_quiet_skip | (go_big_quiet_want; rename_i K hK; refine quiet_mk (v := ?_) ?_ (hK _ ?_); rotate_left 1; (focus (intro w' hC; first | (go_simp; first | done | with_reducible rfl) | (obtain ⟨s0, s1, s2, s3, s4, s5, m0, m1, m2, m3, m4, m5, m6, m7⟩ := CF.out w' hC; go_simp; first | done | with_reducible rfl) | (go_simp; go_at_call 9; exact VP1.out w' hC))); clear hK K); try simp only [Act.put, List.setIfInBounds_toArray, List.set_cons_zero, List.set_cons_succ])
   refine wpQuiet_nil ?_
   intro W1 hb1
   have hb := hb1.out
   clear hb1 CF VP1
   replace BS := Aside0.mk (blk_below BS.out hb)
   replace BN := Aside0.mk (blk_below BN.out hb)
   replace HB := Aside0.mk (below_step HB.out hb)
   clear hb
   have s0 := blk_cell BS.out 0
   have s1 := blk_cell BS.out 1
   have s2 := blk_cell BS.out 2
   have s3 := blk_cell BS.out 3
   have s4 := blk_cell BS.out 4
   have s5 := blk_cell BS.out 5
   have m0 := blk_cell BN.out 0
   have m1 := blk_cell BN.out 1
   have m2 := blk_cell BN.out 2
   have m3 := blk_cell BN.out 3
   have m4 := blk_cell BN.out 4
   have m5 := blk_cell BN.out 5
   have m6 := blk_cell BN.out 6
   have m7 := blk_cell BN.out 7
   simp only [List.getElem?_toArray, List.getElem?_cons_zero, List.getElem?_cons_succ] at s0 s1 s2 s3 s4 s5 m0 m1 m2 m3 m4 m5 m6 m7
   go_wp2_with fail
   rw [HI0.out] at HE
   cases b3 with
   | false =>
    (first | go_region_with (first | (go_at_call 93; refine (PAR.out _ (by with_reducible repeat (first | exact HB.out | apply below_drew1))).mono ?_; rintro r W2 ⟨B, d, rfl, hd, hC, hb0⟩; have hb : Below W1.heap.size W1 W2 := (by first | exact hb0 | exact (below_drew1 (Below.refl W1.heap.size W1)).trans hb0); clear hb0; replace BS := Aside0.mk (blk_below BS.out hb); replace BN := Aside0.mk (blk_below BN.out hb); replace HB := Aside0.mk (below_step HB.out hb); have HC := Aside0.mk hC; have HD := Aside0.mk hd; clear hb hC hd; clear s0 s1 s2 s3 s4 s5 m0 m1 m2 m3 m4 m5 m6 m7; have s0 := blk_cell BS.out 0; have s1 := blk_cell BS.out 1; have s2 := blk_cell BS.out 2; have s3 := blk_cell BS.out 3; have s4 := blk_cell BS.out 4; have s5 := blk_cell BS.out 5; have m0 := blk_cell BN.out 0; have m1 := blk_cell BN.out 1; have m2 := blk_cell BN.out 2; have m3 := blk_cell BN.out 3; have m4 := blk_cell BN.out 4; have m5 := blk_cell BN.out 5; have m6 := blk_cell BN.out 6; have m7 := blk_cell BN.out 7; simp only [List.getElem?_toArray, List.getElem?_cons_zero, List.getElem?_cons_succ] at s0 s1 s2 s3 s4 s5 m0 m1 m2 m3 m4 m5 m6 m7) | (go_at_call 92; refine (CAN.out B d _ (by with_reducible repeat (first | exact HB.out | apply below_drew1)) (by repeat (first | exact HC.out | refine Kd.C_drew ?_)) HD.out).mono ?_; rintro r W3 ⟨rfl, hb0⟩; have hb : Below W2.heap.size W2 W3 := (by first | exact hb0 | exact (below_drew1 (Below.refl W2.heap.size W2)).trans hb0); clear hb0; replace BS := Aside0.mk (blk_below BS.out hb); replace BN := Aside0.mk (blk_below BN.out hb); replace HB := Aside0.mk (below_step HB.out hb); clear hb HC HD; clear s0 s1 s2 s3 s4 s5 m0 m1 m2 m3 m4 m5 m6 m7; have s0 := blk_cell BS.out 0; have s1 := blk_cell BS.out 1; have s2 := blk_cell BS.out 2; have s3 := blk_cell BS.out 3; have s4 := blk_cell BS.out 4; have s5 := blk_cell BS.out 5; have m0 := blk_cell BN.out 0; have m1 := blk_cell BN.out 1; have m2 := blk_cell BN.out 2; have m3 := blk_cell BN.out 3; have m4 := blk_cell BN.out 4; have m5 := blk_cell BN.out 5; have m6 := blk_cell BN.out 6; have m7 := blk_cell BN.out 7; simp only [List.getElem?_toArray, List.getElem?_cons_zero, List.getElem?_cons_succ] at s0 s1 s2 s3 s4 s5 m0 m1 m2 m3 m4 m5 m6 m7)) | fail)
    all_goals (go_wp2_with fail; go_ret; rw [HE.out]; exact ⟨by simp, HB.out⟩)
   | true =>
    by_cases hv : 40 < v.length
    ·
     have hv1 : decide ((40 : Int) < (v.length : Int)) = true := decide_eq_true (by omega)
     have HV := Aside0.mk (show decide (v.length ≤ 40) = false from decide_eq_false (by omega))
     clear hv
     (first | go_region_held3 (fun w' => w'.cell? ⟨w.heap.size, 0, none⟩ = some (.int .u64 e) ∧ w'.cell? ⟨w.heap.size, 1, none⟩ = some (.int .u64 g) ∧ w'.cell? ⟨w.heap.size, 2, none⟩ = some (.int .u64 n) ∧ w'.cell? ⟨w.heap.size, 3, none⟩ = some (.int .i64 t) ∧ w'.cell? ⟨w.heap.size, 4, none⟩ = some (.slice As xs.length cs) ∧ w'.cell? ⟨w.heap.size, 5, none⟩ = some (.slice (some ad) ns.length cn) ∧ w'.cell? ⟨w.heap.size + 1, 0, none⟩ = some (.slice A0 p.length c0) ∧ w'.cell? ⟨w.heap.size + 1, 1, none⟩ = some (.slice A1 v.length c1) ∧ w'.cell? ⟨w.heap.size + 1, 2, none⟩ = some (.int .u64 o) ∧ w'.cell? ⟨w.heap.size + 1, 3, none⟩ = some (.int .i64 m) ∧ w'.cell? ⟨w.heap.size + 1, 4, none⟩ = some (.slice A4 h.length c4) ∧ w'.cell? ⟨w.heap.size + 1, 5, none⟩ = some (.int .u64 ep) ∧ w'.cell? ⟨w.heap.size + 1, 6, none⟩ = some (.int .u64 ge) ∧ w'.cell? ⟨w.heap.size + 1, 7, none⟩ = some (.slice A7 wa.length c7)) (first | exact ⟨s0, s1, s2, s3, s4, s5, m0, m1, m2, m3, m4, m5, m6, m7⟩) (first | (go_at_call 93; refine (PAR.out _ (by with_reducible repeat (first | exact HB.out | apply below_drew1))).mono ?_; rintro r W2 ⟨B, d, rfl, hd, hC, hb0⟩; have hb : Below W1.heap.size W1 W2 := (by first | exact hb0 | exact (below_drew1 (Below.refl W1.heap.size W1)).trans hb0); clear hb0; replace BS := Aside0.mk (blk_below BS.out hb); replace BN := Aside0.mk (blk_below BN.out hb); replace HB := Aside0.mk (below_step HB.out hb); have HC := Aside0.mk hC; have HD := Aside0.mk hd; clear hb hC hd; clear s0 s1 s2 s3 s4 s5 m0 m1 m2 m3 m4 m5 m6 m7; have s0 := blk_cell BS.out 0; have s1 := blk_cell BS.out 1; have s2 := blk_cell BS.out 2; have s3 := blk_cell BS.out 3; have s4 := blk_cell BS.out 4; have s5 := blk_cell BS.out 5; have m0 := blk_cell BN.out 0; have m1 := blk_cell BN.out 1; have m2 := blk_cell BN.out 2; have m3 := blk_cell BN.out 3; have m4 := blk_cell BN.out 4; have m5 := blk_cell BN.out 5; have m6 := blk_cell BN.out 6; have m7 := blk_cell BN.out 7; simp only [List.getElem?_toArray, List.getElem?_cons_zero, List.getElem?_cons_succ] at s0 s1 s2 s3 s4 s5 m0 m1 m2 m3 m4 m5 m6 m7) | (go_at_call 92; refine (CAN.out B d _ (by with_reducible repeat (first | exact HB.out | apply below_drew1)) (by repeat (first | exact HC.out | refine Kd.C_drew ?_)) HD.out).mono ?_; rintro r W3 ⟨rfl, hb0⟩; have hb : Below W2.heap.size W2 W3 := (by first | exact hb0 | exact (below_drew1 (Below.refl W2.heap.size W2)).trans hb0); clear hb0; replace BS := Aside0.mk (blk_below BS.out hb); replace BN := Aside0.mk (blk_below BN.out hb); replace HB := Aside0.mk (below_step HB.out hb); clear hb HC HD; clear s0 s1 s2 s3 s4 s5 m0 m1 m2 m3 m4 m5 m6 m7; have s0 := blk_cell BS.out 0; have s1 := blk_cell BS.out 1; have s2 := blk_cell BS.out 2; have s3 := blk_cell BS.out 3; have s4 := blk_cell BS.out 4; have s5 := blk_cell BS.out 5; have m0 := blk_cell BN.out 0; have m1 := blk_cell BN.out 1; have m2 := blk_cell BN.out 2; have m3 := blk_cell BN.out 3; have m4 := blk_cell BN.out 4; have m5 := blk_cell BN.out 5; have m6 := blk_cell BN.out 6; have m7 := blk_cell BN.out 7; simp only [List.getElem?_toArray, List.getElem?_cons_zero, List.getElem?_cons_succ] at s0 s1 s2 s3 s4 s5 m0 m1 m2 m3 m4 m5 m6 m7)) | fail)
     go_wp2_with fail
     go_ret
     rw [HE.out, HV.out]
     exact ⟨by simp, HB.out⟩
    ·
     have hv1 : decide ((40 : Int) < (v.length : Int)) = false := decide_eq_false (by omega)
     have HV := Aside0.mk (show decide (v.length ≤ 40) = true from decide_eq_true (by omega))
     clear hv
     (first | go_region_held3 (fun w' => w'.cell? ⟨w.heap.size, 0, none⟩ = some (.int .u64 e) ∧ w'.cell? ⟨w.heap.size, 1, none⟩ = some (.int .u64 g) ∧ w'.cell? ⟨w.heap.size, 2, none⟩ = some (.int .u64 n) ∧ w'.cell? ⟨w.heap.size, 3, none⟩ = some (.int .i64 t) ∧ w'.cell? ⟨w.heap.size, 4, none⟩ = some (.slice As xs.length cs) ∧ w'.cell? ⟨w.heap.size, 5, none⟩ = some (.slice (some ad) ns.length cn) ∧ w'.cell? ⟨w.heap.size + 1, 0, none⟩ = some (.slice A0 p.length c0) ∧ w'.cell? ⟨w.heap.size + 1, 1, none⟩ = some (.slice A1 v.length c1) ∧ w'.cell? ⟨w.heap.size + 1, 2, none⟩ = some (.int .u64 o) ∧ w'.cell? ⟨w.heap.size + 1, 3, none⟩ = some (.int .i64 m) ∧ w'.cell? ⟨w.heap.size + 1, 4, none⟩ = some (.slice A4 h.length c4) ∧ w'.cell? ⟨w.heap.size + 1, 5, none⟩ = some (.int .u64 ep) ∧ w'.cell? ⟨w.heap.size + 1, 6, none⟩ = some (.int .u64 ge) ∧ w'.cell? ⟨w.heap.size + 1, 7, none⟩ = some (.slice A7 wa.length c7)) (first | exact ⟨s0, s1, s2, s3, s4, s5, m0, m1, m2, m3, m4, m5, m6, m7⟩) (first | (go_at_call 93; refine (PAR.out _ (by with_reducible repeat (first | exact HB.out | apply below_drew1))).mono ?_; rintro r W2 ⟨B, d, rfl, hd, hC, hb0⟩; have hb : Below W1.heap.size W1 W2 := (by first | exact hb0 | exact (below_drew1 (Below.refl W1.heap.size W1)).trans hb0); clear hb0; replace BS := Aside0.mk (blk_below BS.out hb); replace BN := Aside0.mk (blk_below BN.out hb); replace HB := Aside0.mk (below_step HB.out hb); have HC := Aside0.mk hC; have HD := Aside0.mk hd; clear hb hC hd; clear s0 s1 s2 s3 s4 s5 m0 m1 m2 m3 m4 m5 m6 m7; have s0 := blk_cell BS.out 0; have s1 := blk_cell BS.out 1; have s2 := blk_cell BS.out 2; have s3 := blk_cell BS.out 3; have s4 := blk_cell BS.out 4; have s5 := blk_cell BS.out 5; have m0 := blk_cell BN.out 0; have m1 := blk_cell BN.out 1; have m2 := blk_cell BN.out 2; have m3 := blk_cell BN.out 3; have m4 := blk_cell BN.out 4; have m5 := blk_cell BN.out 5; have m6 := blk_cell BN.out 6; have m7 := blk_cell BN.out 7; simp only [List.getElem?_toArray, List.getElem?_cons_zero, List.getElem?_cons_succ] at s0 s1 s2 s3 s4 s5 m0 m1 m2 m3 m4 m5 m6 m7) | (go_at_call 92; refine (CAN.out B d _ (by with_reducible repeat (first | exact HB.out | apply below_drew1)) (by repeat (first | exact HC.out | refine Kd.C_drew ?_)) HD.out).mono ?_; rintro r W3 ⟨rfl, hb0⟩; have hb : Below W2.heap.size W2 W3 := (by first | exact hb0 | exact (below_drew1 (Below.refl W2.heap.size W2)).trans hb0); clear hb0; replace BS := Aside0.mk (blk_below BS.out hb); replace BN := Aside0.mk (blk_below BN.out hb); replace HB := Aside0.mk (below_step HB.out hb); clear hb HC HD; clear s0 s1 s2 s3 s4 s5 m0 m1 m2 m3 m4 m5 m6 m7; have s0 := blk_cell BS.out 0; have s1 := blk_cell BS.out 1; have s2 := blk_cell BS.out 2; have s3 := blk_cell BS.out 3; have s4 := blk_cell BS.out 4; have s5 := blk_cell BS.out 5; have m0 := blk_cell BN.out 0; have m1 := blk_cell BN.out 1; have m2 := blk_cell BN.out 2; have m3 := blk_cell BN.out 3; have m4 := blk_cell BN.out 4; have m5 := blk_cell BN.out 5; have m6 := blk_cell BN.out 6; have m7 := blk_cell BN.out 7; simp only [List.getElem?_toArray, List.getElem?_cons_zero, List.getElem?_cons_succ] at s0 s1 s2 s3 s4 s5 m0 m1 m2 m3 m4 m5 m6 m7)) | fail)
     by_cases h0 : o = 0
     ·
      subst h0
      have HO := Aside0.mk (show ((0 : Int) == 0) = true from rfl)
      go_wp2_with fail
      refine (ID4.out _ HB.out).mono ?_
      rintro r Wi ⟨rfl, hb⟩
      replace BS := Aside0.mk (blk_below BS.out hb)
      replace BN := Aside0.mk (blk_below BN.out hb)
      replace HB := Aside0.mk (below_step HB.out hb)
      clear hb
      clear s0 s1 s2 s3 s4 s5 m0 m1 m2 m3 m4 m5 m6 m7
      have s0 := blk_cell BS.out 0
      have s1 := blk_cell BS.out 1
      have s2 := blk_cell BS.out 2
      have s3 := blk_cell BS.out 3
      have s4 := blk_cell BS.out 4
      have s5 := blk_cell BS.out 5
      have m0 := blk_cell BN.out 0
      have m1 := blk_cell BN.out 1
      have m2 := blk_cell BN.out 2
      have m3 := blk_cell BN.out 3
      have m4 := blk_cell BN.out 4
      have m5 := blk_cell BN.out 5
      have m6 := blk_cell BN.out 6
      have m7 := blk_cell BN.out 7
      simp only [List.getElem?_toArray, List.getElem?_cons_zero, List.getElem?_cons_succ] at s0 s1 s2 s3 s4 s5 m0 m1 m2 m3 m4 m5 m6 m7
      cases b6 with
      | false =>
       go_wp2_with fail
       go_ret
       rw [HE.out, HO.out]
       exact ⟨by simp, HB.out⟩
      | true =>
       go_wp2_with fail
       refine (ID7.out _ HB.out).mono ?_
       rintro r Wj ⟨rfl, hb⟩
       replace BS := Aside0.mk (blk_below BS.out hb)
       replace BN := Aside0.mk (blk_below BN.out hb)
       replace HB := Aside0.mk (below_step HB.out hb)
       clear hb
       clear s0 s1 s2 s3 s4 s5 m0 m1 m2 m3 m4 m5 m6 m7
       have s0 := blk_cell BS.out 0
       have s1 := blk_cell BS.out 1
       have s2 := blk_cell BS.out 2
       have s3 := blk_cell BS.out 3
       have s4 := blk_cell BS.out 4
       have s5 := blk_cell BS.out 5
       have m0 := blk_cell BN.out 0
       have m1 := blk_cell BN.out 1
       have m2 := blk_cell BN.out 2
       have m3 := blk_cell BN.out 3
       have m4 := blk_cell BN.out 4
       have m5 := blk_cell BN.out 5
       have m6 := blk_cell BN.out 6
       have m7 := blk_cell BN.out 7
       simp only [List.getElem?_toArray, List.getElem?_cons_zero, List.getElem?_cons_succ] at s0 s1 s2 s3 s4 s5 m0 m1 m2 m3 m4 m5 m6 m7
       cases b7 with
       | false =>
        go_wp2_with fail
        go_ret
        rw [HE.out, HO.out]
        exact ⟨by simp, HB.out⟩
       | true =>
        go_wp2_with fail
        refine (LOC.out _ HB.out).mono ?_
        rintro r Wk ⟨rfl, hb⟩
        replace BS := Aside0.mk (blk_below BS.out hb)
        replace BN := Aside0.mk (blk_below BN.out hb)
        replace HB := Aside0.mk (below_step HB.out hb)
        clear hb
        clear s0 s1 s2 s3 s4 s5 m0 m1 m2 m3 m4 m5 m6 m7
        have s0 := blk_cell BS.out 0
        have s1 := blk_cell BS.out 1
        have s2 := blk_cell BS.out 2
        have s3 := blk_cell BS.out 3
        have s4 := blk_cell BS.out 4
        have s5 := blk_cell BS.out 5
        have m0 := blk_cell BN.out 0
        have m1 := blk_cell BN.out 1
        have m2 := blk_cell BN.out 2
        have m3 := blk_cell BN.out 3
        have m4 := blk_cell BN.out 4
        have m5 := blk_cell BN.out 5
        have m6 := blk_cell BN.out 6
        have m7 := blk_cell BN.out 7
        simp only [List.getElem?_toArray, List.getElem?_cons_zero, List.getElem?_cons_succ] at s0 s1 s2 s3 s4 s5 m0 m1 m2 m3 m4 m5 m6 m7
        go_wp2_with fail
        go_ret
        rw [HE.out, HO.out, HV.out]
        exact ⟨by simp, HB.out⟩
     ·
      have d0 : decide (o = 0) = false := decide_eq_false h0
      have d1 : (o == 0) = false := beq_eq_false_iff_ne.2 h0
      have HO := Aside0.mk d1
      clear d1
      go_wp2_with fail
      refine (LIV.out _ HB.out).mono ?_
      rintro r Wl ⟨rfl, hb⟩
      replace BS := Aside0.mk (blk_below BS.out hb)
      replace BN := Aside0.mk (blk_below BN.out hb)
      replace HB := Aside0.mk (below_step HB.out hb)
      clear hb
      clear s0 s1 s2 s3 s4 s5 m0 m1 m2 m3 m4 m5 m6 m7
      have s0 := blk_cell BS.out 0
      have s1 := blk_cell BS.out 1
      have s2 := blk_cell BS.out 2
      have s3 := blk_cell BS.out 3
      have s4 := blk_cell BS.out 4
      have s5 := blk_cell BS.out 5
      have m0 := blk_cell BN.out 0
      have m1 := blk_cell BN.out 1
      have m2 := blk_cell BN.out 2
      have m3 := blk_cell BN.out 3
      have m4 := blk_cell BN.out 4
      have m5 := blk_cell BN.out 5
      have m6 := blk_cell BN.out 6
      have m7 := blk_cell BN.out 7
      simp only [List.getElem?_toArray, List.getElem?_cons_zero, List.getElem?_cons_succ] at s0 s1 s2 s3 s4 s5 m0 m1 m2 m3 m4 m5 m6 m7
      cases b5 with
      | false =>
       go_wp2_with fail
       go_ret
       rw [HE.out, HO.out]
       exact ⟨by simp, HB.out⟩
      | true =>
       go_wp2_with fail
       refine (ID4.out _ HB.out).mono ?_
       rintro r Wi ⟨rfl, hb⟩
       replace BS := Aside0.mk (blk_below BS.out hb)
       replace BN := Aside0.mk (blk_below BN.out hb)
       replace HB := Aside0.mk (below_step HB.out hb)
       clear hb
       clear s0 s1 s2 s3 s4 s5 m0 m1 m2 m3 m4 m5 m6 m7
       have s0 := blk_cell BS.out 0
       have s1 := blk_cell BS.out 1
       have s2 := blk_cell BS.out 2
       have s3 := blk_cell BS.out 3
       have s4 := blk_cell BS.out 4
       have s5 := blk_cell BS.out 5
       have m0 := blk_cell BN.out 0
       have m1 := blk_cell BN.out 1
       have m2 := blk_cell BN.out 2
       have m3 := blk_cell BN.out 3
       have m4 := blk_cell BN.out 4
       have m5 := blk_cell BN.out 5
       have m6 := blk_cell BN.out 6
       have m7 := blk_cell BN.out 7
       simp only [List.getElem?_toArray, List.getElem?_cons_zero, List.getElem?_cons_succ] at s0 s1 s2 s3 s4 s5 m0 m1 m2 m3 m4 m5 m6 m7
       cases b6 with
       | false =>
        go_wp2_with fail
        go_ret
        rw [HE.out, HO.out]
        exact ⟨by simp, HB.out⟩
       | true =>
        go_wp2_with fail
        refine (ID7.out _ HB.out).mono ?_
        rintro r Wj ⟨rfl, hb⟩
        replace BS := Aside0.mk (blk_below BS.out hb)
        replace BN := Aside0.mk (blk_below BN.out hb)
        replace HB := Aside0.mk (below_step HB.out hb)
        clear hb
        clear s0 s1 s2 s3 s4 s5 m0 m1 m2 m3 m4 m5 m6 m7
        have s0 := blk_cell BS.out 0
        have s1 := blk_cell BS.out 1
        have s2 := blk_cell BS.out 2
        have s3 := blk_cell BS.out 3
        have s4 := blk_cell BS.out 4
        have s5 := blk_cell BS.out 5
        have m0 := blk_cell BN.out 0
        have m1 := blk_cell BN.out 1
        have m2 := blk_cell BN.out 2
        have m3 := blk_cell BN.out 3
        have m4 := blk_cell BN.out 4
        have m5 := blk_cell BN.out 5
        have m6 := blk_cell BN.out 6
        have m7 := blk_cell BN.out 7
        simp only [List.getElem?_toArray, List.getElem?_cons_zero, List.getElem?_cons_succ] at s0 s1 s2 s3 s4 s5 m0 m1 m2 m3 m4 m5 m6 m7
        cases b7 with
        | false =>
         go_wp2_with fail
         go_ret
         rw [HE.out, HO.out]
         exact ⟨by simp, HB.out⟩
        | true =>
         go_wp2_with fail
         refine (LOC.out _ HB.out).mono ?_
         rintro r Wk ⟨rfl, hb⟩
         replace BS := Aside0.mk (blk_below BS.out hb)
         replace BN := Aside0.mk (blk_below BN.out hb)
         replace HB := Aside0.mk (below_step HB.out hb)
         clear hb
         clear s0 s1 s2 s3 s4 s5 m0 m1 m2 m3 m4 m5 m6 m7
         have s0 := blk_cell BS.out 0
         have s1 := blk_cell BS.out 1
         have s2 := blk_cell BS.out 2
         have s3 := blk_cell BS.out 3
         have s4 := blk_cell BS.out 4
         have s5 := blk_cell BS.out 5
         have m0 := blk_cell BN.out 0
         have m1 := blk_cell BN.out 1
         have m2 := blk_cell BN.out 2
         have m3 := blk_cell BN.out 3
         have m4 := blk_cell BN.out 4
         have m5 := blk_cell BN.out 5
         have m6 := blk_cell BN.out 6
         have m7 := blk_cell BN.out 7
         simp only [List.getElem?_toArray, List.getElem?_cons_zero, List.getElem?_cons_succ] at s0 s1 s2 s3 s4 s5 m0 m1 m2 m3 m4 m5 m6 m7
         go_wp2_with fail
         go_ret
         rw [HE.out, HO.out, HV.out]
         exact ⟨by simp, HB.out⟩
  ·
   have di : decide (0 < i) = true := decide_eq_true (by omega)
   obtain ⟨Ap, cp, hpc1, hpc2⟩ := HPV.out (by omega)
   have wd0 := wrap_down i (by omega) (by omega)
   have wd3 : ((i - 1 : Nat) : Int) < (ns.length : Int) := by omega
   obtain ⟨j, hj⟩ : ∃ j, i - 1 = j := ⟨_, rfl⟩
   rw [hj] at wd0 wd3 hpc1
   have wd := (i64_w ((i : Int) - 1)).trans wd0
   have wd2 : (0 : Int) ≤ (j : Int) := by omega
   have HPC := Aside0.mk (And.intro hpc1 hpc2)
   have HI0 := Aside0.mk (show (i == 0) = false from beq_eq_false_iff_ne.2 hi0)
   clear wd0 hj hi0 hpc1 hpc2
   have CF : Aside0 (∀ w' : World, BelowOf W0 w' → (w'.cell? ⟨w.heap.size, 0, none⟩ = some (.int .u64 e) ∧ w'.cell? ⟨w.heap.size, 1, none⟩ = some (.int .u64 g) ∧ w'.cell? ⟨w.heap.size, 2, none⟩ = some (.int .u64 n) ∧ w'.cell? ⟨w.heap.size, 3, none⟩ = some (.int .i64 t) ∧ w'.cell? ⟨w.heap.size, 4, none⟩ = some (.slice As xs.length cs) ∧ w'.cell? ⟨w.heap.size, 5, none⟩ = some (.slice (some ad) ns.length cn) ∧ w'.cell? ⟨w.heap.size + 1, 0, none⟩ = some (.slice A0 p.length c0) ∧ w'.cell? ⟨w.heap.size + 1, 1, none⟩ = some (.slice A1 v.length c1) ∧ w'.cell? ⟨w.heap.size + 1, 2, none⟩ = some (.int .u64 o) ∧ w'.cell? ⟨w.heap.size + 1, 3, none⟩ = some (.int .i64 m) ∧ w'.cell? ⟨w.heap.size + 1, 4, none⟩ = some (.slice A4 h.length c4) ∧ w'.cell? ⟨w.heap.size + 1, 5, none⟩ = some (.int .u64 ep) ∧ w'.cell? ⟨w.heap.size + 1, 6, none⟩ = some (.int .u64 ge) ∧ w'.cell? ⟨w.heap.size + 1, 7, none⟩ = some (.slice A7 wa.length c7))) := ⟨fun w' hC => ⟨(hC.out.cell (World.block_lt_of_cell? _ _ s0)).trans s0, (hC.out.cell (World.block_lt_of_cell? _ _ s1)).trans s1, (hC.out.cell (World.block_lt_of_cell? _ _ s2)).trans s2, (hC.out.cell (World.block_lt_of_cell? _ _ s3)).trans s3, (hC.out.cell (World.block_lt_of_cell? _ _ s4)).trans s4, (hC.out.cell (World.block_lt_of_cell? _ _ s5)).trans s5, (hC.out.cell (World.block_lt_of_cell? _ _ m0)).trans m0, (hC.out.cell (World.block_lt_of_cell? _ _ m1)).trans m1, (hC.out.cell (World.block_lt_of_cell? _ _ m2)).trans m2, (hC.out.cell (World.block_lt_of_cell? _ _ m3)).trans m3, (hC.out.cell (World.block_lt_of_cell? _ _ m4)).trans m4, (hC.out.cell (World.block_lt_of_cell? _ _ m5)).trans m5, (hC.out.cell (World.block_lt_of_cell? _ _ m6)).trans m6, (hC.out.cell (World.block_lt_of_cell? _ _ m7)).trans m7⟩⟩
   have VP1 := Aside0.mk (fun (w' : World) (hC : BelowOf W0 w') => (VP.out w' (below_step HB.out hC.out)).mono (fun e w'' h => show e = .returned (.bool true) ∧ BelowOf W0 w'' from ⟨h.1, ⟨below_step hC.out h.2⟩⟩))
   clear s0 s1 s2 s3 s4 s5 m0 m1 m2 m3 m4 m5 m6 m7
   refine wp_region_below (by kernel_rfl) (by kernel_rfl) ?_
   repeat (first | go_big_quiet_skip | (go_big_quiet_want; rename_i K hK; refine quiet_mk (v := ?_) ?_ (hK _ ?_); rotate_left 1; (focus (intro w' hC; first | (go_simp; first | done | with_reducible rfl) | (obtain ⟨s0, s1, s2, s3, s4, s5, m0, m1, m2, m3, m4, m5, m6, m7⟩ := CF.out w' hC; go_simp; first | done | with_reducible rfl) | (have hp0 := ((below_step HB.out hC.out).cell (World.block_lt_of_cell? w _ HPC.out.1)).trans HPC.out.1; go_simp; first | done | with_reducible rfl) | (have hcv1 := Kd.C_string (P := Tryd.prog) (A := A0) (c := c0) Tryd.underlying22 Tryd.underlying5 Tryd.underlying9 (Kd.C_below HP.out (below_step HB.out hC.out)); go_simp; first | done | with_reducible rfl) | (have hcv2 := Kd.C_string (P := Tryd.prog) (A := Ap) (c := cp) Tryd.underlying22 Tryd.underlying5 Tryd.underlying9 (Kd.C_below HPC.out.2 (below_step HB.out hC.out)); go_simp; first | done | with_reducible rfl) | (have hle := HLE.out; go_simp; first | done | with_reducible rfl) | (go_simp; go_at_call 9; exact VP1.out w' hC))); clear hK K); try simp only [Act.put, List.setIfInBounds_toArray, List.set_cons_zero, List.set_cons_succ])
   refine wpQuiet_nil ?_
   intro W1 hb1
   have hb := hb1.out
   clear hb1 CF VP1
   replace BS := Aside0.mk (blk_below BS.out hb)
   replace BN := Aside0.mk (blk_below BN.out hb)
   replace HB := Aside0.mk (below_step HB.out hb)
   clear hb
   have s0 := blk_cell BS.out 0
   have s1 := blk_cell BS.out 1
   have s2 := blk_cell BS.out 2
   have s3 := blk_cell BS.out 3
   have s4 := blk_cell BS.out 4
   have s5 := blk_cell BS.out 5
   have m0 := blk_cell BN.out 0
   have m1 := blk_cell BN.out 1
   have m2 := blk_cell BN.out 2
   have m3 := blk_cell BN.out 3
   have m4 := blk_cell BN.out 4
   have m5 := blk_cell BN.out 5
   have m6 := blk_cell BN.out 6
   have m7 := blk_cell BN.out 7
   simp only [List.getElem?_toArray, List.getElem?_cons_zero, List.getElem?_cons_succ] at s0 s1 s2 s3 s4 s5 m0 m1 m2 m3 m4 m5 m6 m7
   rw [HLE.out]
   clear HLE
   cases b2 with
   | true =>
    go_wp2_with fail
    go_ret
    rw [HE.out, HI0.out]
    exact ⟨by simp, HB.out⟩
   | false =>
    rw [HI0.out] at HE
    go_wp2_with fail
    cases b3 with
    | false =>
     (first | go_region_with (first | (go_at_call 93; refine (PAR.out _ (by with_reducible repeat (first | exact HB.out | apply below_drew1))).mono ?_; rintro r W2 ⟨B, d, rfl, hd, hC, hb0⟩; have hb : Below W1.heap.size W1 W2 := (by first | exact hb0 | exact (below_drew1 (Below.refl W1.heap.size W1)).trans hb0); clear hb0; replace BS := Aside0.mk (blk_below BS.out hb); replace BN := Aside0.mk (blk_below BN.out hb); replace HB := Aside0.mk (below_step HB.out hb); have HC := Aside0.mk hC; have HD := Aside0.mk hd; clear hb hC hd; clear s0 s1 s2 s3 s4 s5 m0 m1 m2 m3 m4 m5 m6 m7; have s0 := blk_cell BS.out 0; have s1 := blk_cell BS.out 1; have s2 := blk_cell BS.out 2; have s3 := blk_cell BS.out 3; have s4 := blk_cell BS.out 4; have s5 := blk_cell BS.out 5; have m0 := blk_cell BN.out 0; have m1 := blk_cell BN.out 1; have m2 := blk_cell BN.out 2; have m3 := blk_cell BN.out 3; have m4 := blk_cell BN.out 4; have m5 := blk_cell BN.out 5; have m6 := blk_cell BN.out 6; have m7 := blk_cell BN.out 7; simp only [List.getElem?_toArray, List.getElem?_cons_zero, List.getElem?_cons_succ] at s0 s1 s2 s3 s4 s5 m0 m1 m2 m3 m4 m5 m6 m7) | (go_at_call 92; refine (CAN.out B d _ (by with_reducible repeat (first | exact HB.out | apply below_drew1)) (by repeat (first | exact HC.out | refine Kd.C_drew ?_)) HD.out).mono ?_; rintro r W3 ⟨rfl, hb0⟩; have hb : Below W2.heap.size W2 W3 := (by first | exact hb0 | exact (below_drew1 (Below.refl W2.heap.size W2)).trans hb0); clear hb0; replace BS := Aside0.mk (blk_below BS.out hb); replace BN := Aside0.mk (blk_below BN.out hb); replace HB := Aside0.mk (below_step HB.out hb); clear hb HC HD; clear s0 s1 s2 s3 s4 s5 m0 m1 m2 m3 m4 m5 m6 m7; have s0 := blk_cell BS.out 0; have s1 := blk_cell BS.out 1; have s2 := blk_cell BS.out 2; have s3 := blk_cell BS.out 3; have s4 := blk_cell BS.out 4; have s5 := blk_cell BS.out 5; have m0 := blk_cell BN.out 0; have m1 := blk_cell BN.out 1; have m2 := blk_cell BN.out 2; have m3 := blk_cell BN.out 3; have m4 := blk_cell BN.out 4; have m5 := blk_cell BN.out 5; have m6 := blk_cell BN.out 6; have m7 := blk_cell BN.out 7; simp only [List.getElem?_toArray, List.getElem?_cons_zero, List.getElem?_cons_succ] at s0 s1 s2 s3 s4 s5 m0 m1 m2 m3 m4 m5 m6 m7)) | fail)
     all_goals (go_wp2_with fail; go_ret; rw [HE.out]; exact ⟨by simp, HB.out⟩)
    | true =>
     by_cases hv : 40 < v.length
     ·
      have hv1 : decide ((40 : Int) < (v.length : Int)) = true := decide_eq_true (by omega)
      have HV := Aside0.mk (show decide (v.length ≤ 40) = false from decide_eq_false (by omega))
      clear hv
      (first | go_region_held3 (fun w' => w'.cell? ⟨w.heap.size, 0, none⟩ = some (.int .u64 e) ∧ w'.cell? ⟨w.heap.size, 1, none⟩ = some (.int .u64 g) ∧ w'.cell? ⟨w.heap.size, 2, none⟩ = some (.int .u64 n) ∧ w'.cell? ⟨w.heap.size, 3, none⟩ = some (.int .i64 t) ∧ w'.cell? ⟨w.heap.size, 4, none⟩ = some (.slice As xs.length cs) ∧ w'.cell? ⟨w.heap.size, 5, none⟩ = some (.slice (some ad) ns.length cn) ∧ w'.cell? ⟨w.heap.size + 1, 0, none⟩ = some (.slice A0 p.length c0) ∧ w'.cell? ⟨w.heap.size + 1, 1, none⟩ = some (.slice A1 v.length c1) ∧ w'.cell? ⟨w.heap.size + 1, 2, none⟩ = some (.int .u64 o) ∧ w'.cell? ⟨w.heap.size + 1, 3, none⟩ = some (.int .i64 m) ∧ w'.cell? ⟨w.heap.size + 1, 4, none⟩ = some (.slice A4 h.length c4) ∧ w'.cell? ⟨w.heap.size + 1, 5, none⟩ = some (.int .u64 ep) ∧ w'.cell? ⟨w.heap.size + 1, 6, none⟩ = some (.int .u64 ge) ∧ w'.cell? ⟨w.heap.size + 1, 7, none⟩ = some (.slice A7 wa.length c7)) (first | exact ⟨s0, s1, s2, s3, s4, s5, m0, m1, m2, m3, m4, m5, m6, m7⟩) (first | (go_at_call 93; refine (PAR.out _ (by with_reducible repeat (first | exact HB.out | apply below_drew1))).mono ?_; rintro r W2 ⟨B, d, rfl, hd, hC, hb0⟩; have hb : Below W1.heap.size W1 W2 := (by first | exact hb0 | exact (below_drew1 (Below.refl W1.heap.size W1)).trans hb0); clear hb0; replace BS := Aside0.mk (blk_below BS.out hb); replace BN := Aside0.mk (blk_below BN.out hb); replace HB := Aside0.mk (below_step HB.out hb); have HC := Aside0.mk hC; have HD := Aside0.mk hd; clear hb hC hd; clear s0 s1 s2 s3 s4 s5 m0 m1 m2 m3 m4 m5 m6 m7; have s0 := blk_cell BS.out 0; have s1 := blk_cell BS.out 1; have s2 := blk_cell BS.out 2; have s3 := blk_cell BS.out 3; have s4 := blk_cell BS.out 4; have s5 := blk_cell BS.out 5; have m0 := blk_cell BN.out 0; have m1 := blk_cell BN.out 1; have m2 := blk_cell BN.out 2; have m3 := blk_cell BN.out 3; have m4 := blk_cell BN.out 4; have m5 := blk_cell BN.out 5; have m6 := blk_cell BN.out 6; have m7 := blk_cell BN.out 7; simp only [List.getElem?_toArray, List.getElem?_cons_zero, List.getElem?_cons_succ] at s0 s1 s2 s3 s4 s5 m0 m1 m2 m3 m4 m5 m6 m7) | (go_at_call 92; refine (CAN.out B d _ (by with_reducible repeat (first | exact HB.out | apply below_drew1)) (by repeat (first | exact HC.out | refine Kd.C_drew ?_)) HD.out).mono ?_; rintro r W3 ⟨rfl, hb0⟩; have hb : Below W2.heap.size W2 W3 := (by first | exact hb0 | exact (below_drew1 (Below.refl W2.heap.size W2)).trans hb0); clear hb0; replace BS := Aside0.mk (blk_below BS.out hb); replace BN := Aside0.mk (blk_below BN.out hb); replace HB := Aside0.mk (below_step HB.out hb); clear hb HC HD; clear s0 s1 s2 s3 s4 s5 m0 m1 m2 m3 m4 m5 m6 m7; have s0 := blk_cell BS.out 0; have s1 := blk_cell BS.out 1; have s2 := blk_cell BS.out 2; have s3 := blk_cell BS.out 3; have s4 := blk_cell BS.out 4; have s5 := blk_cell BS.out 5; have m0 := blk_cell BN.out 0; have m1 := blk_cell BN.out 1; have m2 := blk_cell BN.out 2; have m3 := blk_cell BN.out 3; have m4 := blk_cell BN.out 4; have m5 := blk_cell BN.out 5; have m6 := blk_cell BN.out 6; have m7 := blk_cell BN.out 7; simp only [List.getElem?_toArray, List.getElem?_cons_zero, List.getElem?_cons_succ] at s0 s1 s2 s3 s4 s5 m0 m1 m2 m3 m4 m5 m6 m7)) | fail)
      go_wp2_with fail
      go_ret
      rw [HE.out, HV.out]
      exact ⟨by simp, HB.out⟩
     ·
      have hv1 : decide ((40 : Int) < (v.length : Int)) = false := decide_eq_false (by omega)
      have HV := Aside0.mk (show decide (v.length ≤ 40) = true from decide_eq_true (by omega))
      clear hv
      (first | go_region_held3 (fun w' => w'.cell? ⟨w.heap.size, 0, none⟩ = some (.int .u64 e) ∧ w'.cell? ⟨w.heap.size, 1, none⟩ = some (.int .u64 g) ∧ w'.cell? ⟨w.heap.size, 2, none⟩ = some (.int .u64 n) ∧ w'.cell? ⟨w.heap.size, 3, none⟩ = some (.int .i64 t) ∧ w'.cell? ⟨w.heap.size, 4, none⟩ = some (.slice As xs.length cs) ∧ w'.cell? ⟨w.heap.size, 5, none⟩ = some (.slice (some ad) ns.length cn) ∧ w'.cell? ⟨w.heap.size + 1, 0, none⟩ = some (.slice A0 p.length c0) ∧ w'.cell? ⟨w.heap.size + 1, 1, none⟩ = some (.slice A1 v.length c1) ∧ w'.cell? ⟨w.heap.size + 1, 2, none⟩ = some (.int .u64 o) ∧ w'.cell? ⟨w.heap.size + 1, 3, none⟩ = some (.int .i64 m) ∧ w'.cell? ⟨w.heap.size + 1, 4, none⟩ = some (.slice A4 h.length c4) ∧ w'.cell? ⟨w.heap.size + 1, 5, none⟩ = some (.int .u64 ep) ∧ w'.cell? ⟨w.heap.size + 1, 6, none⟩ = some (.int .u64 ge) ∧ w'.cell? ⟨w.heap.size + 1, 7, none⟩ = some (.slice A7 wa.length c7)) (first | exact ⟨s0, s1, s2, s3, s4, s5, m0, m1, m2, m3, m4, m5, m6, m7⟩) (first | (go_at_call 93; refine (PAR.out _ (by with_reducible repeat (first | exact HB.out | apply below_drew1))).mono ?_; rintro r W2 ⟨B, d, rfl, hd, hC, hb0⟩; have hb : Below W1.heap.size W1 W2 := (by first | exact hb0 | exact (below_drew1 (Below.refl W1.heap.size W1)).trans hb0); clear hb0; replace BS := Aside0.mk (blk_below BS.out hb); replace BN := Aside0.mk (blk_below BN.out hb); replace HB := Aside0.mk (below_step HB.out hb); have HC := Aside0.mk hC; have HD := Aside0.mk hd; clear hb hC hd; clear s0 s1 s2 s3 s4 s5 m0 m1 m2 m3 m4 m5 m6 m7; have s0 := blk_cell BS.out 0; have s1 := blk_cell BS.out 1; have s2 := blk_cell BS.out 2; have s3 := blk_cell BS.out 3; have s4 := blk_cell BS.out 4; have s5 := blk_cell BS.out 5; have m0 := blk_cell BN.out 0; have m1 := blk_cell BN.out 1; have m2 := blk_cell BN.out 2; have m3 := blk_cell BN.out 3; have m4 := blk_cell BN.out 4; have m5 := blk_cell BN.out 5; have m6 := blk_cell BN.out 6; have m7 := blk_cell BN.out 7; simp only [List.getElem?_toArray, List.getElem?_cons_zero, List.getElem?_cons_succ] at s0 s1 s2 s3 s4 s5 m0 m1 m2 m3 m4 m5 m6 m7) | (go_at_call 92; refine (CAN.out B d _ (by with_reducible repeat (first | exact HB.out | apply below_drew1)) (by repeat (first | exact HC.out | refine Kd.C_drew ?_)) HD.out).mono ?_; rintro r W3 ⟨rfl, hb0⟩; have hb : Below W2.heap.size W2 W3 := (by first | exact hb0 | exact (below_drew1 (Below.refl W2.heap.size W2)).trans hb0); clear hb0; replace BS := Aside0.mk (blk_below BS.out hb); replace BN := Aside0.mk (blk_below BN.out hb); replace HB := Aside0.mk (below_step HB.out hb); clear hb HC HD; clear s0 s1 s2 s3 s4 s5 m0 m1 m2 m3 m4 m5 m6 m7; have s0 := blk_cell BS.out 0; have s1 := blk_cell BS.out 1; have s2 := blk_cell BS.out 2; have s3 := blk_cell BS.out 3; have s4 := blk_cell BS.out 4; have s5 := blk_cell BS.out 5; have m0 := blk_cell BN.out 0; have m1 := blk_cell BN.out 1; have m2 := blk_cell BN.out 2; have m3 := blk_cell BN.out 3; have m4 := blk_cell BN.out 4; have m5 := blk_cell BN.out 5; have m6 := blk_cell BN.out 6; have m7 := blk_cell BN.out 7; simp only [List.getElem?_toArray, List.getElem?_cons_zero, List.getElem?_cons_succ] at s0 s1 s2 s3 s4 s5 m0 m1 m2 m3 m4 m5 m6 m7)) | fail)
      by_cases h0 : o = 0
      ·
       subst h0
       have HO := Aside0.mk (show ((0 : Int) == 0) = true from rfl)
       go_wp2_with fail
       refine (ID4.out _ HB.out).mono ?_
       rintro r Wi ⟨rfl, hb⟩
       replace BS := Aside0.mk (blk_below BS.out hb)
       replace BN := Aside0.mk (blk_below BN.out hb)
       replace HB := Aside0.mk (below_step HB.out hb)
       clear hb
       clear s0 s1 s2 s3 s4 s5 m0 m1 m2 m3 m4 m5 m6 m7
       have s0 := blk_cell BS.out 0
       have s1 := blk_cell BS.out 1
       have s2 := blk_cell BS.out 2
       have s3 := blk_cell BS.out 3
       have s4 := blk_cell BS.out 4
       have s5 := blk_cell BS.out 5
       have m0 := blk_cell BN.out 0
       have m1 := blk_cell BN.out 1
       have m2 := blk_cell BN.out 2
       have m3 := blk_cell BN.out 3
       have m4 := blk_cell BN.out 4
       have m5 := blk_cell BN.out 5
       have m6 := blk_cell BN.out 6
       have m7 := blk_cell BN.out 7
       simp only [List.getElem?_toArray, List.getElem?_cons_zero, List.getElem?_cons_succ] at s0 s1 s2 s3 s4 s5 m0 m1 m2 m3 m4 m5 m6 m7
       cases b6 with
       | false =>
        go_wp2_with fail
        go_ret
        rw [HE.out, HO.out]
        exact ⟨by simp, HB.out⟩
       | true =>
        go_wp2_with fail
        refine (ID7.out _ HB.out).mono ?_
        rintro r Wj ⟨rfl, hb⟩
        replace BS := Aside0.mk (blk_below BS.out hb)
        replace BN := Aside0.mk (blk_below BN.out hb)
        replace HB := Aside0.mk (below_step HB.out hb)
        clear hb
        clear s0 s1 s2 s3 s4 s5 m0 m1 m2 m3 m4 m5 m6 m7
        have s0 := blk_cell BS.out 0
        have s1 := blk_cell BS.out 1
        have s2 := blk_cell BS.out 2
        have s3 := blk_cell BS.out 3
        have s4 := blk_cell BS.out 4
        have s5 := blk_cell BS.out 5
        have m0 := blk_cell BN.out 0
        have m1 := blk_cell BN.out 1
        have m2 := blk_cell BN.out 2
        have m3 := blk_cell BN.out 3
        have m4 := blk_cell BN.out 4
        have m5 := blk_cell BN.out 5
        have m6 := blk_cell BN.out 6
        have m7 := blk_cell BN.out 7
        simp only [List.getElem?_toArray, List.getElem?_cons_zero, List.getElem?_cons_succ] at s0 s1 s2 s3 s4 s5 m0 m1 m2 m3 m4 m5 m6 m7
        cases b7 with
        | false =>
         go_wp2_with fail
         go_ret
         rw [HE.out, HO.out]
         exact ⟨by simp, HB.out⟩
        | true =>
         go_wp2_with fail
         refine (LOC.out _ HB.out).mono ?_
         rintro r Wk ⟨rfl, hb⟩
         replace BS := Aside0.mk (blk_below BS.out hb)
         replace BN := Aside0.mk (blk_below BN.out hb)
         replace HB := Aside0.mk (below_step HB.out hb)
         clear hb
         clear s0 s1 s2 s3 s4 s5 m0 m1 m2 m3 m4 m5 m6 m7
         have s0 := blk_cell BS.out 0
         have s1 := blk_cell BS.out 1
         have s2 := blk_cell BS.out 2
         have s3 := blk_cell BS.out 3
         have s4 := blk_cell BS.out 4
         have s5 := blk_cell BS.out 5
         have m0 := blk_cell BN.out 0
         have m1 := blk_cell BN.out 1
         have m2 := blk_cell BN.out 2
         have m3 := blk_cell BN.out 3
         have m4 := blk_cell BN.out 4
         have m5 := blk_cell BN.out 5
         have m6 := blk_cell BN.out 6
         have m7 := blk_cell BN.out 7
         simp only [List.getElem?_toArray, List.getElem?_cons_zero, List.getElem?_cons_succ] at s0 s1 s2 s3 s4 s5 m0 m1 m2 m3 m4 m5 m6 m7
         go_wp2_with fail
         go_ret
         rw [HE.out, HO.out, HV.out]
         exact ⟨by simp, HB.out⟩
      ·
       have d0 : decide (o = 0) = false := decide_eq_false h0
       have d1 : (o == 0) = false := beq_eq_false_iff_ne.2 h0
       have HO := Aside0.mk d1
       clear d1
       go_wp2_with fail
       refine (LIV.out _ HB.out).mono ?_
       rintro r Wl ⟨rfl, hb⟩
       replace BS := Aside0.mk (blk_below BS.out hb)
       replace BN := Aside0.mk (blk_below BN.out hb)
       replace HB := Aside0.mk (below_step HB.out hb)
       clear hb
       clear s0 s1 s2 s3 s4 s5 m0 m1 m2 m3 m4 m5 m6 m7
       have s0 := blk_cell BS.out 0
       have s1 := blk_cell BS.out 1
       have s2 := blk_cell BS.out 2
       have s3 := blk_cell BS.out 3
       have s4 := blk_cell BS.out 4
       have s5 := blk_cell BS.out 5
       have m0 := blk_cell BN.out 0
       have m1 := blk_cell BN.out 1
       have m2 := blk_cell BN.out 2
       have m3 := blk_cell BN.out 3
       have m4 := blk_cell BN.out 4
       have m5 := blk_cell BN.out 5
       have m6 := blk_cell BN.out 6
       have m7 := blk_cell BN.out 7
       simp only [List.getElem?_toArray, List.getElem?_cons_zero, List.getElem?_cons_succ] at s0 s1 s2 s3 s4 s5 m0 m1 m2 m3 m4 m5 m6 m7
       cases b5 with
       | false =>
        go_wp2_with fail
        go_ret
        rw [HE.out, HO.out]
        exact ⟨by simp, HB.out⟩
       | true =>
        go_wp2_with fail
        refine (ID4.out _ HB.out).mono ?_
        rintro r Wi ⟨rfl, hb⟩
        replace BS := Aside0.mk (blk_below BS.out hb)
        replace BN := Aside0.mk (blk_below BN.out hb)
        replace HB := Aside0.mk (below_step HB.out hb)
        clear hb
        clear s0 s1 s2 s3 s4 s5 m0 m1 m2 m3 m4 m5 m6 m7
        have s0 := blk_cell BS.out 0
        have s1 := blk_cell BS.out 1
        have s2 := blk_cell BS.out 2
        have s3 := blk_cell BS.out 3
        have s4 := blk_cell BS.out 4
        have s5 := blk_cell BS.out 5
        have m0 := blk_cell BN.out 0
        have m1 := blk_cell BN.out 1
        have m2 := blk_cell BN.out 2
        have m3 := blk_cell BN.out 3
        have m4 := blk_cell BN.out 4
        have m5 := blk_cell BN.out 5
        have m6 := blk_cell BN.out 6
        have m7 := blk_cell BN.out 7
        simp only [List.getElem?_toArray, List.getElem?_cons_zero, List.getElem?_cons_succ] at s0 s1 s2 s3 s4 s5 m0 m1 m2 m3 m4 m5 m6 m7
        cases b6 with
        | false =>
         go_wp2_with fail
         go_ret
         rw [HE.out, HO.out]
         exact ⟨by simp, HB.out⟩
        | true =>
         go_wp2_with fail
         refine (ID7.out _ HB.out).mono ?_
         rintro r Wj ⟨rfl, hb⟩
         replace BS := Aside0.mk (blk_below BS.out hb)
         replace BN := Aside0.mk (blk_below BN.out hb)
         replace HB := Aside0.mk (below_step HB.out hb)
         clear hb
         clear s0 s1 s2 s3 s4 s5 m0 m1 m2 m3 m4 m5 m6 m7
         have s0 := blk_cell BS.out 0
         have s1 := blk_cell BS.out 1
         have s2 := blk_cell BS.out 2
         have s3 := blk_cell BS.out 3
         have s4 := blk_cell BS.out 4
         have s5 := blk_cell BS.out 5
         have m0 := blk_cell BN.out 0
         have m1 := blk_cell BN.out 1
         have m2 := blk_cell BN.out 2
         have m3 := blk_cell BN.out 3
         have m4 := blk_cell BN.out 4
         have m5 := blk_cell BN.out 5
         have m6 := blk_cell BN.out 6
         have m7 := blk_cell BN.out 7
         simp only [List.getElem?_toArray, List.getElem?_cons_zero, List.getElem?_cons_succ] at s0 s1 s2 s3 s4 s5 m0 m1 m2 m3 m4 m5 m6 m7
         cases b7 with
         | false =>
          go_wp2_with fail
          go_ret
          rw [HE.out, HO.out]
          exact ⟨by simp, HB.out⟩
         | true =>
          go_wp2_with fail
          refine (LOC.out _ HB.out).mono ?_
          rintro r Wk ⟨rfl, hb⟩
          replace BS := Aside0.mk (blk_below BS.out hb)
          replace BN := Aside0.mk (blk_below BN.out hb)
          replace HB := Aside0.mk (below_step HB.out hb)
          clear hb
          clear s0 s1 s2 s3 s4 s5 m0 m1 m2 m3 m4 m5 m6 m7
          have s0 := blk_cell BS.out 0
          have s1 := blk_cell BS.out 1
          have s2 := blk_cell BS.out 2
          have s3 := blk_cell BS.out 3
          have s4 := blk_cell BS.out 4
          have s5 := blk_cell BS.out 5
          have m0 := blk_cell BN.out 0
          have m1 := blk_cell BN.out 1
          have m2 := blk_cell BN.out 2
          have m3 := blk_cell BN.out 3
          have m4 := blk_cell BN.out 4
          have m5 := blk_cell BN.out 5
          have m6 := blk_cell BN.out 6
          have m7 := blk_cell BN.out 7
          simp only [List.getElem?_toArray, List.getElem?_cons_zero, List.getElem?_cons_succ] at s0 s1 s2 s3 s4 s5 m0 m1 m2 m3 m4 m5 m6 m7
          go_wp2_with fail
          go_ret
          rw [HE.out, HO.out, HV.out]
          exact ⟨by simp, HB.out⟩
def byB (l : List Int) : Bool := l.all fun z => decide (0 ≤ z) && decide (z < 256)
theorem byB_iff (l : List Int) : byB l = true ↔ ∀ z ∈ l, 0 ≤ z ∧ z < 256 := by
 unfold byB
 simp only [List.all_eq_true, Bool.and_eq_true, decide_eq_true_eq]
def smB (xs : List Se) (ns : List No) : Bool :=
 decide (xs.length ≤ 2097152) && decide (ns.length ≤ 2097152) && (xs.all fun x => decide (x.f2.length ≤ 2097152) && x.f2.all fun y => decide (y.f1.length ≤ 2097152) && byB y.f1) &&
  ns.all fun x => decide (x.f0.length ≤ 2097152) && byB x.f0 && decide (x.f1.length ≤ 2097152) && decide (x.f4.length ≤ 2097152) && decide (x.f7.length ≤ 2097152)
theorem smB_iff (xs : List Se) (ns : List No) : smB xs ns = true ↔ SmS xs ns := by
 unfold smB
 simp only [Bool.and_eq_true, List.all_eq_true, decide_eq_true_eq, byB_iff]
 constructor
 ·
  rintro ⟨⟨⟨h1, h2⟩, h3⟩, h4⟩
  exact ⟨h1, h2, fun x hx => ⟨(h3 x hx).1, (h3 x hx).2⟩, fun x hx => by
   obtain ⟨⟨⟨⟨a, b⟩, c⟩, d⟩, e⟩ := h4 x hx
   exact ⟨⟨⟨a, b⟩, c⟩, d, e⟩⟩
 ·
  intro h
  exact ⟨⟨⟨h.x, h.n⟩, fun x hx => h.e x hx⟩, fun x hx => by
   obtain ⟨⟨⟨a, b⟩, c⟩, d, e⟩ := h.m x hx
   exact ⟨⟨⟨⟨a, b⟩, c⟩, d⟩, e⟩⟩
def spec_l3nodeOK.f (a0_0 : Int) (a0_1 : Int) (a0_2 : Int) (a0_3 : Int) (l0_4 : List Se) (l0_5 : List No) (a1 : Int) : Option Bool :=
 if (smB l0_4 l0_5 && decide (0 ≤ a1) && decide (a1 < (l0_5.length : Int))) = true then some (nodeB a0_0 a0_1 l0_4 l0_5 a1.toNat (rd_T76 l0_5 a1)) else none
theorem spec_l3nodeOK.calls (a0_0 : Int) (a0_1 : Int) (a0_2 : Int) (a0_3 : Int) (A0_4 : Option Addr) (c0_4 : Nat) (l0_4 : List Se) (A0_5 : Option Addr) (c0_5 : Nat) (l0_5 : List No) (a1 : Int) (r : Bool) (w : World) (hr0_4 : Kd.C kSe w A0_4 l0_4.length l0_4) (hc0_4 : l0_4.length ≤ c0_4) (hr0_5 : Kd.C kNo w A0_5 l0_5.length l0_5) (hc0_5 : l0_5.length ≤ c0_5) (h : spec_l3nodeOK.f a0_0 a0_1 a0_2 a0_3 l0_4 l0_5 a1 = some r) :
  Calls Tryd.prog 44 #[.agg #[.int .u64 a0_0, .int .u64 a0_1, .int .u64 a0_2, .int .i64 a0_3, .slice A0_4 l0_4.length c0_4, .slice A0_5 l0_5.length c0_5], .int .i64 a1] w fun e w' => e = .returned (.bool r) ∧ Below w.heap.size w w' := by
 unfold spec_l3nodeOK.f at h
 split at h
 ·
  rename_i hb
  have := Option.some.inj h
  subst this
  simp only [Bool.and_eq_true, decide_eq_true_eq, smB_iff] at hb
  obtain ⟨⟨hs, h0⟩, h1⟩ := hb
  obtain ⟨i, rfl⟩ : ∃ i : Nat, a1 = (i : Int) := ⟨a1.toNat, by omega⟩
  have hi : i < l0_5.length := by omega
  rw [rd_no l0_5 i hi, Int.toNat_natCast]
  exact spec_nodeOK_calls a0_0 a0_1 a0_2 a0_3 A0_4 c0_4 l0_4 A0_5 c0_5 l0_5 i w hr0_4 hc0_4 hr0_5 hc0_5 hs hi
 ·
  cases h
mutual
def spec_ValidState.j0 : Nat → Bool → Int → Int → Int → Int → List (S70) → List (S76) → Option (Bool)
  | 0, _, _, _, _, _, _, _ => none
  | k + 1, x17, x159000, x159001, x159002, x159003, x159004, x159005 => if x17 = true then (some false) else (if x159003 < 0 then (spec_ValidState.j1 k true x159000 x159001 x159002 x159003 x159004 x159005) else (if x159003 > 1000000 then (spec_ValidState.j1 k true x159000 x159001 x159002 x159003 x159004 x159005) else (if (x159004.length : Int) > 50 then (spec_ValidState.j1 k true x159000 x159001 x159002 x159003 x159004 x159005) else (spec_ValidState.j1 k (decide ((x159005.length : Int) > 200)) x159000 x159001 x159002 x159003 x159004 x159005))))
def spec_ValidState.j1 : Nat → Bool → Int → Int → Int → Int → List (S70) → List (S76) → Option (Bool)
  | 0, _, _, _, _, _, _, _ => none
  | k + 1, x37, x159000, x159001, x159002, x159003, x159004, x159005 => if x37 = true then (some false) else (spec_ValidState.l0 k 0 x159000 x159001 x159002 x159003 x159004 x159005)
def spec_ValidState.l0 : Nat → Int → Int → Int → Int → Int → List (S70) → List (S76) → Option (Bool)
  | 0, _, _, _, _, _, _, _ => none
  | k + 1, x3, x159000, x159001, x159002, x159003, x159004, x159005 => if x3 < (x159004.length : Int) then ((spec_l3sessionOK.f k x159000 x159001 x159002 x159003 x159004 x159005 x3).bind fun t159 => (if t159 = true then (spec_ValidState.l0 k (wrap64 (x3 + 1)) x159000 x159001 x159002 x159003 x159004 x159005) else (some false))) else (spec_ValidState.l1 k 0 x159000 x159001 x159002 x159003 x159004 x159005)
def spec_ValidState.l1 : Nat → Int → Int → Int → Int → Int → List (S70) → List (S76) → Option (Bool)
  | 0, _, _, _, _, _, _, _ => none
  | k + 1, x4, x159000, x159001, x159002, x159003, x159004, x159005 => if x4 < (x159005.length : Int) then ((spec_l3nodeOK.f x159000 x159001 x159002 x159003 x159004 x159005 x4).bind fun t160 => (if t160 = true then (spec_ValidState.l1 k (wrap64 (x4 + 1)) x159000 x159001 x159002 x159003 x159004 x159005) else (some false))) else (some true)
end
def spec_ValidState.f (k : Nat) (a0_0 : Int) (a0_1 : Int) (a0_2 : Int) (a0_3 : Int) (l0_4 : List (S70)) (l0_5 : List (S76)) : Option (Bool) := if a0_0 > 4611686018427387904 then (spec_ValidState.j0 k true a0_0 a0_1 a0_2 a0_3 l0_4 l0_5) else (if a0_1 > 4611686018427387904 then (spec_ValidState.j0 k true a0_0 a0_1 a0_2 a0_3 l0_4 l0_5) else (spec_ValidState.j0 k (decide (a0_2 > 4611686018427387904)) a0_0 a0_1 a0_2 a0_3 l0_4 l0_5))
set_option maxHeartbeats 8000000 in
set_option maxRecDepth 100000 in
theorem spec_ValidState.calls (k : Nat) (a0_0 : Int) (a0_1 : Int) (a0_2 : Int) (a0_3 : Int) (A0_4 : Option Addr) (c0_4 : Nat) (l0_4 : List (S70)) (A0_5 : Option Addr) (c0_5 : Nat) (l0_5 : List (S76)) (r : Bool) (w : World) (hr0_4 : Kd.C k70 w A0_4 l0_4.length l0_4) (hc0_4 : l0_4.length ≤ c0_4) (hr0_5 : Kd.C k76 w A0_5 l0_5.length l0_5) (hc0_5 : l0_5.length ≤ c0_5) (h : spec_ValidState.f k a0_0 a0_1 a0_2 a0_3 l0_4 l0_5 = some r) :
  Calls Tryd.prog 14 #[.agg #[.int .u64 a0_0, .int .u64 a0_1, .int .u64 a0_2, .int .i64 a0_3, .slice A0_4 l0_4.length c0_4, .slice A0_5 l0_5.length c0_5]] w fun e w' => e = .returned (.bool r) ∧ Below w.heap.size w w' := by
 have hu36 := Tryd.underlying36
 have HR0_4 := Aside0.mk hr0_4
 have HC0_4 := Aside0.mk hc0_4
 clear hr0_4 hc0_4
 have HR0_5 := Aside0.mk hr0_5
 have HC0_5 := Aside0.mk hc0_5
 clear hr0_5 hc0_5
 have HB := Aside0.mk (Below.refl w.heap.size w)
 have H : (if a0_0 > 4611686018427387904 then (spec_ValidState.j0 k true a0_0 a0_1 a0_2 a0_3 l0_4 l0_5) else (if a0_1 > 4611686018427387904 then (spec_ValidState.j0 k true a0_0 a0_1 a0_2 a0_3 l0_4 l0_5) else (spec_ValidState.j0 k (decide (a0_2 > 4611686018427387904)) a0_0 a0_1 a0_2 a0_3 l0_4 l0_5))) = some r := h
 clear h
 have HC2 := Aside0.mk H
 clear H
 go_enter Tryd.func14, Tryd.ntmps14
 go_upto_region 1 with (first | ((with_reducible refine gate_dst (N := 1) rfl ?_); (try (refine gate_guard (by rfl) ?_; dsimp only)); refine box_event ?hg (N := 1) ?hd (cs := #[.int .u64 a0_0, .int .u64 a0_1, .int .u64 a0_2, .int .i64 a0_3, .slice A0_4 l0_4.length c0_4, .slice A0_5 l0_5.length c0_5]) (t := 36) ?hr ?_; (case hd => rfl); (case hg => rfl); (case hr => first | (go_simp; done) | (go_simp; rfl)); intro gb158 hg w3 hbox hb; have n0_ := Aside0.mk (below_step (by repeat (first | (with_reducible first | exact HB.out | apply below_alloc | apply pw_below_drewN | apply below_drew1) | exact HB.out)) hb); have n1_ := Aside0.mk (hbox); have n2_ := Aside0.mk ((by rw [hg]; exact (below_size (by repeat (first | (with_reducible first | exact HB.out | apply below_alloc | apply pw_below_drewN | apply below_drew1) | exact HB.out))) : w.heap.size ≤ gb158)); have n3_ := Aside0.mk ((by rw [hg]; exact (below_size (by repeat (first | (with_reducible first | exact HB.out | apply below_alloc | apply pw_below_drewN | apply below_drew1) | exact HB.out))) : w.heap.size ≤ gb158)); clear HB; have HB := n0_; have BK158 := n1_; have GW158 := n2_; have GE158 := n3_; clear n0_ n1_ n2_ n3_; clear hb hbox hg))
 (try simp only [Act.put, List.setIfInBounds_toArray, List.set_cons_zero, List.set_cons_succ])
 go_cut [17] (fun v17 wc => ∃ (kq : Nat) (x17_1 : Bool), v17 = .bool x17_1 ∧ Aside0 (spec_ValidState.j0 kq x17_1 a0_0 a0_1 a0_2 a0_3 l0_4 l0_5 = some r) ∧ Aside0 (kq ≤ k) ∧ Aside0 (wc.heap[gb158]? = some (.cells #[.int .u64 a0_0, .int .u64 a0_1, .int .u64 a0_2, .int .i64 a0_3, (.slice A0_4 l0_4.length c0_4), (.slice A0_5 l0_5.length c0_5)] 36 (0, 0))) ∧ Aside0 (Below w.heap.size w wc))
 case first =>
  have H := HC2.out
  clear HC2
  by_cases c4 : a0_0 > 4611686018427387904
  ·
   rw [if_pos c4] at H
   have c4b0 : decide (4611686018427387904 < a0_0) = true := decide_eq_true c4
   clear c4
   (first | rw [c4b0] | (simp only [i64_w, i32_w]; rw [c4b0]) | skip)
   have H' := Aside0.mk H
   clear H
   have hcz5_0 : w3.cell? ⟨gb158, 0, none⟩ = some (.int .u64 a0_0) := (blk_cell BK158.out 0).trans rfl
   have hcz5_1 : w3.cell? ⟨gb158, 1, none⟩ = some (.int .u64 a0_1) := (blk_cell BK158.out 1).trans rfl
   have hcz5_2 : w3.cell? ⟨gb158, 2, none⟩ = some (.int .u64 a0_2) := (blk_cell BK158.out 2).trans rfl
   have hcz5_3 : w3.cell? ⟨gb158, 3, none⟩ = some (.int .i64 a0_3) := (blk_cell BK158.out 3).trans rfl
   have hcz5_4 : w3.cell? ⟨gb158, 4, none⟩ = some (.slice A0_4 l0_4.length c0_4) := (blk_cell BK158.out 4).trans rfl
   have hcz5_5 : w3.cell? ⟨gb158, 5, none⟩ = some (.slice A0_5 l0_5.length c0_5) := (blk_cell BK158.out 5).trans rfl
   have hfz5_0 := blk_frozen BK158.out 0
   have hfz5_1 := blk_frozen BK158.out 1
   have hfz5_2 := blk_frozen BK158.out 2
   have hfz5_3 := blk_frozen BK158.out 3
   have hfz5_4 := blk_frozen BK158.out 4
   have hfz5_5 := blk_frozen BK158.out 5
   go_wp2
   go_meet
   case rel => exact ⟨_, (true), (by first | rfl | (simp; done) | (simp [*]; done)), H', ⟨by first | omega | exact Nat.le_refl _⟩, ⟨by (with_reducible repeat (first | refine blk_drewN ?_ _ | refine blk_drew ?_ | refine blk_alloc ?_ _)); exact BK158.out⟩, ⟨by repeat (first | (with_reducible first | exact HB.out | apply below_alloc | apply pw_below_drewN | apply below_drew1 | refine below_set ?_ GE158.out) | exact HB.out)⟩⟩
  ·
   rw [if_neg c4] at H
   have c4b0 : decide (4611686018427387904 < a0_0) = false := decide_eq_false c4
   clear c4
   (first | rw [c4b0] | (simp only [i64_w, i32_w]; rw [c4b0]) | skip)
   by_cases c6 : a0_1 > 4611686018427387904
   ·
    rw [if_pos c6] at H
    have c6b0 : decide (4611686018427387904 < a0_1) = true := decide_eq_true c6
    clear c6
    have H' := Aside0.mk H
    clear H
    have hcz7_0 : w3.cell? ⟨gb158, 0, none⟩ = some (.int .u64 a0_0) := (blk_cell BK158.out 0).trans rfl
    have hcz7_1 : w3.cell? ⟨gb158, 1, none⟩ = some (.int .u64 a0_1) := (blk_cell BK158.out 1).trans rfl
    have hcz7_2 : w3.cell? ⟨gb158, 2, none⟩ = some (.int .u64 a0_2) := (blk_cell BK158.out 2).trans rfl
    have hcz7_3 : w3.cell? ⟨gb158, 3, none⟩ = some (.int .i64 a0_3) := (blk_cell BK158.out 3).trans rfl
    have hcz7_4 : w3.cell? ⟨gb158, 4, none⟩ = some (.slice A0_4 l0_4.length c0_4) := (blk_cell BK158.out 4).trans rfl
    have hcz7_5 : w3.cell? ⟨gb158, 5, none⟩ = some (.slice A0_5 l0_5.length c0_5) := (blk_cell BK158.out 5).trans rfl
    have hfz7_0 := blk_frozen BK158.out 0
    have hfz7_1 := blk_frozen BK158.out 1
    have hfz7_2 := blk_frozen BK158.out 2
    have hfz7_3 := blk_frozen BK158.out 3
    have hfz7_4 := blk_frozen BK158.out 4
    have hfz7_5 := blk_frozen BK158.out 5
    go_wp2
    go_meet
    case rel => exact ⟨_, (true), (by first | rfl | (simp; done) | (simp [*]; done)), H', ⟨by first | omega | exact Nat.le_refl _⟩, ⟨by (with_reducible repeat (first | refine blk_drewN ?_ _ | refine blk_drew ?_ | refine blk_alloc ?_ _)); exact BK158.out⟩, ⟨by repeat (first | (with_reducible first | exact HB.out | apply below_alloc | apply pw_below_drewN | apply below_drew1 | refine below_set ?_ GE158.out) | exact HB.out)⟩⟩
   ·
    rw [if_neg c6] at H
    have c6b0 : decide (4611686018427387904 < a0_1) = false := decide_eq_false c6
    clear c6
    have H' := Aside0.mk H
    clear H
    have hcz8_0 : w3.cell? ⟨gb158, 0, none⟩ = some (.int .u64 a0_0) := (blk_cell BK158.out 0).trans rfl
    have hcz8_1 : w3.cell? ⟨gb158, 1, none⟩ = some (.int .u64 a0_1) := (blk_cell BK158.out 1).trans rfl
    have hcz8_2 : w3.cell? ⟨gb158, 2, none⟩ = some (.int .u64 a0_2) := (blk_cell BK158.out 2).trans rfl
    have hcz8_3 : w3.cell? ⟨gb158, 3, none⟩ = some (.int .i64 a0_3) := (blk_cell BK158.out 3).trans rfl
    have hcz8_4 : w3.cell? ⟨gb158, 4, none⟩ = some (.slice A0_4 l0_4.length c0_4) := (blk_cell BK158.out 4).trans rfl
    have hcz8_5 : w3.cell? ⟨gb158, 5, none⟩ = some (.slice A0_5 l0_5.length c0_5) := (blk_cell BK158.out 5).trans rfl
    have hfz8_0 := blk_frozen BK158.out 0
    have hfz8_1 := blk_frozen BK158.out 1
    have hfz8_2 := blk_frozen BK158.out 2
    have hfz8_3 := blk_frozen BK158.out 3
    have hfz8_4 := blk_frozen BK158.out 4
    have hfz8_5 := blk_frozen BK158.out 5
    go_wp2
    go_meet
    case rel => exact ⟨_, (decide (a0_2 > 4611686018427387904)), (by first | rfl | (simp; done) | (simp [*]; done)), H', ⟨by first | omega | exact Nat.le_refl _⟩, ⟨by (with_reducible repeat (first | refine blk_drewN ?_ _ | refine blk_drew ?_ | refine blk_alloc ?_ _)); exact BK158.out⟩, ⟨by repeat (first | (with_reducible first | exact HB.out | apply below_alloc | apply pw_below_drewN | apply below_drew1 | refine below_set ?_ GE158.out) | exact HB.out)⟩⟩
 case rest =>
  clear HC2
  try clear c1
  try clear p2
  try clear c4
  try clear c4b0
  try clear c6
  try clear c6b0
  try clear hcz5_0
  try clear hcz5_1
  try clear hcz5_2
  try clear hcz5_3
  try clear hcz5_4
  try clear hcz5_5
  try clear hcz7_0
  try clear hcz7_1
  try clear hcz7_2
  try clear hcz7_3
  try clear hcz7_4
  try clear hcz7_5
  try clear hcz8_0
  try clear hcz8_1
  try clear hcz8_2
  try clear hcz8_3
  try clear hcz8_4
  try clear hcz8_5
  try clear hfz5_0
  try clear hfz5_1
  try clear hfz5_2
  try clear hfz5_3
  try clear hfz5_4
  try clear hfz5_5
  try clear hfz7_0
  try clear hfz7_1
  try clear hfz7_2
  try clear hfz7_3
  try clear hfz7_4
  try clear hfz7_5
  try clear hfz8_0
  try clear hfz8_1
  try clear hfz8_2
  try clear hfz8_3
  try clear hfz8_4
  try clear hfz8_5
  obtain ⟨kq, x17_1, rfl, HA, HJ1, BK158, HB⟩ := hcut
  cases kq with
  | zero => exact absurd HA.out (by simp [spec_ValidState.j0])
  | succ kj1 =>
   have H := HA.out
   clear HA
   simp only [spec_ValidState.j0] at H
   by_cases c9 : x17_1 = true
   ·
    subst c9
    have H1 : (some false) = some r := by first | rfl | (rw [if_pos rfl] at H; exact H)
    clear H
    have H := H1
    clear H1
    obtain rfl := Option.some.inj H
    go_wp2
    go_ret
    exact ⟨by first | rfl | (simp [errW_none, errW_some] <;> rfl) | (simp [*, errW_none, errW_some] <;> rfl), by repeat (first | (with_reducible first | exact HB.out | apply below_alloc | apply pw_below_drewN | apply below_drew1 | refine below_set ?_ GE158.out) | exact HB.out)⟩
   ·
    replace c9 := Bool.eq_false_iff.mpr c9
    subst c9
    have H1 : (if a0_3 < 0 then (spec_ValidState.j1 kj1 true a0_0 a0_1 a0_2 a0_3 l0_4 l0_5) else (if a0_3 > 1000000 then (spec_ValidState.j1 kj1 true a0_0 a0_1 a0_2 a0_3 l0_4 l0_5) else (if (l0_4.length : Int) > 50 then (spec_ValidState.j1 kj1 true a0_0 a0_1 a0_2 a0_3 l0_4 l0_5) else (spec_ValidState.j1 kj1 (decide ((l0_5.length : Int) > 200)) a0_0 a0_1 a0_2 a0_3 l0_4 l0_5)))) = some r := by first | rfl | (rw [if_neg (show ¬ (false = true) by decide)] at H; exact H)
    clear H
    have H := H1
    clear H1
    have HC10 := Aside0.mk H
    clear H
    go_upto_region 3 with (fail)
    go_cut [37] (fun v37 wc => ∃ (kq : Nat) (x37_9 : Bool), v37 = .bool x37_9 ∧ Aside0 (spec_ValidState.j1 kq x37_9 a0_0 a0_1 a0_2 a0_3 l0_4 l0_5 = some r) ∧ Aside0 (kq ≤ kj1) ∧ Aside0 (wc.heap[gb158]? = some (.cells #[.int .u64 a0_0, .int .u64 a0_1, .int .u64 a0_2, .int .i64 a0_3, (.slice A0_4 l0_4.length c0_4), (.slice A0_5 l0_5.length c0_5)] 36 (0, 0))) ∧ Aside0 (Below w.heap.size w wc))
    case first =>
     have H := HC10.out
     clear HC10
     by_cases c11 : a0_3 < 0
     ·
      rw [if_pos c11] at H
      have c11b0 : decide (a0_3 < 0) = true := decide_eq_true c11
      clear c11
      (first | rw [c11b0] | (simp only [i64_w, i32_w]; rw [c11b0]) | skip)
      have H' := Aside0.mk H
      clear H
      have hcz12_0 : wc.cell? ⟨gb158, 0, none⟩ = some (.int .u64 a0_0) := (blk_cell BK158.out 0).trans rfl
      have hcz12_1 : wc.cell? ⟨gb158, 1, none⟩ = some (.int .u64 a0_1) := (blk_cell BK158.out 1).trans rfl
      have hcz12_2 : wc.cell? ⟨gb158, 2, none⟩ = some (.int .u64 a0_2) := (blk_cell BK158.out 2).trans rfl
      have hcz12_3 : wc.cell? ⟨gb158, 3, none⟩ = some (.int .i64 a0_3) := (blk_cell BK158.out 3).trans rfl
      have hcz12_4 : wc.cell? ⟨gb158, 4, none⟩ = some (.slice A0_4 l0_4.length c0_4) := (blk_cell BK158.out 4).trans rfl
      have hcz12_5 : wc.cell? ⟨gb158, 5, none⟩ = some (.slice A0_5 l0_5.length c0_5) := (blk_cell BK158.out 5).trans rfl
      have hfz12_0 := blk_frozen BK158.out 0
      have hfz12_1 := blk_frozen BK158.out 1
      have hfz12_2 := blk_frozen BK158.out 2
      have hfz12_3 := blk_frozen BK158.out 3
      have hfz12_4 := blk_frozen BK158.out 4
      have hfz12_5 := blk_frozen BK158.out 5
      go_wp2
      go_meet
      case rel => exact ⟨_, (true), (by first | rfl | (simp; done) | (simp [*]; done)), H', ⟨by have := HJ1.out; first | omega | exact Nat.le_refl _⟩, ⟨by (with_reducible repeat (first | refine blk_drewN ?_ _ | refine blk_drew ?_ | refine blk_alloc ?_ _)); exact BK158.out⟩, ⟨by repeat (first | (with_reducible first | exact HB.out | apply below_alloc | apply pw_below_drewN | apply below_drew1 | refine below_set ?_ GE158.out) | exact HB.out)⟩⟩
     ·
      rw [if_neg c11] at H
      have c11b0 : decide (a0_3 < 0) = false := decide_eq_false c11
      clear c11
      (first | rw [c11b0] | (simp only [i64_w, i32_w]; rw [c11b0]) | skip)
      by_cases c13 : a0_3 > 1000000
      ·
       rw [if_pos c13] at H
       have c13b0 : decide (1000000 < a0_3) = true := decide_eq_true c13
       clear c13
       have H' := Aside0.mk H
       clear H
       have hcz14_0 : wc.cell? ⟨gb158, 0, none⟩ = some (.int .u64 a0_0) := (blk_cell BK158.out 0).trans rfl
       have hcz14_1 : wc.cell? ⟨gb158, 1, none⟩ = some (.int .u64 a0_1) := (blk_cell BK158.out 1).trans rfl
       have hcz14_2 : wc.cell? ⟨gb158, 2, none⟩ = some (.int .u64 a0_2) := (blk_cell BK158.out 2).trans rfl
       have hcz14_3 : wc.cell? ⟨gb158, 3, none⟩ = some (.int .i64 a0_3) := (blk_cell BK158.out 3).trans rfl
       have hcz14_4 : wc.cell? ⟨gb158, 4, none⟩ = some (.slice A0_4 l0_4.length c0_4) := (blk_cell BK158.out 4).trans rfl
       have hcz14_5 : wc.cell? ⟨gb158, 5, none⟩ = some (.slice A0_5 l0_5.length c0_5) := (blk_cell BK158.out 5).trans rfl
       have hfz14_0 := blk_frozen BK158.out 0
       have hfz14_1 := blk_frozen BK158.out 1
       have hfz14_2 := blk_frozen BK158.out 2
       have hfz14_3 := blk_frozen BK158.out 3
       have hfz14_4 := blk_frozen BK158.out 4
       have hfz14_5 := blk_frozen BK158.out 5
       go_wp2
       go_meet
       case rel => exact ⟨_, (true), (by first | rfl | (simp; done) | (simp [*]; done)), H', ⟨by have := HJ1.out; first | omega | exact Nat.le_refl _⟩, ⟨by (with_reducible repeat (first | refine blk_drewN ?_ _ | refine blk_drew ?_ | refine blk_alloc ?_ _)); exact BK158.out⟩, ⟨by repeat (first | (with_reducible first | exact HB.out | apply below_alloc | apply pw_below_drewN | apply below_drew1 | refine below_set ?_ GE158.out) | exact HB.out)⟩⟩
      ·
       rw [if_neg c13] at H
       have c13b0 : decide (1000000 < a0_3) = false := decide_eq_false c13
       clear c13
       by_cases c15 : (l0_4.length : Int) > 50
       ·
        rw [if_pos c15] at H
        have c15b0 : decide (50 < (l0_4.length : Int)) = true := decide_eq_true c15
        have c15b1 : decide (50 < l0_4.length) = true := decide_eq_true (by omega)
        clear c15
        have H' := Aside0.mk H
        clear H
        have hcz16_0 : wc.cell? ⟨gb158, 0, none⟩ = some (.int .u64 a0_0) := (blk_cell BK158.out 0).trans rfl
        have hcz16_1 : wc.cell? ⟨gb158, 1, none⟩ = some (.int .u64 a0_1) := (blk_cell BK158.out 1).trans rfl
        have hcz16_2 : wc.cell? ⟨gb158, 2, none⟩ = some (.int .u64 a0_2) := (blk_cell BK158.out 2).trans rfl
        have hcz16_3 : wc.cell? ⟨gb158, 3, none⟩ = some (.int .i64 a0_3) := (blk_cell BK158.out 3).trans rfl
        have hcz16_4 : wc.cell? ⟨gb158, 4, none⟩ = some (.slice A0_4 l0_4.length c0_4) := (blk_cell BK158.out 4).trans rfl
        have hcz16_5 : wc.cell? ⟨gb158, 5, none⟩ = some (.slice A0_5 l0_5.length c0_5) := (blk_cell BK158.out 5).trans rfl
        have hfz16_0 := blk_frozen BK158.out 0
        have hfz16_1 := blk_frozen BK158.out 1
        have hfz16_2 := blk_frozen BK158.out 2
        have hfz16_3 := blk_frozen BK158.out 3
        have hfz16_4 := blk_frozen BK158.out 4
        have hfz16_5 := blk_frozen BK158.out 5
        go_wp2
        go_meet
        case rel => exact ⟨_, (true), (by first | rfl | (simp; done) | (simp [*]; done)), H', ⟨by have := HJ1.out; first | omega | exact Nat.le_refl _⟩, ⟨by (with_reducible repeat (first | refine blk_drewN ?_ _ | refine blk_drew ?_ | refine blk_alloc ?_ _)); exact BK158.out⟩, ⟨by repeat (first | (with_reducible first | exact HB.out | apply below_alloc | apply pw_below_drewN | apply below_drew1 | refine below_set ?_ GE158.out) | exact HB.out)⟩⟩
       ·
        rw [if_neg c15] at H
        have c15b0 : decide (50 < (l0_4.length : Int)) = false := decide_eq_false c15
        have c15b1 : decide (50 < l0_4.length) = false := decide_eq_false (by omega)
        clear c15
        have H' := Aside0.mk H
        clear H
        have hcz17_0 : wc.cell? ⟨gb158, 0, none⟩ = some (.int .u64 a0_0) := (blk_cell BK158.out 0).trans rfl
        have hcz17_1 : wc.cell? ⟨gb158, 1, none⟩ = some (.int .u64 a0_1) := (blk_cell BK158.out 1).trans rfl
        have hcz17_2 : wc.cell? ⟨gb158, 2, none⟩ = some (.int .u64 a0_2) := (blk_cell BK158.out 2).trans rfl
        have hcz17_3 : wc.cell? ⟨gb158, 3, none⟩ = some (.int .i64 a0_3) := (blk_cell BK158.out 3).trans rfl
        have hcz17_4 : wc.cell? ⟨gb158, 4, none⟩ = some (.slice A0_4 l0_4.length c0_4) := (blk_cell BK158.out 4).trans rfl
        have hcz17_5 : wc.cell? ⟨gb158, 5, none⟩ = some (.slice A0_5 l0_5.length c0_5) := (blk_cell BK158.out 5).trans rfl
        have hfz17_0 := blk_frozen BK158.out 0
        have hfz17_1 := blk_frozen BK158.out 1
        have hfz17_2 := blk_frozen BK158.out 2
        have hfz17_3 := blk_frozen BK158.out 3
        have hfz17_4 := blk_frozen BK158.out 4
        have hfz17_5 := blk_frozen BK158.out 5
        go_wp2
        go_meet
        case rel => exact ⟨_, (decide ((l0_5.length : Int) > 200)), (by first | rfl | (simp; done) | (simp [*]; done)), H', ⟨by have := HJ1.out; first | omega | exact Nat.le_refl _⟩, ⟨by (with_reducible repeat (first | refine blk_drewN ?_ _ | refine blk_drew ?_ | refine blk_alloc ?_ _)); exact BK158.out⟩, ⟨by repeat (first | (with_reducible first | exact HB.out | apply below_alloc | apply pw_below_drewN | apply below_drew1 | refine below_set ?_ GE158.out) | exact HB.out)⟩⟩
    case rest =>
     clear HC10
     try clear c1
     try clear p2
     try clear c4
     try clear c4b0
     try clear c6
     try clear c6b0
     try clear c9
     try clear c11
     try clear c11b0
     try clear c13
     try clear c13b0
     try clear c14
     try clear c15
     try clear c15b0
     try clear c15b1
     try clear hcz12_0
     try clear hcz12_1
     try clear hcz12_2
     try clear hcz12_3
     try clear hcz12_4
     try clear hcz12_5
     try clear hcz14_0
     try clear hcz14_1
     try clear hcz14_2
     try clear hcz14_3
     try clear hcz14_4
     try clear hcz14_5
     try clear hcz16_0
     try clear hcz16_1
     try clear hcz16_2
     try clear hcz16_3
     try clear hcz16_4
     try clear hcz16_5
     try clear hcz17_0
     try clear hcz17_1
     try clear hcz17_2
     try clear hcz17_3
     try clear hcz17_4
     try clear hcz17_5
     try clear hcz5_0
     try clear hcz5_1
     try clear hcz5_2
     try clear hcz5_3
     try clear hcz5_4
     try clear hcz5_5
     try clear hcz7_0
     try clear hcz7_1
     try clear hcz7_2
     try clear hcz7_3
     try clear hcz7_4
     try clear hcz7_5
     try clear hcz8_0
     try clear hcz8_1
     try clear hcz8_2
     try clear hcz8_3
     try clear hcz8_4
     try clear hcz8_5
     try clear hfz12_0
     try clear hfz12_1
     try clear hfz12_2
     try clear hfz12_3
     try clear hfz12_4
     try clear hfz12_5
     try clear hfz14_0
     try clear hfz14_1
     try clear hfz14_2
     try clear hfz14_3
     try clear hfz14_4
     try clear hfz14_5
     try clear hfz16_0
     try clear hfz16_1
     try clear hfz16_2
     try clear hfz16_3
     try clear hfz16_4
     try clear hfz16_5
     try clear hfz17_0
     try clear hfz17_1
     try clear hfz17_2
     try clear hfz17_3
     try clear hfz17_4
     try clear hfz17_5
     try clear hfz5_0
     try clear hfz5_1
     try clear hfz5_2
     try clear hfz5_3
     try clear hfz5_4
     try clear hfz5_5
     try clear hfz7_0
     try clear hfz7_1
     try clear hfz7_2
     try clear hfz7_3
     try clear hfz7_4
     try clear hfz7_5
     try clear hfz8_0
     try clear hfz8_1
     try clear hfz8_2
     try clear hfz8_3
     try clear hfz8_4
     try clear hfz8_5
     try clear p2
     obtain ⟨kq, x37_9, rfl, HA, HJ9, BK158, HB⟩ := hcut
     cases kq with
     | zero => exact absurd HA.out (by simp [spec_ValidState.j1])
     | succ kj9 =>
      have H := HA.out
      clear HA
      simp only [spec_ValidState.j1] at H
      by_cases c18 : x37_9 = true
      ·
       subst c18
       have H1 : (some false) = some r := by first | rfl | (rw [if_pos rfl] at H; exact H)
       clear H
       have H := H1
       clear H1
       obtain rfl := Option.some.inj H
       go_wp2
       go_ret
       exact ⟨by first | rfl | (simp [errW_none, errW_some] <;> rfl) | (simp [*, errW_none, errW_some] <;> rfl), by repeat (first | (with_reducible first | exact HB.out | apply below_alloc | apply pw_below_drewN | apply below_drew1 | refine below_set ?_ GE158.out) | exact HB.out)⟩
      ·
       replace c18 := Bool.eq_false_iff.mpr c18
       subst c18
       have H1 : (spec_ValidState.l0 kj9 0 a0_0 a0_1 a0_2 a0_3 l0_4 l0_5) = some r := by first | rfl | (rw [if_neg (show ¬ (false = true) by decide)] at H; exact H)
       clear H
       have H := H1
       clear H1
       have H' := Aside0.mk H
       clear H
       go_wp2
       go_loopg [3] kj9 (fun kq v3 w' => ∃ (x3_3 : Int), v3 = .int .i64 x3_3 ∧ Aside0 (spec_ValidState.l0 kq x3_3 a0_0 a0_1 a0_2 a0_3 l0_4 l0_5 = some r) ∧ Aside0 (kq ≤ kj9) ∧ Aside0 (w'.heap[gb158]? = some (.cells #[.int .u64 a0_0, .int .u64 a0_1, .int .u64 a0_2, .int .i64 a0_3, (.slice A0_4 l0_4.length c0_4), (.slice A0_5 l0_5.length c0_5)] 36 (0, 0))) ∧ Aside0 (Below w.heap.size w w'))
       case atStart => exact ⟨(0), (by first | rfl | (simp; done) | (simp [*]; done)), H', ⟨Nat.le_refl _⟩, ⟨by (with_reducible repeat (first | refine blk_drewN ?_ _ | refine blk_drew ?_ | refine blk_alloc ?_ _)); exact BK158.out⟩, ⟨by repeat (first | (with_reducible first | exact HB.out | apply below_alloc | apply pw_below_drewN | apply below_drew1 | refine below_set ?_ GE158.out) | exact HB.out)⟩⟩
       case round =>
        clear H'
        try clear c1
        try clear p2
        try clear c4
        try clear c4b0
        try clear c6
        try clear c6b0
        try clear c9
        try clear c11
        try clear c11b0
        try clear c13
        try clear c13b0
        try clear c14
        try clear c15
        try clear c15b0
        try clear c15b1
        try clear c18
        try clear hcz12_0
        try clear hcz12_1
        try clear hcz12_2
        try clear hcz12_3
        try clear hcz12_4
        try clear hcz12_5
        try clear hcz14_0
        try clear hcz14_1
        try clear hcz14_2
        try clear hcz14_3
        try clear hcz14_4
        try clear hcz14_5
        try clear hcz16_0
        try clear hcz16_1
        try clear hcz16_2
        try clear hcz16_3
        try clear hcz16_4
        try clear hcz16_5
        try clear hcz17_0
        try clear hcz17_1
        try clear hcz17_2
        try clear hcz17_3
        try clear hcz17_4
        try clear hcz17_5
        try clear hcz5_0
        try clear hcz5_1
        try clear hcz5_2
        try clear hcz5_3
        try clear hcz5_4
        try clear hcz5_5
        try clear hcz7_0
        try clear hcz7_1
        try clear hcz7_2
        try clear hcz7_3
        try clear hcz7_4
        try clear hcz7_5
        try clear hcz8_0
        try clear hcz8_1
        try clear hcz8_2
        try clear hcz8_3
        try clear hcz8_4
        try clear hcz8_5
        try clear hfz12_0
        try clear hfz12_1
        try clear hfz12_2
        try clear hfz12_3
        try clear hfz12_4
        try clear hfz12_5
        try clear hfz14_0
        try clear hfz14_1
        try clear hfz14_2
        try clear hfz14_3
        try clear hfz14_4
        try clear hfz14_5
        try clear hfz16_0
        try clear hfz16_1
        try clear hfz16_2
        try clear hfz16_3
        try clear hfz16_4
        try clear hfz16_5
        try clear hfz17_0
        try clear hfz17_1
        try clear hfz17_2
        try clear hfz17_3
        try clear hfz17_4
        try clear hfz17_5
        try clear hfz5_0
        try clear hfz5_1
        try clear hfz5_2
        try clear hfz5_3
        try clear hfz5_4
        try clear hfz5_5
        try clear hfz7_0
        try clear hfz7_1
        try clear hfz7_2
        try clear hfz7_3
        try clear hfz7_4
        try clear hfz7_5
        try clear hfz8_0
        try clear hfz8_1
        try clear hfz8_2
        try clear hfz8_3
        try clear hfz8_4
        try clear hfz8_5
        try clear p2
        obtain ⟨x3_3, rfl, HA, HK3, BK158, HB⟩ := hrel
        cases gk with
        | zero => exact absurd HA.out (by simp [spec_ValidState.l0])
        | succ k3 =>
         have H := HA.out
         clear HA
         simp only [spec_ValidState.l0] at H
         by_cases c19 : x3_3 < (l0_4.length : Int)
         ·
          rw [if_pos c19] at H
          have c19b0 : decide (x3_3 < (l0_4.length : Int)) = true := decide_eq_true c19
          clear c19
          replace H := Option.bind_eq_some_iff.mp H
          obtain ⟨t159, A200, H⟩ := H
          replace H : (if t159 = true then (spec_ValidState.l0 k3 (wrap64 (x3_3 + 1)) a0_0 a0_1 a0_2 a0_3 l0_4 l0_5) else (some false)) = some r := H
          have A20 := Aside0.mk A200
          clear A200
          by_cases c21 : t159 = true
          ·
           subst c21
           have H1 : (spec_ValidState.l0 k3 (wrap64 (x3_3 + 1)) a0_0 a0_1 a0_2 a0_3 l0_4 l0_5) = some r := by first | rfl | (rw [if_pos rfl] at H; exact H)
           clear H
           have H := H1
           clear H1
           have H' := Aside0.mk H
           clear H
           have hcz22_0 : wr.cell? ⟨gb158, 0, none⟩ = some (.int .u64 a0_0) := (blk_cell BK158.out 0).trans rfl
           have hcz22_1 : wr.cell? ⟨gb158, 1, none⟩ = some (.int .u64 a0_1) := (blk_cell BK158.out 1).trans rfl
           have hcz22_2 : wr.cell? ⟨gb158, 2, none⟩ = some (.int .u64 a0_2) := (blk_cell BK158.out 2).trans rfl
           have hcz22_3 : wr.cell? ⟨gb158, 3, none⟩ = some (.int .i64 a0_3) := (blk_cell BK158.out 3).trans rfl
           have hcz22_4 : wr.cell? ⟨gb158, 4, none⟩ = some (.slice A0_4 l0_4.length c0_4) := (blk_cell BK158.out 4).trans rfl
           have hcz22_5 : wr.cell? ⟨gb158, 5, none⟩ = some (.slice A0_5 l0_5.length c0_5) := (blk_cell BK158.out 5).trans rfl
           have hfz22_0 := blk_frozen BK158.out 0
           have hfz22_1 := blk_frozen BK158.out 1
           have hfz22_2 := blk_frozen BK158.out 2
           have hfz22_3 := blk_frozen BK158.out 3
           have hfz22_4 := blk_frozen BK158.out 4
           have hfz22_5 := blk_frozen BK158.out 5
           go_wp2_with (first | ((with_reducible refine gate_callee (f := 43) rfl ?_); refine goesL_ (some 47) rfl rfl Tryd.func43 (by kernel_rfl) rfl #[.agg #[.int .u64 a0_0, .int .u64 a0_1, .int .u64 a0_2, .int .i64 a0_3, .slice A0_4 l0_4.length c0_4, .slice A0_5 l0_5.length c0_5], .int .i64 x3_3] rfl (by (try simp only [List.map_toArray, List.map_cons, List.map_nil]); first | done | rfl | (simp only [List.length_drop, List.length_take]; rfl)) ?_; (with_reducible refine (spec_l3sessionOK.calls k3 a0_0 a0_1 a0_2 a0_3 _ _ l0_4 _ _ l0_5 x3_3 true _ ?side1 ?side2 ?side3 ?side4 A20.out).mono ?_); (case side1 => repeat (first | exact (Kd.C_below HR0_4.out HB.out) | (with_reducible refine Kd.C_alloc ?_ _) | (with_reducible refine Kd.C_drewN ?_ _) | (with_reducible refine Kd.C_drew ?_))); (case side2 => exact HC0_4.out); (case side3 => repeat (first | exact (Kd.C_below HR0_5.out HB.out) | (with_reducible refine Kd.C_alloc ?_ _) | (with_reducible refine Kd.C_drewN ?_ _) | (with_reducible refine Kd.C_drew ?_))); (case side4 => exact HC0_5.out); rintro e w23 ⟨rfl, hb⟩; refine ⟨_, rfl, ?_⟩; have n0_ := Aside0.mk (blk_below (g := gb158) (o := .cells #[.int .u64 a0_0, .int .u64 a0_1, .int .u64 a0_2, .int .i64 a0_3, .slice A0_4 l0_4.length c0_4, .slice A0_5 l0_5.length c0_5] 36 (0, 0)) (by (with_reducible repeat (first | refine blk_drewN ?_ _ | refine blk_drew ?_ | refine blk_alloc ?_ _)); exact BK158.out) hb); have n1_ := Aside0.mk (below_step (by repeat (first | (with_reducible first | exact HB.out | apply below_alloc | apply pw_below_drewN | apply below_drew1 | refine below_set ?_ GE158.out) | exact HB.out)) hb); clear BK158; clear HB; have BK158 := n0_; have HB := n1_; clear n0_ n1_; (try clear hb); (try clear hb2); (try clear hk); (try clear hi)))
           go_roundg k3
           case measure => have := HJ1.out; have := HJ9.out; have := HK3.out; omega
           case rel => exact ⟨(wrap64 (x3_3 + 1)), (by first | rfl | (simp; done) | (simp [*]; done)), H', ⟨by have := HJ1.out; have := HJ9.out; have := HK3.out; omega⟩, ⟨by (with_reducible repeat (first | refine blk_drewN ?_ _ | refine blk_drew ?_ | refine blk_alloc ?_ _)); exact BK158.out⟩, ⟨by repeat (first | (with_reducible first | exact HB.out | apply below_alloc | apply pw_below_drewN | apply below_drew1 | refine below_set ?_ GE158.out) | exact HB.out)⟩⟩
          ·
           replace c21 := Bool.eq_false_iff.mpr c21
           subst c21
           have H1 : (some false) = some r := by first | rfl | (rw [if_neg (show ¬ (false = true) by decide)] at H; exact H)
           clear H
           have H := H1
           clear H1
           obtain rfl := Option.some.inj H
           have hcz24_0 : wr.cell? ⟨gb158, 0, none⟩ = some (.int .u64 a0_0) := (blk_cell BK158.out 0).trans rfl
           have hcz24_1 : wr.cell? ⟨gb158, 1, none⟩ = some (.int .u64 a0_1) := (blk_cell BK158.out 1).trans rfl
           have hcz24_2 : wr.cell? ⟨gb158, 2, none⟩ = some (.int .u64 a0_2) := (blk_cell BK158.out 2).trans rfl
           have hcz24_3 : wr.cell? ⟨gb158, 3, none⟩ = some (.int .i64 a0_3) := (blk_cell BK158.out 3).trans rfl
           have hcz24_4 : wr.cell? ⟨gb158, 4, none⟩ = some (.slice A0_4 l0_4.length c0_4) := (blk_cell BK158.out 4).trans rfl
           have hcz24_5 : wr.cell? ⟨gb158, 5, none⟩ = some (.slice A0_5 l0_5.length c0_5) := (blk_cell BK158.out 5).trans rfl
           have hfz24_0 := blk_frozen BK158.out 0
           have hfz24_1 := blk_frozen BK158.out 1
           have hfz24_2 := blk_frozen BK158.out 2
           have hfz24_3 := blk_frozen BK158.out 3
           have hfz24_4 := blk_frozen BK158.out 4
           have hfz24_5 := blk_frozen BK158.out 5
           go_wp2_with (first | ((with_reducible refine gate_callee (f := 43) rfl ?_); refine goesL_ (some 47) rfl rfl Tryd.func43 (by kernel_rfl) rfl #[.agg #[.int .u64 a0_0, .int .u64 a0_1, .int .u64 a0_2, .int .i64 a0_3, .slice A0_4 l0_4.length c0_4, .slice A0_5 l0_5.length c0_5], .int .i64 x3_3] rfl (by (try simp only [List.map_toArray, List.map_cons, List.map_nil]); first | done | rfl | (simp only [List.length_drop, List.length_take]; rfl)) ?_; (with_reducible refine (spec_l3sessionOK.calls k3 a0_0 a0_1 a0_2 a0_3 _ _ l0_4 _ _ l0_5 x3_3 false _ ?side1 ?side2 ?side3 ?side4 A20.out).mono ?_); (case side1 => repeat (first | exact (Kd.C_below HR0_4.out HB.out) | (with_reducible refine Kd.C_alloc ?_ _) | (with_reducible refine Kd.C_drewN ?_ _) | (with_reducible refine Kd.C_drew ?_))); (case side2 => exact HC0_4.out); (case side3 => repeat (first | exact (Kd.C_below HR0_5.out HB.out) | (with_reducible refine Kd.C_alloc ?_ _) | (with_reducible refine Kd.C_drewN ?_ _) | (with_reducible refine Kd.C_drew ?_))); (case side4 => exact HC0_5.out); rintro e w25 ⟨rfl, hb⟩; refine ⟨_, rfl, ?_⟩; have n0_ := Aside0.mk (blk_below (g := gb158) (o := .cells #[.int .u64 a0_0, .int .u64 a0_1, .int .u64 a0_2, .int .i64 a0_3, .slice A0_4 l0_4.length c0_4, .slice A0_5 l0_5.length c0_5] 36 (0, 0)) (by (with_reducible repeat (first | refine blk_drewN ?_ _ | refine blk_drew ?_ | refine blk_alloc ?_ _)); exact BK158.out) hb); have n1_ := Aside0.mk (below_step (by repeat (first | (with_reducible first | exact HB.out | apply below_alloc | apply pw_below_drewN | apply below_drew1 | refine below_set ?_ GE158.out) | exact HB.out)) hb); clear BK158; clear HB; have BK158 := n0_; have HB := n1_; clear n0_ n1_; (try clear hb); (try clear hb2); (try clear hk); (try clear hi)))
           go_ret
           exact ⟨by first | rfl | (simp [errW_none, errW_some] <;> rfl) | (simp [*, errW_none, errW_some] <;> rfl), by repeat (first | (with_reducible first | exact HB.out | apply below_alloc | apply pw_below_drewN | apply below_drew1 | refine below_set ?_ GE158.out) | exact HB.out)⟩
         ·
          rw [if_neg c19] at H
          have c19b0 : decide (x3_3 < (l0_4.length : Int)) = false := decide_eq_false c19
          clear c19
          have H' := Aside0.mk H
          clear H
          have hcz26_0 : wr.cell? ⟨gb158, 0, none⟩ = some (.int .u64 a0_0) := (blk_cell BK158.out 0).trans rfl
          have hcz26_1 : wr.cell? ⟨gb158, 1, none⟩ = some (.int .u64 a0_1) := (blk_cell BK158.out 1).trans rfl
          have hcz26_2 : wr.cell? ⟨gb158, 2, none⟩ = some (.int .u64 a0_2) := (blk_cell BK158.out 2).trans rfl
          have hcz26_3 : wr.cell? ⟨gb158, 3, none⟩ = some (.int .i64 a0_3) := (blk_cell BK158.out 3).trans rfl
          have hcz26_4 : wr.cell? ⟨gb158, 4, none⟩ = some (.slice A0_4 l0_4.length c0_4) := (blk_cell BK158.out 4).trans rfl
          have hcz26_5 : wr.cell? ⟨gb158, 5, none⟩ = some (.slice A0_5 l0_5.length c0_5) := (blk_cell BK158.out 5).trans rfl
          have hfz26_0 := blk_frozen BK158.out 0
          have hfz26_1 := blk_frozen BK158.out 1
          have hfz26_2 := blk_frozen BK158.out 2
          have hfz26_3 := blk_frozen BK158.out 3
          have hfz26_4 := blk_frozen BK158.out 4
          have hfz26_5 := blk_frozen BK158.out 5
          go_wp2
          go_loopg [4] k3 (fun kq v4 w' => ∃ (x4_4 : Int), v4 = .int .i64 x4_4 ∧ Aside0 (spec_ValidState.l1 kq x4_4 a0_0 a0_1 a0_2 a0_3 l0_4 l0_5 = some r) ∧ Aside0 (kq ≤ k3) ∧ Aside0 (w'.heap[gb158]? = some (.cells #[.int .u64 a0_0, .int .u64 a0_1, .int .u64 a0_2, .int .i64 a0_3, (.slice A0_4 l0_4.length c0_4), (.slice A0_5 l0_5.length c0_5)] 36 (0, 0))) ∧ Aside0 (Below w.heap.size w w'))
          case atStart => exact ⟨(0), (by first | rfl | (simp; done) | (simp [*]; done)), H', ⟨Nat.le_refl _⟩, ⟨by (with_reducible repeat (first | refine blk_drewN ?_ _ | refine blk_drew ?_ | refine blk_alloc ?_ _)); exact BK158.out⟩, ⟨by repeat (first | (with_reducible first | exact HB.out | apply below_alloc | apply pw_below_drewN | apply below_drew1 | refine below_set ?_ GE158.out) | exact HB.out)⟩⟩
          case round =>
           clear H'
           try clear c1
           try clear c2
           try clear p2
           try clear c4
           try clear c4b0
           try clear c6
           try clear c6b0
           try clear p6
           try clear c9
           try clear c11
           try clear c11b0
           try clear c13
           try clear c13b0
           try clear c14
           try clear c15
           try clear c15b0
           try clear c15b1
           try clear c18
           try clear c19
           try clear c19b0
           try clear c21
           try clear hcz12_0
           try clear hcz12_1
           try clear hcz12_2
           try clear hcz12_3
           try clear hcz12_4
           try clear hcz12_5
           try clear hcz14_0
           try clear hcz14_1
           try clear hcz14_2
           try clear hcz14_3
           try clear hcz14_4
           try clear hcz14_5
           try clear hcz16_0
           try clear hcz16_1
           try clear hcz16_2
           try clear hcz16_3
           try clear hcz16_4
           try clear hcz16_5
           try clear hcz17_0
           try clear hcz17_1
           try clear hcz17_2
           try clear hcz17_3
           try clear hcz17_4
           try clear hcz17_5
           try clear hcz22_0
           try clear hcz22_1
           try clear hcz22_2
           try clear hcz22_3
           try clear hcz22_4
           try clear hcz22_5
           try clear hcz24_0
           try clear hcz24_1
           try clear hcz24_2
           try clear hcz24_3
           try clear hcz24_4
           try clear hcz24_5
           try clear hcz26_0
           try clear hcz26_1
           try clear hcz26_2
           try clear hcz26_3
           try clear hcz26_4
           try clear hcz26_5
           try clear hcz5_0
           try clear hcz5_1
           try clear hcz5_2
           try clear hcz5_3
           try clear hcz5_4
           try clear hcz5_5
           try clear hcz7_0
           try clear hcz7_1
           try clear hcz7_2
           try clear hcz7_3
           try clear hcz7_4
           try clear hcz7_5
           try clear hcz8_0
           try clear hcz8_1
           try clear hcz8_2
           try clear hcz8_3
           try clear hcz8_4
           try clear hcz8_5
           try clear hfz12_0
           try clear hfz12_1
           try clear hfz12_2
           try clear hfz12_3
           try clear hfz12_4
           try clear hfz12_5
           try clear hfz14_0
           try clear hfz14_1
           try clear hfz14_2
           try clear hfz14_3
           try clear hfz14_4
           try clear hfz14_5
           try clear hfz16_0
           try clear hfz16_1
           try clear hfz16_2
           try clear hfz16_3
           try clear hfz16_4
           try clear hfz16_5
           try clear hfz17_0
           try clear hfz17_1
           try clear hfz17_2
           try clear hfz17_3
           try clear hfz17_4
           try clear hfz17_5
           try clear hfz22_0
           try clear hfz22_1
           try clear hfz22_2
           try clear hfz22_3
           try clear hfz22_4
           try clear hfz22_5
           try clear hfz24_0
           try clear hfz24_1
           try clear hfz24_2
           try clear hfz24_3
           try clear hfz24_4
           try clear hfz24_5
           try clear hfz26_0
           try clear hfz26_1
           try clear hfz26_2
           try clear hfz26_3
           try clear hfz26_4
           try clear hfz26_5
           try clear hfz5_0
           try clear hfz5_1
           try clear hfz5_2
           try clear hfz5_3
           try clear hfz5_4
           try clear hfz5_5
           try clear hfz7_0
           try clear hfz7_1
           try clear hfz7_2
           try clear hfz7_3
           try clear hfz7_4
           try clear hfz7_5
           try clear hfz8_0
           try clear hfz8_1
           try clear hfz8_2
           try clear hfz8_3
           try clear hfz8_4
           try clear hfz8_5
           try clear p2
           obtain ⟨x4_4, rfl, HA, HK4, BK158, HB⟩ := hrel
           cases gk with
           | zero => exact absurd HA.out (by simp [spec_ValidState.l1])
           | succ k4 =>
            have H := HA.out
            clear HA
            simp only [spec_ValidState.l1] at H
            by_cases c27 : x4_4 < (l0_5.length : Int)
            ·
             rw [if_pos c27] at H
             have c27b0 : decide (x4_4 < (l0_5.length : Int)) = true := decide_eq_true c27
             clear c27
             replace H := Option.bind_eq_some_iff.mp H
             obtain ⟨t160, A280, H⟩ := H
             replace H : (if t160 = true then (spec_ValidState.l1 k4 (wrap64 (x4_4 + 1)) a0_0 a0_1 a0_2 a0_3 l0_4 l0_5) else (some false)) = some r := H
             have A28 := Aside0.mk A280
             clear A280
             by_cases c29 : t160 = true
             ·
              subst c29
              have H1 : (spec_ValidState.l1 k4 (wrap64 (x4_4 + 1)) a0_0 a0_1 a0_2 a0_3 l0_4 l0_5) = some r := by first | rfl | (rw [if_pos rfl] at H; exact H)
              clear H
              have H := H1
              clear H1
              have H' := Aside0.mk H
              clear H
              have hcz30_0 : wr.cell? ⟨gb158, 0, none⟩ = some (.int .u64 a0_0) := (blk_cell BK158.out 0).trans rfl
              have hcz30_1 : wr.cell? ⟨gb158, 1, none⟩ = some (.int .u64 a0_1) := (blk_cell BK158.out 1).trans rfl
              have hcz30_2 : wr.cell? ⟨gb158, 2, none⟩ = some (.int .u64 a0_2) := (blk_cell BK158.out 2).trans rfl
              have hcz30_3 : wr.cell? ⟨gb158, 3, none⟩ = some (.int .i64 a0_3) := (blk_cell BK158.out 3).trans rfl
              have hcz30_4 : wr.cell? ⟨gb158, 4, none⟩ = some (.slice A0_4 l0_4.length c0_4) := (blk_cell BK158.out 4).trans rfl
              have hcz30_5 : wr.cell? ⟨gb158, 5, none⟩ = some (.slice A0_5 l0_5.length c0_5) := (blk_cell BK158.out 5).trans rfl
              have hfz30_0 := blk_frozen BK158.out 0
              have hfz30_1 := blk_frozen BK158.out 1
              have hfz30_2 := blk_frozen BK158.out 2
              have hfz30_3 := blk_frozen BK158.out 3
              have hfz30_4 := blk_frozen BK158.out 4
              have hfz30_5 := blk_frozen BK158.out 5
              go_wp2_with (first | ((with_reducible refine gate_callee (f := 44) rfl ?_); refine goesL_ (some 58) rfl rfl Tryd.func44 (by kernel_rfl) rfl #[.agg #[.int .u64 a0_0, .int .u64 a0_1, .int .u64 a0_2, .int .i64 a0_3, .slice A0_4 l0_4.length c0_4, .slice A0_5 l0_5.length c0_5], .int .i64 x4_4] rfl (by (try simp only [List.map_toArray, List.map_cons, List.map_nil]); first | done | rfl | (simp only [List.length_drop, List.length_take]; rfl)) ?_; (with_reducible refine (spec_l3nodeOK.calls a0_0 a0_1 a0_2 a0_3 _ _ l0_4 _ _ l0_5 x4_4 true _ ?side1 ?side2 ?side3 ?side4 A28.out).mono ?_); (case side1 => repeat (first | exact (Kd.C_below HR0_4.out HB.out) | (with_reducible refine Kd.C_alloc ?_ _) | (with_reducible refine Kd.C_drewN ?_ _) | (with_reducible refine Kd.C_drew ?_))); (case side2 => exact HC0_4.out); (case side3 => repeat (first | exact (Kd.C_below HR0_5.out HB.out) | (with_reducible refine Kd.C_alloc ?_ _) | (with_reducible refine Kd.C_drewN ?_ _) | (with_reducible refine Kd.C_drew ?_))); (case side4 => exact HC0_5.out); rintro e w31 ⟨rfl, hb⟩; refine ⟨_, rfl, ?_⟩; have n0_ := Aside0.mk (blk_below (g := gb158) (o := .cells #[.int .u64 a0_0, .int .u64 a0_1, .int .u64 a0_2, .int .i64 a0_3, .slice A0_4 l0_4.length c0_4, .slice A0_5 l0_5.length c0_5] 36 (0, 0)) (by (with_reducible repeat (first | refine blk_drewN ?_ _ | refine blk_drew ?_ | refine blk_alloc ?_ _)); exact BK158.out) hb); have n1_ := Aside0.mk (below_step (by repeat (first | (with_reducible first | exact HB.out | apply below_alloc | apply pw_below_drewN | apply below_drew1 | refine below_set ?_ GE158.out) | exact HB.out)) hb); clear BK158; clear HB; have BK158 := n0_; have HB := n1_; clear n0_ n1_; (try clear hb); (try clear hb2); (try clear hk); (try clear hi)))
              go_roundg k4
              case measure => have := HJ1.out; have := HJ9.out; have := HK3.out; have := HK4.out; omega
              case rel => exact ⟨(wrap64 (x4_4 + 1)), (by first | rfl | (simp; done) | (simp [*]; done)), H', ⟨by have := HJ1.out; have := HJ9.out; have := HK3.out; have := HK4.out; omega⟩, ⟨by (with_reducible repeat (first | refine blk_drewN ?_ _ | refine blk_drew ?_ | refine blk_alloc ?_ _)); exact BK158.out⟩, ⟨by repeat (first | (with_reducible first | exact HB.out | apply below_alloc | apply pw_below_drewN | apply below_drew1 | refine below_set ?_ GE158.out) | exact HB.out)⟩⟩
             ·
              replace c29 := Bool.eq_false_iff.mpr c29
              subst c29
              have H1 : (some false) = some r := by first | rfl | (rw [if_neg (show ¬ (false = true) by decide)] at H; exact H)
              clear H
              have H := H1
              clear H1
              obtain rfl := Option.some.inj H
              have hcz32_0 : wr.cell? ⟨gb158, 0, none⟩ = some (.int .u64 a0_0) := (blk_cell BK158.out 0).trans rfl
              have hcz32_1 : wr.cell? ⟨gb158, 1, none⟩ = some (.int .u64 a0_1) := (blk_cell BK158.out 1).trans rfl
              have hcz32_2 : wr.cell? ⟨gb158, 2, none⟩ = some (.int .u64 a0_2) := (blk_cell BK158.out 2).trans rfl
              have hcz32_3 : wr.cell? ⟨gb158, 3, none⟩ = some (.int .i64 a0_3) := (blk_cell BK158.out 3).trans rfl
              have hcz32_4 : wr.cell? ⟨gb158, 4, none⟩ = some (.slice A0_4 l0_4.length c0_4) := (blk_cell BK158.out 4).trans rfl
              have hcz32_5 : wr.cell? ⟨gb158, 5, none⟩ = some (.slice A0_5 l0_5.length c0_5) := (blk_cell BK158.out 5).trans rfl
              have hfz32_0 := blk_frozen BK158.out 0
              have hfz32_1 := blk_frozen BK158.out 1
              have hfz32_2 := blk_frozen BK158.out 2
              have hfz32_3 := blk_frozen BK158.out 3
              have hfz32_4 := blk_frozen BK158.out 4
              have hfz32_5 := blk_frozen BK158.out 5
              go_wp2_with (first | ((with_reducible refine gate_callee (f := 44) rfl ?_); refine goesL_ (some 58) rfl rfl Tryd.func44 (by kernel_rfl) rfl #[.agg #[.int .u64 a0_0, .int .u64 a0_1, .int .u64 a0_2, .int .i64 a0_3, .slice A0_4 l0_4.length c0_4, .slice A0_5 l0_5.length c0_5], .int .i64 x4_4] rfl (by (try simp only [List.map_toArray, List.map_cons, List.map_nil]); first | done | rfl | (simp only [List.length_drop, List.length_take]; rfl)) ?_; (with_reducible refine (spec_l3nodeOK.calls a0_0 a0_1 a0_2 a0_3 _ _ l0_4 _ _ l0_5 x4_4 false _ ?side1 ?side2 ?side3 ?side4 A28.out).mono ?_); (case side1 => repeat (first | exact (Kd.C_below HR0_4.out HB.out) | (with_reducible refine Kd.C_alloc ?_ _) | (with_reducible refine Kd.C_drewN ?_ _) | (with_reducible refine Kd.C_drew ?_))); (case side2 => exact HC0_4.out); (case side3 => repeat (first | exact (Kd.C_below HR0_5.out HB.out) | (with_reducible refine Kd.C_alloc ?_ _) | (with_reducible refine Kd.C_drewN ?_ _) | (with_reducible refine Kd.C_drew ?_))); (case side4 => exact HC0_5.out); rintro e w33 ⟨rfl, hb⟩; refine ⟨_, rfl, ?_⟩; have n0_ := Aside0.mk (blk_below (g := gb158) (o := .cells #[.int .u64 a0_0, .int .u64 a0_1, .int .u64 a0_2, .int .i64 a0_3, .slice A0_4 l0_4.length c0_4, .slice A0_5 l0_5.length c0_5] 36 (0, 0)) (by (with_reducible repeat (first | refine blk_drewN ?_ _ | refine blk_drew ?_ | refine blk_alloc ?_ _)); exact BK158.out) hb); have n1_ := Aside0.mk (below_step (by repeat (first | (with_reducible first | exact HB.out | apply below_alloc | apply pw_below_drewN | apply below_drew1 | refine below_set ?_ GE158.out) | exact HB.out)) hb); clear BK158; clear HB; have BK158 := n0_; have HB := n1_; clear n0_ n1_; (try clear hb); (try clear hb2); (try clear hk); (try clear hi)))
              go_ret
              exact ⟨by first | rfl | (simp [errW_none, errW_some] <;> rfl) | (simp [*, errW_none, errW_some] <;> rfl), by repeat (first | (with_reducible first | exact HB.out | apply below_alloc | apply pw_below_drewN | apply below_drew1 | refine below_set ?_ GE158.out) | exact HB.out)⟩
            ·
             rw [if_neg c27] at H
             have c27b0 : decide (x4_4 < (l0_5.length : Int)) = false := decide_eq_false c27
             clear c27
             obtain rfl := Option.some.inj H
             have hcz34_0 : wr.cell? ⟨gb158, 0, none⟩ = some (.int .u64 a0_0) := (blk_cell BK158.out 0).trans rfl
             have hcz34_1 : wr.cell? ⟨gb158, 1, none⟩ = some (.int .u64 a0_1) := (blk_cell BK158.out 1).trans rfl
             have hcz34_2 : wr.cell? ⟨gb158, 2, none⟩ = some (.int .u64 a0_2) := (blk_cell BK158.out 2).trans rfl
             have hcz34_3 : wr.cell? ⟨gb158, 3, none⟩ = some (.int .i64 a0_3) := (blk_cell BK158.out 3).trans rfl
             have hcz34_4 : wr.cell? ⟨gb158, 4, none⟩ = some (.slice A0_4 l0_4.length c0_4) := (blk_cell BK158.out 4).trans rfl
             have hcz34_5 : wr.cell? ⟨gb158, 5, none⟩ = some (.slice A0_5 l0_5.length c0_5) := (blk_cell BK158.out 5).trans rfl
             have hfz34_0 := blk_frozen BK158.out 0
             have hfz34_1 := blk_frozen BK158.out 1
             have hfz34_2 := blk_frozen BK158.out 2
             have hfz34_3 := blk_frozen BK158.out 3
             have hfz34_4 := blk_frozen BK158.out 4
             have hfz34_5 := blk_frozen BK158.out 5
             go_wp2
             go_ret
             exact ⟨by first | rfl | (simp [errW_none, errW_some] <;> rfl) | (simp [*, errW_none, errW_some] <;> rfl), by repeat (first | (with_reducible first | exact HB.out | apply below_alloc | apply pw_below_drewN | apply below_drew1 | refine below_set ?_ GE158.out) | exact HB.out)⟩
end Go.Proofs.YtbgbocdohadhoaaDoor.Print
