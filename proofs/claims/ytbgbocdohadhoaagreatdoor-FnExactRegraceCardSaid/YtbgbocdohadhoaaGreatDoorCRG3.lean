/- Texts of this session, joined by its own program. -/
import Derived.Laws.Cover1
import Derived.Test.YtbgbocdohadhoaaGreatDoorCRG2
namespace Go.Proofs.YtbgbocdohadhoaaGreatDoor.Print
open Go Go.RowKit Go.Proofs.YtbgbocdohadhoaaGreatDoorW.PrintWords Go.Proofs.YtbgbocdohadhoaaGreatDoorW.PrintLast Go.Proofs.YtbgbocdohadhoaaGreatDoorW.PrintMore
set_option linter.unusedVariables false
set_option linter.unusedSimpArgs false
theorem rd_se (xs : List Se) (i : Nat) (h : i < xs.length) : rd_T90 xs (i : Int) = xs[i] := by unfold rd_T90; rw [Int.toNat_natCast, List.getD_eq_getElem?_getD, List.getElem?_eq_getElem h]; rfl
theorem live_loop (e g n t : Int) (xs : List Se) (ns : List No) (id : Int) (hl : xs.length ≤ 2097152) : ∀ (d k i : Nat), i + d = xs.length → d < k → spec_l3live.l0 k id (i : Int) e g n t xs ns = some ((xs.drop i).any fun x => x.f0 == id) := by
 intro d
 induction d with
 | zero =>
  intro k i hi hk
  obtain ⟨k, rfl⟩ : ∃ m, k = m + 1 := ⟨k - 1, by omega⟩
  rw [spec_l3live.l0, if_neg (by omega), List.drop_eq_nil_of_le (by omega)]
  rfl
 | succ d ih =>
  intro k i hi hk
  obtain ⟨k, rfl⟩ : ∃ m, k = m + 1 := ⟨k - 1, by omega⟩
  have hlt : i < xs.length := by omega
  rw [spec_l3live.l0, if_pos (by omega), if_pos (by omega), rd_se xs i hlt, List.drop_eq_getElem_cons hlt, List.any_cons]
  by_cases c : xs[i].f0 = id
  ·
   rw [if_pos c, beq_iff_eq.2 c]
   rfl
  ·
   rw [if_neg c, wrap_up i (by omega), ih k (i + 1) (by omega) (by omega), beq_eq_false_iff_ne.2 c, Bool.false_or]
theorem live_f (e g n t : Int) (xs : List Se) (ns : List No) (id : Int) (hl : xs.length ≤ 2097152) (k : Nat) (hk : 2097152 < k) : spec_l3live.f k e g n t xs ns id = some (liveB xs id) := by
 unfold spec_l3live.f liveB
 have := live_loop e g n t xs ns id hl xs.length k 0 (by omega) (by omega)
 rw [List.drop_zero] at this
 exact this
theorem wrap_down (i : Nat) (h0 : 0 < i) (h : i ≤ 140737488355328) : wrap64 ((i : Int) - 1) = ((i - 1 : Nat) : Int) := by unfold wrap64; omega
def spec_l3idsOK.f (k : Nat) (e g n t : Int) (xs : List Se) (ns : List No) (l : List Int) : Option Bool := if xs.length ≤ 2097152 ∧ l.length ≤ 2097152 then some (idsB xs l) else none
theorem ids_f (e g n t : Int) (xs : List Se) (ns : List No) (l : List Int) (hl : xs.length ≤ 2097152) (hl2 : l.length ≤ 2097152) : spec_l3idsOK.f 10000000 e g n t xs ns l = some (idsB xs l) := if_pos ⟨hl, hl2⟩
set_option maxHeartbeats 8000000 in
set_option maxRecDepth 100000 in
theorem spec_l3idsOK.calls (k : Nat) (e g n t : Int) (As : Option Addr) (cs : Nat) (xs : List Se) (An : Option Addr) (cn : Nat) (ns : List No) (A1 : Option Addr) (c1 : Nat) (l : List Int) (r : Bool) (w : World) (h1 : Kd.C kSe w As xs.length xs) (hc1 : xs.length ≤ cs) (h2 : Kd.C kNo w An ns.length ns) (hc2 : ns.length ≤ cn) (hr1 : Kd.C (Kd.int .u64) w A1 l.length l) (hc : l.length ≤ c1) (hf : spec_l3idsOK.f k e g n t xs ns l = some r) :
  Calls Tryz.prog 122 #[.agg #[.int .u64 e, .int .u64 g, .int .u64 n, .int .i64 t, .slice As xs.length cs, .slice An ns.length cn], .slice A1 l.length c1] w fun r' w' => r' = .returned (.bool r) ∧ Below w.heap.size w w' := by
 unfold spec_l3idsOK.f at hf
 by_cases hl0 : xs.length ≤ 2097152 ∧ l.length ≤ 2097152
 case neg => rw [if_neg hl0] at hf; cases hf
 rw [if_pos hl0] at hf
 obtain rfl := Option.some.inj hf
 clear hf
 have LIV := Aside0.mk (fun (id : Int) (W : World) (hW : Below w.heap.size w W) => spec_l3live.calls 10000000 e g n t As cs xs An cn ns id (liveB xs id) W (Kd.C_below h1 hW) hc1 (Kd.C_below h2 hW) hc2 (live_f e g n t xs ns id hl0.1 _ (by omega)))
 have HL := Aside0.mk hl0.2
 have HR := Aside0.mk hr1
 clear h1 hc1 h2 hc2 hr1 hc hl0
 go_enter Tryz.func122, Tryz.ntmps122
 go_wp2_with fail
 have bs := blk_new w (.cells #[.int .u64 e, .int .u64 g, .int .u64 n, .int .i64 t, .slice As xs.length cs, .slice An ns.length cn] 31)
 have hB := below_alloc (Below.refl w.heap.size w) (.cells #[.int .u64 e, .int .u64 g, .int .u64 n, .int .i64 t, .slice As xs.length cs, .slice An ns.length cn] 31)
 generalize w.alloc (.cells #[.int .u64 e, .int .u64 g, .int .u64 n, .int .i64 t, .slice As xs.length cs, .slice An ns.length cn] 31) = W0 at *
 go_loopg [5] (l.length + 1) (fun kq v5 w' => ∃ i : Nat, v5 = .int .i64 i ∧ Aside0 (kq + i = l.length + 1 ∧ i ≤ l.length) ∧ Aside0 (idsB xs l = allI (fun i x => liveB xs x && (i == 0 || decide (l.getD (i - 1) 0 < x))) i (l.drop i)) ∧ Aside0 (w'.heap[w.heap.size]? = some (.cells #[.int .u64 e, .int .u64 g, .int .u64 n, .int .i64 t, .slice As xs.length cs, .slice An ns.length cn] 31 (0, 0))) ∧ Aside0 (Below w.heap.size w w'))
 case atStart => exact ⟨0, rfl, ⟨⟨by omega, by omega⟩⟩, ⟨rfl⟩, ⟨bs⟩, ⟨hB⟩⟩
 case round =>
  clear bs hB
  obtain ⟨i, rfl, HJ, HV, BS, HB⟩ := hrel
  have hj0 := HJ.out
  have hl2 := HL.out
  by_cases hj : i < l.length
  ·
   have c1 : decide ((i : Int) < (l.length : Int)) = true := decide_eq_true (by omega)
   have ci : (0 : Int) ≤ (i : Int) := by omega
   have ci2 : (i : Int) < (l.length : Int) := by omega
   have HE := HV.out
   rw [allI_drop _ l i hj] at HE
   have hx := Kd.at_int HR.out (i : Int) ci ci2
   obtain ⟨ad, eA, hx⟩ := hx
   have hz : 0 < i → wr.cell? (ad.add (i - 1)) = some (.int .u64 (l.getD (i - 1) 0)) := by
    intro h0
    obtain ⟨ad', eA', hy⟩ := Kd.at_int HR.out ((i - 1 : Nat) : Int) (by omega) (by omega)
    obtain rfl : ad = ad' := by injection eA.symm.trans eA'
    replace hy := (HB.out.cell (World.block_lt_of_cell? w _ hy)).trans hy
    rw [rd_nat] at hy
    rw [Int.toNat_natCast] at hy
    exact hy
   cases eA
   replace hx := (HB.out.cell (World.block_lt_of_cell? w _ hx)).trans hx
   rw [rd_nat, getD_at l i hj] at hx
   rw [Int.toNat_natCast] at hx
   obtain ⟨y, hy⟩ : ∃ y, l[i] = y := ⟨_, rfl⟩
   obtain ⟨z, hzz⟩ : ∃ z, l.getD (i - 1) 0 = z := ⟨_, rfl⟩
   obtain ⟨b, hb⟩ : ∃ b, liveB xs y = b := ⟨_, rfl⟩
   simp only [hy, hzz] at hx hz HE
   rw [hb] at HE
   have LV := Aside0.mk (fun (W : World) (hW : Below w.heap.size w W) => LIV.out y W hW)
   rw [hb] at LV
   clear hy hzz hb HV
   have HE := Aside0.mk HE
   obtain ⟨k1, rfl⟩ : ∃ k1, gk = k1 + 1 := ⟨gk - 1, by omega⟩
   obtain ⟨s0, s1, s2, s3, s4, s5⟩ := cells6 BS.out
   have e0 : (i = 0 → decide (0 < i) = false) ∧ (0 < i → decide (0 < i) = true) := ⟨fun h => decide_eq_false (by omega), fun h => decide_eq_true (by omega)⟩
   cases b with
   | false =>
    clear hz e0 hj0 hj
    go_wp2_with fail
    have CF : Aside0 (∀ w' : World, BelowOf wr w' → (w'.cell? ⟨w.heap.size, 0, none⟩ = some (.int .u64 e) ∧ w'.cell? ⟨w.heap.size, 1, none⟩ = some (.int .u64 g) ∧ w'.cell? ⟨w.heap.size, 2, none⟩ = some (.int .u64 n) ∧ w'.cell? ⟨w.heap.size, 3, none⟩ = some (.int .i64 t) ∧ w'.cell? ⟨w.heap.size, 4, none⟩ = some (.slice As xs.length cs) ∧ w'.cell? ⟨w.heap.size, 5, none⟩ = some (.slice An ns.length cn) ∧ w'.cell? (ad.add i) = some (.int .u64 y))) := ⟨fun w' hC => ⟨(hC.out.cell (World.block_lt_of_cell? _ _ s0)).trans s0, (hC.out.cell (World.block_lt_of_cell? _ _ s1)).trans s1, (hC.out.cell (World.block_lt_of_cell? _ _ s2)).trans s2, (hC.out.cell (World.block_lt_of_cell? _ _ s3)).trans s3, (hC.out.cell (World.block_lt_of_cell? _ _ s4)).trans s4, (hC.out.cell (World.block_lt_of_cell? _ _ s5)).trans s5, (hC.out.cell (World.block_lt_of_cell? _ _ hx)).trans hx⟩⟩
    have VP1 := Aside0.mk (fun (w' : World) (hC : BelowOf wr w') => (LV.out w' (below_step HB.out hC.out)).mono (fun e w'' h => show e = .returned (.bool false) ∧ BelowOf wr w'' from ⟨h.1, ⟨below_step hC.out h.2⟩⟩))
    clear s0 s1 s2 s3 s4 s5 hx
    refine wp_region_below (by kernel_rfl) (by kernel_rfl) ?_
    repeat (first | go_big_quiet_skip | (go_big_quiet_want; rename_i K hK; refine quiet_mk (v := ?_) ?_ (hK _ ?_); rotate_left 1; (focus (intro w' hC; first | (go_simp; first | done | with_reducible rfl) | (obtain ⟨s0, s1, s2, s3, s4, s5, hx⟩ := CF.out w' hC; go_simp; first | done | with_reducible rfl) | (go_simp; go_at_call 121; exact VP1.out w' hC))); clear hK K); try simp only [Act.put, List.setIfInBounds_toArray, List.set_cons_zero, List.set_cons_succ])
    refine wpQuiet_nil ?_
    intro W1 hb1
    have hb := hb1.out
    clear hb1 CF VP1
    replace BS := Aside0.mk (blk_below BS.out hb)
    replace HB := Aside0.mk (below_step HB.out hb)
    clear hb
    go_wp2_with fail
    go_ret
    rw [HE.out]
    exact ⟨rfl, HB.out⟩
   | true =>
    by_cases h0 : i = 0
    ·
     have d0 := e0.1 h0
     have H0 := Aside0.mk h0
     clear hz e0 h0
     go_wp2_with fail
     have CF : Aside0 (∀ w' : World, BelowOf wr w' → (w'.cell? ⟨w.heap.size, 0, none⟩ = some (.int .u64 e) ∧ w'.cell? ⟨w.heap.size, 1, none⟩ = some (.int .u64 g) ∧ w'.cell? ⟨w.heap.size, 2, none⟩ = some (.int .u64 n) ∧ w'.cell? ⟨w.heap.size, 3, none⟩ = some (.int .i64 t) ∧ w'.cell? ⟨w.heap.size, 4, none⟩ = some (.slice As xs.length cs) ∧ w'.cell? ⟨w.heap.size, 5, none⟩ = some (.slice An ns.length cn) ∧ w'.cell? (ad.add i) = some (.int .u64 y))) := ⟨fun w' hC => ⟨(hC.out.cell (World.block_lt_of_cell? _ _ s0)).trans s0, (hC.out.cell (World.block_lt_of_cell? _ _ s1)).trans s1, (hC.out.cell (World.block_lt_of_cell? _ _ s2)).trans s2, (hC.out.cell (World.block_lt_of_cell? _ _ s3)).trans s3, (hC.out.cell (World.block_lt_of_cell? _ _ s4)).trans s4, (hC.out.cell (World.block_lt_of_cell? _ _ s5)).trans s5, (hC.out.cell (World.block_lt_of_cell? _ _ hx)).trans hx⟩⟩
     have VP1 := Aside0.mk (fun (w' : World) (hC : BelowOf wr w') => (LV.out w' (below_step HB.out hC.out)).mono (fun e w'' h => show e = .returned (.bool true) ∧ BelowOf wr w'' from ⟨h.1, ⟨below_step hC.out h.2⟩⟩))
     clear s0 s1 s2 s3 s4 s5 hx
     refine wp_region_below (by kernel_rfl) (by kernel_rfl) ?_
     repeat (first | go_big_quiet_skip | (go_big_quiet_want; rename_i K hK; refine quiet_mk (v := ?_) ?_ (hK _ ?_); rotate_left 1; (focus (intro w' hC; first | (go_simp; first | done | with_reducible rfl) | (obtain ⟨s0, s1, s2, s3, s4, s5, hx⟩ := CF.out w' hC; go_simp; first | done | with_reducible rfl) | (go_simp; go_at_call 121; exact VP1.out w' hC))); clear hK K); try simp only [Act.put, List.setIfInBounds_toArray, List.set_cons_zero, List.set_cons_succ])
     refine wpQuiet_nil ?_
     intro W1 hb1
     have hb := hb1.out
     clear hb1 CF VP1
     replace BS := Aside0.mk (blk_below BS.out hb)
     replace HB := Aside0.mk (below_step HB.out hb)
     clear hb
     go_wp2_with fail
     go_roundg k1
     case measure => omega
     case rel => exact ⟨i + 1, by go_num, ⟨⟨by omega, by omega⟩⟩, ⟨by rw [HE.out, H0.out]; rfl⟩, BS, HB⟩
    ·
     have d0 := e0.2 (by omega)
     replace hz := hz (by omega)
     have hw : IntKind.i64.wrap ((i : Int) - 1) = ((i - 1 : Nat) : Int) := (i64_w _).trans (wrap_down i (by omega) (by omega))
     have cz : (0 : Int) ≤ ((i - 1 : Nat) : Int) := by omega
     have cz2 : ((i - 1 : Nat) : Int) < (l.length : Int) := by omega
     have q0 : (i == 0) = false := beq_eq_false_iff_ne.2 h0
     rw [q0] at HE
     have H0 := Aside0.mk h0
     clear e0 q0 h0
     rcases Decidable.em (y ≤ z) with hq | hq
     ·
      have q1 : decide (y ≤ z) = true := decide_eq_true hq
      have q2 : decide (z < y) = false := decide_eq_false (by omega)
      rw [q2] at HE
      clear q2 hq
      go_wp2_with fail
      have CF : Aside0 (∀ w' : World, BelowOf wr w' → (w'.cell? ⟨w.heap.size, 0, none⟩ = some (.int .u64 e) ∧ w'.cell? ⟨w.heap.size, 1, none⟩ = some (.int .u64 g) ∧ w'.cell? ⟨w.heap.size, 2, none⟩ = some (.int .u64 n) ∧ w'.cell? ⟨w.heap.size, 3, none⟩ = some (.int .i64 t) ∧ w'.cell? ⟨w.heap.size, 4, none⟩ = some (.slice As xs.length cs) ∧ w'.cell? ⟨w.heap.size, 5, none⟩ = some (.slice An ns.length cn) ∧ w'.cell? (ad.add i) = some (.int .u64 y) ∧ w'.cell? (ad.add (i - 1)) = some (.int .u64 z))) := ⟨fun w' hC => ⟨(hC.out.cell (World.block_lt_of_cell? _ _ s0)).trans s0, (hC.out.cell (World.block_lt_of_cell? _ _ s1)).trans s1, (hC.out.cell (World.block_lt_of_cell? _ _ s2)).trans s2, (hC.out.cell (World.block_lt_of_cell? _ _ s3)).trans s3, (hC.out.cell (World.block_lt_of_cell? _ _ s4)).trans s4, (hC.out.cell (World.block_lt_of_cell? _ _ s5)).trans s5, (hC.out.cell (World.block_lt_of_cell? _ _ hx)).trans hx, (hC.out.cell (World.block_lt_of_cell? _ _ hz)).trans hz⟩⟩
      have VP1 := Aside0.mk (fun (w' : World) (hC : BelowOf wr w') => (LV.out w' (below_step HB.out hC.out)).mono (fun e w'' h => show e = .returned (.bool true) ∧ BelowOf wr w'' from ⟨h.1, ⟨below_step hC.out h.2⟩⟩))
      clear s0 s1 s2 s3 s4 s5 hx hz
      refine wp_region_below (by kernel_rfl) (by kernel_rfl) ?_
      repeat (first | go_big_quiet_skip | (go_big_quiet_want; rename_i K hK; refine quiet_mk (v := ?_) ?_ (hK _ ?_); rotate_left 1; (focus (intro w' hC; first | (go_simp; first | done | with_reducible rfl) | (obtain ⟨s0, s1, s2, s3, s4, s5, hx, hz⟩ := CF.out w' hC; go_simp; first | done | with_reducible rfl) | (go_simp; go_at_call 121; exact VP1.out w' hC))); clear hK K); try simp only [Act.put, List.setIfInBounds_toArray, List.set_cons_zero, List.set_cons_succ])
      refine wpQuiet_nil ?_
      intro W1 hb1
      have hb := hb1.out
      clear hb1 CF VP1
      replace BS := Aside0.mk (blk_below BS.out hb)
      replace HB := Aside0.mk (below_step HB.out hb)
      clear hb
      go_wp2_with fail
      go_ret
      rw [HE.out]
      exact ⟨rfl, HB.out⟩
     ·
      have q1 : decide (y ≤ z) = false := decide_eq_false hq
      have q2 : decide (z < y) = true := decide_eq_true (by omega)
      rw [q2] at HE
      clear q2 hq
      go_wp2_with fail
      have CF : Aside0 (∀ w' : World, BelowOf wr w' → (w'.cell? ⟨w.heap.size, 0, none⟩ = some (.int .u64 e) ∧ w'.cell? ⟨w.heap.size, 1, none⟩ = some (.int .u64 g) ∧ w'.cell? ⟨w.heap.size, 2, none⟩ = some (.int .u64 n) ∧ w'.cell? ⟨w.heap.size, 3, none⟩ = some (.int .i64 t) ∧ w'.cell? ⟨w.heap.size, 4, none⟩ = some (.slice As xs.length cs) ∧ w'.cell? ⟨w.heap.size, 5, none⟩ = some (.slice An ns.length cn) ∧ w'.cell? (ad.add i) = some (.int .u64 y) ∧ w'.cell? (ad.add (i - 1)) = some (.int .u64 z))) := ⟨fun w' hC => ⟨(hC.out.cell (World.block_lt_of_cell? _ _ s0)).trans s0, (hC.out.cell (World.block_lt_of_cell? _ _ s1)).trans s1, (hC.out.cell (World.block_lt_of_cell? _ _ s2)).trans s2, (hC.out.cell (World.block_lt_of_cell? _ _ s3)).trans s3, (hC.out.cell (World.block_lt_of_cell? _ _ s4)).trans s4, (hC.out.cell (World.block_lt_of_cell? _ _ s5)).trans s5, (hC.out.cell (World.block_lt_of_cell? _ _ hx)).trans hx, (hC.out.cell (World.block_lt_of_cell? _ _ hz)).trans hz⟩⟩
      have VP1 := Aside0.mk (fun (w' : World) (hC : BelowOf wr w') => (LV.out w' (below_step HB.out hC.out)).mono (fun e w'' h => show e = .returned (.bool true) ∧ BelowOf wr w'' from ⟨h.1, ⟨below_step hC.out h.2⟩⟩))
      clear s0 s1 s2 s3 s4 s5 hx hz
      refine wp_region_below (by kernel_rfl) (by kernel_rfl) ?_
      repeat (first | go_big_quiet_skip | (go_big_quiet_want; rename_i K hK; refine quiet_mk (v := ?_) ?_ (hK _ ?_); rotate_left 1; (focus (intro w' hC; first | (go_simp; first | done | with_reducible rfl) | (obtain ⟨s0, s1, s2, s3, s4, s5, hx, hz⟩ := CF.out w' hC; go_simp; first | done | with_reducible rfl) | (go_simp; go_at_call 121; exact VP1.out w' hC))); clear hK K); try simp only [Act.put, List.setIfInBounds_toArray, List.set_cons_zero, List.set_cons_succ])
      refine wpQuiet_nil ?_
      intro W1 hb1
      have hb := hb1.out
      clear hb1 CF VP1
      replace BS := Aside0.mk (blk_below BS.out hb)
      replace HB := Aside0.mk (below_step HB.out hb)
      clear hb
      go_wp2_with fail
      go_roundg k1
      case measure => omega
      case rel => exact ⟨i + 1, by go_num, ⟨⟨by omega, by omega⟩⟩, ⟨by rw [HE.out]; rfl⟩, BS, HB⟩
  ·
   have c1 : decide ((i : Int) < (l.length : Int)) = false := decide_eq_false (by omega)
   go_wp2_with fail
   go_ret
   rw [HV.out, allI_end _ l i (by omega)]
   exact ⟨rfl, HB.out⟩
def spec_l3lockOK.f (k : Nat) (e g n t : Int) (xs : List Se) (ns : List No) (p v : List Int) (o m : Int) (h : List Int) (ep ge : Int) (wa : List Int) : Option Bool := some (lockB e g ⟨p, v, o, m, h, ep, ge, wa⟩)
set_option maxHeartbeats 8000000 in
set_option maxRecDepth 100000 in
theorem spec_l3lockOK.calls (k : Nat) (e g n t : Int) (As : Option Addr) (cs : Nat) (xs : List Se) (An : Option Addr) (cn : Nat) (ns : List No) (A0 : Option Addr) (c0 : Nat) (p : List Int) (A1 : Option Addr) (c1 : Nat) (v : List Int) (o m : Int) (A4 : Option Addr) (c4 : Nat) (h : List Int) (ep ge : Int) (A7 : Option Addr) (c7 : Nat) (wa : List Int) (r : Bool) (w : World) (h1 : Kd.C kSe w As xs.length xs) (hc1 : xs.length ≤ cs) (h2 : Kd.C kNo w An ns.length ns) (hc2 : ns.length ≤ cn) (i0 : Kd.C (Kd.int .u8) w A0 p.length p) (j0 : p.length ≤ c0) (i1 : Kd.C (Kd.int .u8) w A1 v.length v) (j1 : v.length ≤ c1) (i4 : Kd.C (Kd.int .u64) w A4 h.length h) (j4 : h.length ≤ c4) (i7 : Kd.C (Kd.int .u64) w A7 wa.length wa) (j7 : wa.length ≤ c7) (hf : spec_l3lockOK.f k e g n t xs ns p v o m h ep ge wa = some r) :
  Calls Tryz.prog 123 #[.agg #[.int .u64 e, .int .u64 g, .int .u64 n, .int .i64 t, .slice As xs.length cs, .slice An ns.length cn], .agg #[.slice A0 p.length c0, .slice A1 v.length c1, .int .u64 o, .int .i64 m, .slice A4 h.length c4, .int .u64 ep, .int .u64 ge, .slice A7 wa.length c7]] w fun e w' => e = .returned (.bool r) ∧ Below w.heap.size w w' := by
 obtain rfl := Option.some.inj hf
 clear hf h1 hc1 h2 hc2 i0 j0 i1 j1 i4 j4 i7 j7
 go_enter Tryz.func123, Tryz.ntmps123
 go_upto_region 1 with (fail)
 have bx := blk_alloc (blk_new w (.cells #[.int .u64 e, .int .u64 g, .int .u64 n, .int .i64 t, .slice As xs.length cs, .slice An ns.length cn] 31)) (.cells #[.slice A0 p.length c0, .slice A1 v.length c1, .int .u64 o, .int .i64 m, .slice A4 h.length c4, .int .u64 ep, .int .u64 ge, .slice A7 wa.length c7] 93)
 have bn := blk_new (w.alloc (.cells #[.int .u64 e, .int .u64 g, .int .u64 n, .int .i64 t, .slice As xs.length cs, .slice An ns.length cn] 31)) (.cells #[.slice A0 p.length c0, .slice A1 v.length c1, .int .u64 o, .int .i64 m, .slice A4 h.length c4, .int .u64 ep, .int .u64 ge, .slice A7 wa.length c7] 93)
 simp only [World.size_alloc] at bn
 have hB := below_alloc (below_alloc (Below.refl w.heap.size w) (.cells #[.int .u64 e, .int .u64 g, .int .u64 n, .int .i64 t, .slice As xs.length cs, .slice An ns.length cn] 31)) (.cells #[.slice A0 p.length c0, .slice A1 v.length c1, .int .u64 o, .int .i64 m, .slice A4 h.length c4, .int .u64 ep, .int .u64 ge, .slice A7 wa.length c7] 93)
 generalize (w.alloc (.cells #[.int .u64 e, .int .u64 g, .int .u64 n, .int .i64 t, .slice As xs.length cs, .slice An ns.length cn] 31)).alloc (.cells #[.slice A0 p.length c0, .slice A1 v.length c1, .int .u64 o, .int .i64 m, .slice A4 h.length c4, .int .u64 ep, .int .u64 ge, .slice A7 wa.length c7] 93) = W0 at *
 have HB := Aside0.mk hB
 obtain ⟨s0, s1, s2, s3, s4, s5⟩ := cells6 bx
 obtain ⟨n0, n1, n2, n3, n4, n5, n6, n7⟩ := cells8 bn
 clear bx bn hB s2 s3 s4 s5 n0 n1 n2 n7
 have HL := Aside0.mk (show ∀ b, lockB e g ⟨p, v, o, m, h, ep, ge, wa⟩ = b → lockB e g ⟨p, v, o, m, h, ep, ge, wa⟩ = b from fun _ q => q)
 have K1 : ∀ (a b : Int), a = b → (a == b) = true ∧ (a != b) = false := fun a b q => ⟨beq_iff_eq.mpr q, bne_eq_false_iff_eq.mpr q⟩
 have K2 : ∀ (a b : Int), ¬ a = b → (a == b) = false ∧ (a != b) = true := fun a b q => ⟨beq_eq_false_iff_ne.mpr q, bne_iff_ne.mpr q⟩
 rcases Decidable.em (m = 1) with q1 | q1
 ·
  obtain ⟨q1a, q1b⟩ := K1 _ _ q1
  rcases Decidable.em (h.length = 1) with k1 | k1
  ·
   obtain ⟨k1a, k1b⟩ := K1 (h.length : Int) 1 (by omega)
   rcases Decidable.em (1 ≤ ge) with k2 | k2
   ·
    have k2a : decide (1 ≤ ge) = true := decide_eq_true k2
    rcases Decidable.em (ge ≤ g) with k3 | k3
    ·
     have k3a : decide (ge ≤ g) = true := decide_eq_true k3
     rcases Decidable.em (ep ≤ e) with k4 | k4
     ·
      have k4a : decide (ep ≤ e) = true := decide_eq_true k4
      have hl : lockB e g ⟨p, v, o, m, h, ep, ge, wa⟩ = true := by
       unfold lockB
       first | (simp [q1, k1, k2, k3, k4]; done) | (simp [q1, k1, k2, k3, k4]; omega)
      have HLE := Aside0.mk hl
      clear hl HL K1 K2 q1 k1 k2 k3 k4
      go_wp2_with fail
      go_ret
      exact ⟨by rw [HLE.out]; rfl, HB.out⟩
     ·
      have k4a : decide (ep ≤ e) = false := decide_eq_false k4
      have hl : lockB e g ⟨p, v, o, m, h, ep, ge, wa⟩ = false := by
       unfold lockB
       first | (simp [q1, k1, k2, k3, k4]; done) | (simp [q1, k1, k2, k3, k4]; omega)
      have HLE := Aside0.mk hl
      clear hl HL K1 K2 q1 k1 k2 k3 k4
      go_wp2_with fail
      go_ret
      exact ⟨by rw [HLE.out]; rfl, HB.out⟩
    ·
     have k3a : decide (ge ≤ g) = false := decide_eq_false k3
     have hl : lockB e g ⟨p, v, o, m, h, ep, ge, wa⟩ = false := by
      unfold lockB
      first | (simp [q1, k1, k2, k3]; done) | (simp [q1, k1, k2, k3]; omega)
     have HLE := Aside0.mk hl
     clear hl HL K1 K2 q1 k1 k2 k3
     go_wp2_with fail
     go_ret
     exact ⟨by rw [HLE.out]; rfl, HB.out⟩
   ·
    have k2a : decide (1 ≤ ge) = false := decide_eq_false k2
    have hl : lockB e g ⟨p, v, o, m, h, ep, ge, wa⟩ = false := by
     unfold lockB
     first | (simp [q1, k1, k2]; done) | (simp [q1, k1, k2]; omega)
    have HLE := Aside0.mk hl
    clear hl HL K1 K2 q1 k1 k2
    go_wp2_with fail
    go_ret
    exact ⟨by rw [HLE.out]; rfl, HB.out⟩
  ·
   obtain ⟨k1a, k1b⟩ := K2 (h.length : Int) 1 (by omega)
   have hl : lockB e g ⟨p, v, o, m, h, ep, ge, wa⟩ = false := by
    unfold lockB
    first | (simp [q1, k1]; done) | (simp [q1, k1]; omega)
   have HLE := Aside0.mk hl
   clear hl HL K1 K2 q1 k1
   go_wp2_with fail
   go_ret
   exact ⟨by rw [HLE.out]; rfl, HB.out⟩
 ·
  obtain ⟨q1a, q1b⟩ := K2 _ _ q1
  rcases Decidable.em (ep = 0) with k6 | k6
  ·
   obtain ⟨k6a, k6b⟩ := K1 _ _ k6
   rcases Decidable.em (ge = 0) with k7 | k7
   ·
    obtain ⟨k7a, k7b⟩ := K1 _ _ k7
    rcases Decidable.em (m = 0) with q0 | q0
    ·
     obtain ⟨q0a, q0b⟩ := K1 _ _ q0
     rcases Decidable.em (h.length = 0) with k5 | k5
     ·
      obtain ⟨k5a, k5b⟩ := K1 (h.length : Int) 0 (by omega)
      have k5e : (h = []) = True := by cases h <;> simp_all
      have hl : lockB e g ⟨p, v, o, m, h, ep, ge, wa⟩ = true := by
       unfold lockB
       first | (simp [q1, q0, k5, k6, k7]; done) | (simp [q1, q0, k5, k6, k7]; omega)
      have HLE := Aside0.mk hl
      clear hl HL K1 K2 q1 q0 k5 k6 k7
      go_wp2_with fail
      go_ret
      exact ⟨by rw [HLE.out]; rfl, HB.out⟩
     ·
      obtain ⟨k5a, k5b⟩ := K2 (h.length : Int) 0 (by omega)
      have k5e : (h = []) = False := by cases h <;> simp_all
      have hl : lockB e g ⟨p, v, o, m, h, ep, ge, wa⟩ = false := by
       unfold lockB
       first | (simp [q1, q0, k5, k6, k7]; done) | (simp [q1, q0, k5, k6, k7]; omega)
      have HLE := Aside0.mk hl
      clear hl HL K1 K2 q1 q0 k5 k6 k7
      go_wp2_with fail
      go_ret
      exact ⟨by rw [HLE.out]; rfl, HB.out⟩
    ·
     obtain ⟨q0a, q0b⟩ := K2 _ _ q0
     rcases Decidable.em (m = 2) with q2 | q2
     ·
      obtain ⟨q2a, q2b⟩ := K1 _ _ q2
      rcases Decidable.em (1 ≤ h.length) with k5 | k5
      ·
       have k5a : decide (1 ≤ (h.length : Int)) = true := decide_eq_true (by omega)
       have k5b : decide (1 ≤ h.length) = true := decide_eq_true k5
       have hl : lockB e g ⟨p, v, o, m, h, ep, ge, wa⟩ = true := by
        unfold lockB
        first | (simp [q1, q0, q2, k5, k6, k7]; done) | (simp [q1, q0, q2, k5, k6, k7]; omega)
       have HLE := Aside0.mk hl
       clear hl HL K1 K2 q1 q0 q2 k5 k6 k7
       go_wp2_with fail
       go_ret
       exact ⟨by rw [HLE.out]; rfl, HB.out⟩
      ·
       have k5a : decide (1 ≤ (h.length : Int)) = false := decide_eq_false (by omega)
       have k5b : decide (1 ≤ h.length) = false := decide_eq_false k5
       have hl : lockB e g ⟨p, v, o, m, h, ep, ge, wa⟩ = false := by
        unfold lockB
        first | (simp [q1, q0, q2, k5, k6, k7]; done) | (simp [q1, q0, q2, k5, k6, k7]; omega)
       have HLE := Aside0.mk hl
       clear hl HL K1 K2 q1 q0 q2 k5 k6 k7
       go_wp2_with fail
       go_ret
       exact ⟨by rw [HLE.out]; rfl, HB.out⟩
     ·
      obtain ⟨q2a, q2b⟩ := K2 _ _ q2
      have hl : lockB e g ⟨p, v, o, m, h, ep, ge, wa⟩ = false := by
       unfold lockB
       first | (simp [q1, q0, q2, k6, k7]; done) | (simp [q1, q0, q2, k6, k7]; omega)
      have HLE := Aside0.mk hl
      clear hl HL K1 K2 q1 q0 q2 k6 k7
      go_wp2_with fail
      go_ret
      exact ⟨by rw [HLE.out]; rfl, HB.out⟩
   ·
    obtain ⟨k7a, k7b⟩ := K2 _ _ k7
    have hl : lockB e g ⟨p, v, o, m, h, ep, ge, wa⟩ = false := by
     unfold lockB
     first | (simp [q1, k6, k7]; done) | (simp [q1, k6, k7]; omega)
    have HLE := Aside0.mk hl
    clear hl HL K1 K2 q1 k6 k7
    go_wp2_with fail
    go_ret
    exact ⟨by rw [HLE.out]; rfl, HB.out⟩
  ·
   obtain ⟨k6a, k6b⟩ := K2 _ _ k6
   have hl : lockB e g ⟨p, v, o, m, h, ep, ge, wa⟩ = false := by
    unfold lockB
    first | (simp [q1, k6]; done) | (simp [q1, k6]; omega)
   have HLE := Aside0.mk hl
   clear hl HL K1 K2 q1 k6
   go_wp2_with fail
   go_ret
   exact ⟨by rw [HLE.out]; rfl, HB.out⟩
theorem rd_no (xs : List No) (i : Nat) (h : i < xs.length) : rd_T93 xs (i : Int) = xs[i] := by unfold rd_T93; rw [Int.toNat_natCast, List.getD_eq_getElem?_getD, List.getElem?_eq_getElem h]; rfl
theorem lock_f (e g n t : Int) (xs : List Se) (ns : List No) (p v : List Int) (o m : Int) (h : List Int) (ep ge : Int) (wa : List Int) : spec_l3lockOK.f 10 e g n t xs ns p v o m h ep ge wa = some (lockB e g ⟨p, v, o, m, h, ep, ge, wa⟩) := rfl
structure SmS (xs : List Se) (ns : List No) : Prop where
 x : xs.length ≤ 2097152
 n : ns.length ≤ 2097152
 e : ∀ x ∈ xs, x.f2.length ≤ 2097152 ∧ ∀ y ∈ x.f2, y.f1.length ≤ 2097152 ∧ ∀ z ∈ y.f1, 0 ≤ z ∧ z < 256
 m : ∀ x ∈ ns, ((x.f0.length ≤ 2097152 ∧ ∀ z ∈ x.f0, 0 ≤ z ∧ z < 256) ∧ x.f1.length ≤ 2097152) ∧ x.f4.length ≤ 2097152 ∧ x.f7.length ≤ 2097152
theorem parentL_bytes {p : List Int} (h : ∀ z ∈ p, 0 ≤ z ∧ z < 256) : ∀ z ∈ parentL p, 0 ≤ z ∧ z < 256 := by
 unfold parentL
 split
 ·
  simp
 ·
  exact fun z hz => h z (List.mem_of_mem_take hz)
set_option maxHeartbeats 8000000 in
set_option maxRecDepth 100000 in
theorem spec_nodeOK_calls (e g n t : Int) (As : Option Addr) (cs : Nat) (xs : List Se) (An : Option Addr) (cn : Nat) (ns : List No) (i : Nat) (w : World) (h1 : Kd.C kSe w As xs.length xs) (hc1 : xs.length ≤ cs) (h2 : Kd.C kNo w An ns.length ns) (hc2 : ns.length ≤ cn) (hs : SmS xs ns) (hi : i < ns.length) :
  Calls Tryz.prog 70 #[.agg #[.int .u64 e, .int .u64 g, .int .u64 n, .int .i64 t, .slice As xs.length cs, .slice An ns.length cn], .int .i64 (i : Int)] w fun r w' => r = .returned (.bool (nodeB e g xs ns i ns[i])) ∧ Below w.heap.size w w' := by
 have HR := Aside0.mk (And.intro h1 h2)
 have HL := Aside0.mk (And.intro hc1 hc2)
 have HSM := Aside0.mk hs
 have ci : (0 : Int) ≤ (i : Int) := by omega
 have ci2 : (i : Int) < (ns.length : Int) := by omega
 have hnl := hs.n
 obtain ⟨ad, A0, c0, A1, c1, A4, c4, A7, c7, eA, hx0, hx1, hx2, hx3, hx4, hx5, hx6, hx7, hl0, hi0, hl1, hi1, hl4, hi4, hl7, hi7⟩ := at_T93 h2 (i : Int) ci ci2
 rw [rd_no ns i hi] at hx0 hx1 hx2 hx3 hx4 hx5 hx6 hx7 hl0 hi0 hl1 hi1 hl4 hi4 hl7 hi7
 rw [Int.toNat_natCast] at hx0 hx1 hx2 hx3 hx4 hx5 hx6 hx7
 cases eA
 have hsm := hs.m ns[i] (List.getElem_mem hi)
 have hprev : 0 < i → ∃ Ap cp, w.cell? (ad.add ((i - 1) * 8)) = some (.slice Ap (ns.getD (i - 1) zNo).f0.length cp) ∧ Kd.C (Kd.int .u8) w Ap (ns.getD (i - 1) zNo).f0.length (ns.getD (i - 1) zNo).f0 := by
  intro h0
  have hj : i - 1 < ns.length := by omega
  obtain ⟨ad', B0, b0, B1, b1, B4, b4, B7, b7, eA', hy0, _, _, _, _, _, _, _, _, hyi, _⟩ := at_T93 h2 ((i - 1 : Nat) : Int) (by omega) (by omega)
  rw [rd_no ns (i - 1) hj] at hy0 hyi
  rw [Int.toNat_natCast] at hy0
  cases eA'
  rw [show ns.getD (i - 1) zNo = ns[i - 1] by rw [List.getD_eq_getElem?_getD, List.getElem?_eq_getElem hj]; rfl]
  exact ⟨B0, b0, hy0, hyi⟩
 obtain ⟨y, hy⟩ : ∃ y, ns[i] = y := ⟨_, rfl⟩
 rw [hy] at hx0 hx1 hx2 hx3 hx4 hx5 hx6 hx7 hl0 hi0 hl1 hi1 hl4 hi4 hl7 hi7 hsm ⊢
 clear hy
 obtain ⟨p, v, o, m, h, ep, ge, wa⟩ := y
 simp only at hx0 hx1 hx2 hx3 hx4 hx5 hx6 hx7 hl0 hi0 hl1 hi1 hl4 hi4 hl7 hi7 hsm
 obtain ⟨q, hq⟩ : ∃ q, (ns.getD (i - 1) zNo).f0 = q := ⟨_, rfl⟩
 rw [hq] at hprev
 have hE : nodeB e g xs ns i ⟨p, v, o, m, h, ep, ge, wa⟩ = (pathB p && (i == 0 || !leB p q) && canParB ns (parentL p) && decide (v.length ≤ 40) && (o == 0 || liveB xs o) && idsB xs h && idsB xs wa && lockB e g ⟨p, v, o, m, h, ep, ge, wa⟩) := by rw [← hq]; rfl
 have VP := Aside0.mk (fun (W : World) (hW : Below w.heap.size w W) => spec_ValidPath.calls 10000000 A0 c0 p (pathB p) W (Kd.C_below hi0 hW) hl0 (validPath_f p hsm.1.1.1 _ (by have := hsm.1.1.1; omega)))
 have PAR := Aside0.mk (fun (W : World) (hW : Below w.heap.size w W) => spec_parent_calls A0 c0 p W (Kd.C_below hi0 hW) hl0 hsm.1.1.1)
 have CAN := Aside0.mk (fun (B : Option Addr) (d : Nat) (W : World) (hW : Below w.heap.size w W) (hB : Kd.C (Kd.int .u8) W B (parentL p).length (parentL p)) (hd : (parentL p).length ≤ d) => spec_canParent_calls e g n t As cs xs (some ad) cn ns B d (parentL p) W (Kd.C_below h1 hW) hc1 (Kd.C_below h2 hW) hc2 hB hd hs.n (parentL_bytes hsm.1.1.2) (fun z hz => (hs.m z hz).1.1.2))
 have LIV := Aside0.mk (fun (W : World) (hW : Below w.heap.size w W) => spec_l3live.calls 10000000 e g n t As cs xs (some ad) cn ns o (liveB xs o) W (Kd.C_below h1 hW) hc1 (Kd.C_below h2 hW) hc2 (live_f e g n t xs ns o hs.x _ (by omega)))
 have ID4 := Aside0.mk (fun (W : World) (hW : Below w.heap.size w W) => spec_l3idsOK.calls 10000000 e g n t As cs xs (some ad) cn ns A4 c4 h (idsB xs h) W (Kd.C_below h1 hW) hc1 (Kd.C_below h2 hW) hc2 (Kd.C_below hi4 hW) hl4 (ids_f e g n t xs ns h hs.x hsm.2.1))
 have ID7 := Aside0.mk (fun (W : World) (hW : Below w.heap.size w W) => spec_l3idsOK.calls 10000000 e g n t As cs xs (some ad) cn ns A7 c7 wa (idsB xs wa) W (Kd.C_below h1 hW) hc1 (Kd.C_below h2 hW) hc2 (Kd.C_below hi7 hW) hl7 (ids_f e g n t xs ns wa hs.x hsm.2.2))
 have LOC := Aside0.mk (fun (W : World) (hW : Below w.heap.size w W) => spec_l3lockOK.calls 10 e g n t As cs xs (some ad) cn ns A0 c0 p A1 c1 v o m A4 c4 h ep ge A7 c7 wa (lockB e g ⟨p, v, o, m, h, ep, ge, wa⟩) W (Kd.C_below h1 hW) hc1 (Kd.C_below h2 hW) hc2 (Kd.C_below hi0 hW) hl0 (Kd.C_below hi1 hW) hl1 (Kd.C_below hi4 hW) hl4 (Kd.C_below hi7 hW) hl7 (lock_f e g n t xs ns p v o m h ep ge wa))
 have HP := Aside0.mk hi0
 have HPV := Aside0.mk hprev
 obtain ⟨b1, hb1⟩ : ∃ b, pathB p = b := ⟨_, rfl⟩
 obtain ⟨b2, hb2⟩ : ∃ b, leB p q = b := ⟨_, rfl⟩
 obtain ⟨b3, hb3⟩ : ∃ b, canParB ns (parentL p) = b := ⟨_, rfl⟩
 obtain ⟨b5, hb5⟩ : ∃ b, liveB xs o = b := ⟨_, rfl⟩
 obtain ⟨b6, hb6⟩ : ∃ b, idsB xs h = b := ⟨_, rfl⟩
 obtain ⟨b7, hb7⟩ : ∃ b, idsB xs wa = b := ⟨_, rfl⟩
 obtain ⟨b8, hb8⟩ : ∃ b, lockB e g ⟨p, v, o, m, h, ep, ge, wa⟩ = b := ⟨_, rfl⟩
 rw [hb1] at VP hE
 rw [hb2, hb3, hb5, hb6, hb7, hb8] at hE
 rw [hb3] at CAN
 rw [hb5] at LIV
 rw [hb6] at ID4
 rw [hb7] at ID7
 rw [hb8] at LOC
 have HE := Aside0.mk hE
 have HLE : Aside0 ((Op.bytesLess (strOfNums p).toList (strOfNums q).toList || (strOfNums p).toList == (strOfNums q).toList) = b2) := ⟨by rw [Lib.strOfNums_toList, Lib.strOfNums_toList]; exact hb2⟩
 clear hb1 hb2 hb3 hb5 hb6 hb7 hb8 hE h1 h2 hc1 hc2 hs hl0 hi0 hl1 hi1 hl4 hi4 hl7 hi7 hsm hprev hq
 have hal : ∀ {a : Addr} {z : Value}, w.cell? a = some z → (w.alloc (.cells #[.int .u64 e, .int .u64 g, .int .u64 n, .int .i64 t, .slice As xs.length cs, .slice (some ad) ns.length cn] 31)).cell? a = some z := fun hz => (World.cell?_alloc_lt _ _ _ (World.block_lt_of_cell? w _ hz)).trans hz
 replace hx0 := hal hx0
 replace hx1 := hal hx1
 replace hx2 := hal hx2
 replace hx3 := hal hx3
 replace hx4 := hal hx4
 replace hx5 := hal hx5
 replace hx6 := hal hx6
 replace hx7 := hal hx7
 clear hal
 go_enter Tryz.func70, Tryz.ntmps70
 go_wp2_with fail
 have b0 := blk_alloc (blk_new w (.cells #[.int .u64 e, .int .u64 g, .int .u64 n, .int .i64 t, .slice As xs.length cs, .slice (some ad) ns.length cn] 31)) (.cells #[.slice A0 p.length c0, .slice A1 v.length c1, .int .u64 o, .int .i64 m, .slice A4 h.length c4, .int .u64 ep, .int .u64 ge, .slice A7 wa.length c7] 93)
 have bn := blk_new (w.alloc (.cells #[.int .u64 e, .int .u64 g, .int .u64 n, .int .i64 t, .slice As xs.length cs, .slice (some ad) ns.length cn] 31)) (.cells #[.slice A0 p.length c0, .slice A1 v.length c1, .int .u64 o, .int .i64 m, .slice A4 h.length c4, .int .u64 ep, .int .u64 ge, .slice A7 wa.length c7] 93)
 have hB := below_alloc (below_alloc (Below.refl w.heap.size w) (.cells #[.int .u64 e, .int .u64 g, .int .u64 n, .int .i64 t, .slice As xs.length cs, .slice (some ad) ns.length cn] 31)) (.cells #[.slice A0 p.length c0, .slice A1 v.length c1, .int .u64 o, .int .i64 m, .slice A4 h.length c4, .int .u64 ep, .int .u64 ge, .slice A7 wa.length c7] 93)
 simp only [World.size_alloc] at bn
 generalize (w.alloc (.cells #[.int .u64 e, .int .u64 g, .int .u64 n, .int .i64 t, .slice As xs.length cs, .slice (some ad) ns.length cn] 31)).alloc (.cells #[.slice A0 p.length c0, .slice A1 v.length c1, .int .u64 o, .int .i64 m, .slice A4 h.length c4, .int .u64 ep, .int .u64 ge, .slice A7 wa.length c7] 93) = W0 at *
 have BS := Aside0.mk b0
 have BN := Aside0.mk bn
 have HB := Aside0.mk hB
 clear b0 bn hB hx0 hx1 hx2 hx3 hx4 hx5 hx6 hx7
 have s0 := blk_cell BS.out 0
 have s1 := blk_cell BS.out 1
 have s2 := blk_cell BS.out 2
 have s3 := blk_cell BS.out 3
 have s4 := blk_cell BS.out 4
 have s5 := blk_cell BS.out 5
 have m0 := blk_cell BN.out 0
 have m1 := blk_cell BN.out 1
 have m2 := blk_cell BN.out 2
 have m3 := blk_cell BN.out 3
 have m4 := blk_cell BN.out 4
 have m5 := blk_cell BN.out 5
 have m6 := blk_cell BN.out 6
 have m7 := blk_cell BN.out 7
 simp only [List.getElem?_toArray, List.getElem?_cons_zero, List.getElem?_cons_succ] at s0 s1 s2 s3 s4 s5 m0 m1 m2 m3 m4 m5 m6 m7
 cases b1 with
 | false =>
  by_cases hi0 : i = 0
  ·
   have di : decide (0 < i) = false := decide_eq_false (by omega)
   have CF : Aside0 (∀ w' : World, BelowOf W0 w' → (w'.cell? ⟨w.heap.size, 0, none⟩ = some (.int .u64 e) ∧ w'.cell? ⟨w.heap.size, 1, none⟩ = some (.int .u64 g) ∧ w'.cell? ⟨w.heap.size, 2, none⟩ = some (.int .u64 n) ∧ w'.cell? ⟨w.heap.size, 3, none⟩ = some (.int .i64 t) ∧ w'.cell? ⟨w.heap.size, 4, none⟩ = some (.slice As xs.length cs) ∧ w'.cell? ⟨w.heap.size, 5, none⟩ = some (.slice (some ad) ns.length cn) ∧ w'.cell? ⟨w.heap.size + 1, 0, none⟩ = some (.slice A0 p.length c0) ∧ w'.cell? ⟨w.heap.size + 1, 1, none⟩ = some (.slice A1 v.length c1) ∧ w'.cell? ⟨w.heap.size + 1, 2, none⟩ = some (.int .u64 o) ∧ w'.cell? ⟨w.heap.size + 1, 3, none⟩ = some (.int .i64 m) ∧ w'.cell? ⟨w.heap.size + 1, 4, none⟩ = some (.slice A4 h.length c4) ∧ w'.cell? ⟨w.heap.size + 1, 5, none⟩ = some (.int .u64 ep) ∧ w'.cell? ⟨w.heap.size + 1, 6, none⟩ = some (.int .u64 ge) ∧ w'.cell? ⟨w.heap.size + 1, 7, none⟩ = some (.slice A7 wa.length c7))) := ⟨fun w' hC => ⟨(hC.out.cell (World.block_lt_of_cell? _ _ s0)).trans s0, (hC.out.cell (World.block_lt_of_cell? _ _ s1)).trans s1, (hC.out.cell (World.block_lt_of_cell? _ _ s2)).trans s2, (hC.out.cell (World.block_lt_of_cell? _ _ s3)).trans s3, (hC.out.cell (World.block_lt_of_cell? _ _ s4)).trans s4, (hC.out.cell (World.block_lt_of_cell? _ _ s5)).trans s5, (hC.out.cell (World.block_lt_of_cell? _ _ m0)).trans m0, (hC.out.cell (World.block_lt_of_cell? _ _ m1)).trans m1, (hC.out.cell (World.block_lt_of_cell? _ _ m2)).trans m2, (hC.out.cell (World.block_lt_of_cell? _ _ m3)).trans m3, (hC.out.cell (World.block_lt_of_cell? _ _ m4)).trans m4, (hC.out.cell (World.block_lt_of_cell? _ _ m5)).trans m5, (hC.out.cell (World.block_lt_of_cell? _ _ m6)).trans m6, (hC.out.cell (World.block_lt_of_cell? _ _ m7)).trans m7⟩⟩
   have VP1 := Aside0.mk (fun (w' : World) (hC : BelowOf W0 w') => (VP.out w' (below_step HB.out hC.out)).mono (fun e w'' h => show e = .returned (.bool false) ∧ BelowOf W0 w'' from ⟨h.1, ⟨below_step hC.out h.2⟩⟩))
   clear s0 s1 s2 s3 s4 s5 m0 m1 m2 m3 m4 m5 m6 m7
   refine wp_region_below (by kernel_rfl) (by kernel_rfl) ?_
   repeat (first | go_big_quiet_skip | (go_big_quiet_want; rename_i K hK; refine quiet_mk (v := ?_) ?_ (hK _ ?_); rotate_left 1; (focus (intro w' hC; first | (go_simp; first | done | with_reducible rfl) | (obtain ⟨s0, s1, s2, s3, s4, s5, m0, m1, m2, m3, m4, m5, m6, m7⟩ := CF.out w' hC; go_simp; first | done | with_reducible rfl) | (go_simp; go_at_call 118; exact VP1.out w' hC))); clear hK K); try simp only [Act.put, List.setIfInBounds_toArray, List.set_cons_zero, List.set_cons_succ])
   refine wpQuiet_nil ?_
   intro W1 hb1
   have hb := hb1.out
   clear hb1 CF VP1
   replace BS := Aside0.mk (blk_below BS.out hb)
   replace BN := Aside0.mk (blk_below BN.out hb)
   replace HB := Aside0.mk (below_step HB.out hb)
   clear hb
   have s0 := blk_cell BS.out 0
   have s1 := blk_cell BS.out 1
   have s2 := blk_cell BS.out 2
   have s3 := blk_cell BS.out 3
   have s4 := blk_cell BS.out 4
   have s5 := blk_cell BS.out 5
   have m0 := blk_cell BN.out 0
   have m1 := blk_cell BN.out 1
   have m2 := blk_cell BN.out 2
   have m3 := blk_cell BN.out 3
   have m4 := blk_cell BN.out 4
   have m5 := blk_cell BN.out 5
   have m6 := blk_cell BN.out 6
   have m7 := blk_cell BN.out 7
   simp only [List.getElem?_toArray, List.getElem?_cons_zero, List.getElem?_cons_succ] at s0 s1 s2 s3 s4 s5 m0 m1 m2 m3 m4 m5 m6 m7
   go_wp2_with fail
   go_ret
   rw [HE.out]
   exact ⟨by simp, HB.out⟩
  ·
   have di : decide (0 < i) = true := decide_eq_true (by omega)
   have CF : Aside0 (∀ w' : World, BelowOf W0 w' → (w'.cell? ⟨w.heap.size, 0, none⟩ = some (.int .u64 e) ∧ w'.cell? ⟨w.heap.size, 1, none⟩ = some (.int .u64 g) ∧ w'.cell? ⟨w.heap.size, 2, none⟩ = some (.int .u64 n) ∧ w'.cell? ⟨w.heap.size, 3, none⟩ = some (.int .i64 t) ∧ w'.cell? ⟨w.heap.size, 4, none⟩ = some (.slice As xs.length cs) ∧ w'.cell? ⟨w.heap.size, 5, none⟩ = some (.slice (some ad) ns.length cn) ∧ w'.cell? ⟨w.heap.size + 1, 0, none⟩ = some (.slice A0 p.length c0) ∧ w'.cell? ⟨w.heap.size + 1, 1, none⟩ = some (.slice A1 v.length c1) ∧ w'.cell? ⟨w.heap.size + 1, 2, none⟩ = some (.int .u64 o) ∧ w'.cell? ⟨w.heap.size + 1, 3, none⟩ = some (.int .i64 m) ∧ w'.cell? ⟨w.heap.size + 1, 4, none⟩ = some (.slice A4 h.length c4) ∧ w'.cell? ⟨w.heap.size + 1, 5, none⟩ = some (.int .u64 ep) ∧ w'.cell? ⟨w.heap.size + 1, 6, none⟩ = some (.int .u64 ge) ∧ w'.cell? ⟨w.heap.size + 1, 7, none⟩ = some (.slice A7 wa.length c7))) := ⟨fun w' hC => ⟨(hC.out.cell (World.block_lt_of_cell? _ _ s0)).trans s0, (hC.out.cell (World.block_lt_of_cell? _ _ s1)).trans s1, (hC.out.cell (World.block_lt_of_cell? _ _ s2)).trans s2, (hC.out.cell (World.block_lt_of_cell? _ _ s3)).trans s3, (hC.out.cell (World.block_lt_of_cell? _ _ s4)).trans s4, (hC.out.cell (World.block_lt_of_cell? _ _ s5)).trans s5, (hC.out.cell (World.block_lt_of_cell? _ _ m0)).trans m0, (hC.out.cell (World.block_lt_of_cell? _ _ m1)).trans m1, (hC.out.cell (World.block_lt_of_cell? _ _ m2)).trans m2, (hC.out.cell (World.block_lt_of_cell? _ _ m3)).trans m3, (hC.out.cell (World.block_lt_of_cell? _ _ m4)).trans m4, (hC.out.cell (World.block_lt_of_cell? _ _ m5)).trans m5, (hC.out.cell (World.block_lt_of_cell? _ _ m6)).trans m6, (hC.out.cell (World.block_lt_of_cell? _ _ m7)).trans m7⟩⟩
   have VP1 := Aside0.mk (fun (w' : World) (hC : BelowOf W0 w') => (VP.out w' (below_step HB.out hC.out)).mono (fun e w'' h => show e = .returned (.bool false) ∧ BelowOf W0 w'' from ⟨h.1, ⟨below_step hC.out h.2⟩⟩))
   clear s0 s1 s2 s3 s4 s5 m0 m1 m2 m3 m4 m5 m6 m7
   refine wp_region_below (by kernel_rfl) (by kernel_rfl) ?_
   repeat (first | go_big_quiet_skip | (go_big_quiet_want; rename_i K hK; refine quiet_mk (v := ?_) ?_ (hK _ ?_); rotate_left 1; (focus (intro w' hC; first | (go_simp; first | done | with_reducible rfl) | (obtain ⟨s0, s1, s2, s3, s4, s5, m0, m1, m2, m3, m4, m5, m6, m7⟩ := CF.out w' hC; go_simp; first | done | with_reducible rfl) | (go_simp; go_at_call 118; exact VP1.out w' hC))); clear hK K); try simp only [Act.put, List.setIfInBounds_toArray, List.set_cons_zero, List.set_cons_succ])
   refine wpQuiet_nil ?_
   intro W1 hb1
   have hb := hb1.out
   clear hb1 CF VP1
   replace BS := Aside0.mk (blk_below BS.out hb)
   replace BN := Aside0.mk (blk_below BN.out hb)
   replace HB := Aside0.mk (below_step HB.out hb)
   clear hb
   have s0 := blk_cell BS.out 0
   have s1 := blk_cell BS.out 1
   have s2 := blk_cell BS.out 2
   have s3 := blk_cell BS.out 3
   have s4 := blk_cell BS.out 4
   have s5 := blk_cell BS.out 5
   have m0 := blk_cell BN.out 0
   have m1 := blk_cell BN.out 1
   have m2 := blk_cell BN.out 2
   have m3 := blk_cell BN.out 3
   have m4 := blk_cell BN.out 4
   have m5 := blk_cell BN.out 5
   have m6 := blk_cell BN.out 6
   have m7 := blk_cell BN.out 7
   simp only [List.getElem?_toArray, List.getElem?_cons_zero, List.getElem?_cons_succ] at s0 s1 s2 s3 s4 s5 m0 m1 m2 m3 m4 m5 m6 m7
   go_wp2_with fail
   go_ret
   rw [HE.out]
   exact ⟨by simp, HB.out⟩
 | true =>
  by_cases hi0 : i = 0
  ·
   have di : decide (0 < i) = false := decide_eq_false (by omega)
   have HI0 := Aside0.mk (show (i == 0) = true from beq_iff_eq.2 hi0)
   clear hi0
   have CF : Aside0 (∀ w' : World, BelowOf W0 w' → (w'.cell? ⟨w.heap.size, 0, none⟩ = some (.int .u64 e) ∧ w'.cell? ⟨w.heap.size, 1, none⟩ = some (.int .u64 g) ∧ w'.cell? ⟨w.heap.size, 2, none⟩ = some (.int .u64 n) ∧ w'.cell? ⟨w.heap.size, 3, none⟩ = some (.int .i64 t) ∧ w'.cell? ⟨w.heap.size, 4, none⟩ = some (.slice As xs.length cs) ∧ w'.cell? ⟨w.heap.size, 5, none⟩ = some (.slice (some ad) ns.length cn) ∧ w'.cell? ⟨w.heap.size + 1, 0, none⟩ = some (.slice A0 p.length c0) ∧ w'.cell? ⟨w.heap.size + 1, 1, none⟩ = some (.slice A1 v.length c1) ∧ w'.cell? ⟨w.heap.size + 1, 2, none⟩ = some (.int .u64 o) ∧ w'.cell? ⟨w.heap.size + 1, 3, none⟩ = some (.int .i64 m) ∧ w'.cell? ⟨w.heap.size + 1, 4, none⟩ = some (.slice A4 h.length c4) ∧ w'.cell? ⟨w.heap.size + 1, 5, none⟩ = some (.int .u64 ep) ∧ w'.cell? ⟨w.heap.size + 1, 6, none⟩ = some (.int .u64 ge) ∧ w'.cell? ⟨w.heap.size + 1, 7, none⟩ = some (.slice A7 wa.length c7))) := ⟨fun w' hC => ⟨(hC.out.cell (World.block_lt_of_cell? _ _ s0)).trans s0, (hC.out.cell (World.block_lt_of_cell? _ _ s1)).trans s1, (hC.out.cell (World.block_lt_of_cell? _ _ s2)).trans s2, (hC.out.cell (World.block_lt_of_cell? _ _ s3)).trans s3, (hC.out.cell (World.block_lt_of_cell? _ _ s4)).trans s4, (hC.out.cell (World.block_lt_of_cell? _ _ s5)).trans s5, (hC.out.cell (World.block_lt_of_cell? _ _ m0)).trans m0, (hC.out.cell (World.block_lt_of_cell? _ _ m1)).trans m1, (hC.out.cell (World.block_lt_of_cell? _ _ m2)).trans m2, (hC.out.cell (World.block_lt_of_cell? _ _ m3)).trans m3, (hC.out.cell (World.block_lt_of_cell? _ _ m4)).trans m4, (hC.out.cell (World.block_lt_of_cell? _ _ m5)).trans m5, (hC.out.cell (World.block_lt_of_cell? _ _ m6)).trans m6, (hC.out.cell (World.block_lt_of_cell? _ _ m7)).trans m7⟩⟩
   have VP1 := Aside0.mk (fun (w' : World) (hC : BelowOf W0 w') => (VP.out w' (below_step HB.out hC.out)).mono (fun e w'' h => show e = .returned (.bool true) ∧ BelowOf W0 w'' from ⟨h.1, ⟨below_step hC.out h.2⟩⟩))
   clear s0 s1 s2 s3 s4 s5 m0 m1 m2 m3 m4 m5 m6 m7
   refine wp_region_below (by kernel_rfl) (by kernel_rfl) ?_
   repeat (first | go_big_quiet_skip | (go_big_quiet_want; rename_i K hK; refine quiet_mk (v := ?_) ?_ (hK _ ?_); rotate_left 1; (focus (intro w' hC; first | (go_simp; first | done | with_reducible rfl) | (obtain ⟨s0, s1, s2, s3, s4, s5, m0, m1, m2, m3, m4, m5, m6, m7⟩ := CF.out w' hC; go_simp; first | done | with_reducible rfl) | (go_simp; go_at_call 118; exact VP1.out w' hC))); clear hK K); try simp only [Act.put, List.setIfInBounds_toArray, List.set_cons_zero, List.set_cons_succ])
   refine wpQuiet_nil ?_
   intro W1 hb1
   have hb := hb1.out
   clear hb1 CF VP1
   replace BS := Aside0.mk (blk_below BS.out hb)
   replace BN := Aside0.mk (blk_below BN.out hb)
   replace HB := Aside0.mk (below_step HB.out hb)
   clear hb
   have s0 := blk_cell BS.out 0
   have s1 := blk_cell BS.out 1
   have s2 := blk_cell BS.out 2
   have s3 := blk_cell BS.out 3
   have s4 := blk_cell BS.out 4
   have s5 := blk_cell BS.out 5
   have m0 := blk_cell BN.out 0
   have m1 := blk_cell BN.out 1
   have m2 := blk_cell BN.out 2
   have m3 := blk_cell BN.out 3
   have m4 := blk_cell BN.out 4
   have m5 := blk_cell BN.out 5
   have m6 := blk_cell BN.out 6
   have m7 := blk_cell BN.out 7
   simp only [List.getElem?_toArray, List.getElem?_cons_zero, List.getElem?_cons_succ] at s0 s1 s2 s3 s4 s5 m0 m1 m2 m3 m4 m5 m6 m7
   go_wp2_with fail
   rw [HI0.out] at HE
   cases b3 with
   | false =>
    (first | go_region_with (first | (go_at_call 120; refine (PAR.out _ (by with_reducible repeat (first | exact HB.out | apply below_drew1))).mono ?_; rintro r W2 ⟨B, d, rfl, hd, hC, hb0⟩; have hb : Below W1.heap.size W1 W2 := (by first | exact hb0 | exact (below_drew1 (Below.refl W1.heap.size W1)).trans hb0); clear hb0; replace BS := Aside0.mk (blk_below BS.out hb); replace BN := Aside0.mk (blk_below BN.out hb); replace HB := Aside0.mk (below_step HB.out hb); have HC := Aside0.mk hC; have HD := Aside0.mk hd; clear hb hC hd; clear s0 s1 s2 s3 s4 s5 m0 m1 m2 m3 m4 m5 m6 m7; have s0 := blk_cell BS.out 0; have s1 := blk_cell BS.out 1; have s2 := blk_cell BS.out 2; have s3 := blk_cell BS.out 3; have s4 := blk_cell BS.out 4; have s5 := blk_cell BS.out 5; have m0 := blk_cell BN.out 0; have m1 := blk_cell BN.out 1; have m2 := blk_cell BN.out 2; have m3 := blk_cell BN.out 3; have m4 := blk_cell BN.out 4; have m5 := blk_cell BN.out 5; have m6 := blk_cell BN.out 6; have m7 := blk_cell BN.out 7; simp only [List.getElem?_toArray, List.getElem?_cons_zero, List.getElem?_cons_succ] at s0 s1 s2 s3 s4 s5 m0 m1 m2 m3 m4 m5 m6 m7) | (go_at_call 119; refine (CAN.out B d _ (by with_reducible repeat (first | exact HB.out | apply below_drew1)) (by repeat (first | exact HC.out | refine Kd.C_drew ?_)) HD.out).mono ?_; rintro r W3 ⟨rfl, hb0⟩; have hb : Below W2.heap.size W2 W3 := (by first | exact hb0 | exact (below_drew1 (Below.refl W2.heap.size W2)).trans hb0); clear hb0; replace BS := Aside0.mk (blk_below BS.out hb); replace BN := Aside0.mk (blk_below BN.out hb); replace HB := Aside0.mk (below_step HB.out hb); clear hb HC HD; clear s0 s1 s2 s3 s4 s5 m0 m1 m2 m3 m4 m5 m6 m7; have s0 := blk_cell BS.out 0; have s1 := blk_cell BS.out 1; have s2 := blk_cell BS.out 2; have s3 := blk_cell BS.out 3; have s4 := blk_cell BS.out 4; have s5 := blk_cell BS.out 5; have m0 := blk_cell BN.out 0; have m1 := blk_cell BN.out 1; have m2 := blk_cell BN.out 2; have m3 := blk_cell BN.out 3; have m4 := blk_cell BN.out 4; have m5 := blk_cell BN.out 5; have m6 := blk_cell BN.out 6; have m7 := blk_cell BN.out 7; simp only [List.getElem?_toArray, List.getElem?_cons_zero, List.getElem?_cons_succ] at s0 s1 s2 s3 s4 s5 m0 m1 m2 m3 m4 m5 m6 m7)) | fail)
    all_goals (go_wp2_with fail; go_ret; rw [HE.out]; exact ⟨by simp, HB.out⟩)
   | true =>
    by_cases hv : 40 < v.length
    ·
     have hv1 : decide ((40 : Int) < (v.length : Int)) = true := decide_eq_true (by omega)
     have HV := Aside0.mk (show decide (v.length ≤ 40) = false from decide_eq_false (by omega))
     clear hv
     (first | go_region_held3 (fun w' => w'.cell? ⟨w.heap.size, 0, none⟩ = some (.int .u64 e) ∧ w'.cell? ⟨w.heap.size, 1, none⟩ = some (.int .u64 g) ∧ w'.cell? ⟨w.heap.size, 2, none⟩ = some (.int .u64 n) ∧ w'.cell? ⟨w.heap.size, 3, none⟩ = some (.int .i64 t) ∧ w'.cell? ⟨w.heap.size, 4, none⟩ = some (.slice As xs.length cs) ∧ w'.cell? ⟨w.heap.size, 5, none⟩ = some (.slice (some ad) ns.length cn) ∧ w'.cell? ⟨w.heap.size + 1, 0, none⟩ = some (.slice A0 p.length c0) ∧ w'.cell? ⟨w.heap.size + 1, 1, none⟩ = some (.slice A1 v.length c1) ∧ w'.cell? ⟨w.heap.size + 1, 2, none⟩ = some (.int .u64 o) ∧ w'.cell? ⟨w.heap.size + 1, 3, none⟩ = some (.int .i64 m) ∧ w'.cell? ⟨w.heap.size + 1, 4, none⟩ = some (.slice A4 h.length c4) ∧ w'.cell? ⟨w.heap.size + 1, 5, none⟩ = some (.int .u64 ep) ∧ w'.cell? ⟨w.heap.size + 1, 6, none⟩ = some (.int .u64 ge) ∧ w'.cell? ⟨w.heap.size + 1, 7, none⟩ = some (.slice A7 wa.length c7)) (first | exact ⟨s0, s1, s2, s3, s4, s5, m0, m1, m2, m3, m4, m5, m6, m7⟩) (first | (go_at_call 120; refine (PAR.out _ (by with_reducible repeat (first | exact HB.out | apply below_drew1))).mono ?_; rintro r W2 ⟨B, d, rfl, hd, hC, hb0⟩; have hb : Below W1.heap.size W1 W2 := (by first | exact hb0 | exact (below_drew1 (Below.refl W1.heap.size W1)).trans hb0); clear hb0; replace BS := Aside0.mk (blk_below BS.out hb); replace BN := Aside0.mk (blk_below BN.out hb); replace HB := Aside0.mk (below_step HB.out hb); have HC := Aside0.mk hC; have HD := Aside0.mk hd; clear hb hC hd; clear s0 s1 s2 s3 s4 s5 m0 m1 m2 m3 m4 m5 m6 m7; have s0 := blk_cell BS.out 0; have s1 := blk_cell BS.out 1; have s2 := blk_cell BS.out 2; have s3 := blk_cell BS.out 3; have s4 := blk_cell BS.out 4; have s5 := blk_cell BS.out 5; have m0 := blk_cell BN.out 0; have m1 := blk_cell BN.out 1; have m2 := blk_cell BN.out 2; have m3 := blk_cell BN.out 3; have m4 := blk_cell BN.out 4; have m5 := blk_cell BN.out 5; have m6 := blk_cell BN.out 6; have m7 := blk_cell BN.out 7; simp only [List.getElem?_toArray, List.getElem?_cons_zero, List.getElem?_cons_succ] at s0 s1 s2 s3 s4 s5 m0 m1 m2 m3 m4 m5 m6 m7) | (go_at_call 119; refine (CAN.out B d _ (by with_reducible repeat (first | exact HB.out | apply below_drew1)) (by repeat (first | exact HC.out | refine Kd.C_drew ?_)) HD.out).mono ?_; rintro r W3 ⟨rfl, hb0⟩; have hb : Below W2.heap.size W2 W3 := (by first | exact hb0 | exact (below_drew1 (Below.refl W2.heap.size W2)).trans hb0); clear hb0; replace BS := Aside0.mk (blk_below BS.out hb); replace BN := Aside0.mk (blk_below BN.out hb); replace HB := Aside0.mk (below_step HB.out hb); clear hb HC HD; clear s0 s1 s2 s3 s4 s5 m0 m1 m2 m3 m4 m5 m6 m7; have s0 := blk_cell BS.out 0; have s1 := blk_cell BS.out 1; have s2 := blk_cell BS.out 2; have s3 := blk_cell BS.out 3; have s4 := blk_cell BS.out 4; have s5 := blk_cell BS.out 5; have m0 := blk_cell BN.out 0; have m1 := blk_cell BN.out 1; have m2 := blk_cell BN.out 2; have m3 := blk_cell BN.out 3; have m4 := blk_cell BN.out 4; have m5 := blk_cell BN.out 5; have m6 := blk_cell BN.out 6; have m7 := blk_cell BN.out 7; simp only [List.getElem?_toArray, List.getElem?_cons_zero, List.getElem?_cons_succ] at s0 s1 s2 s3 s4 s5 m0 m1 m2 m3 m4 m5 m6 m7)) | fail)
     go_wp2_with fail
     go_ret
     rw [HE.out, HV.out]
     exact ⟨by simp, HB.out⟩
    ·
     have hv1 : decide ((40 : Int) < (v.length : Int)) = false := decide_eq_false (by omega)
     have HV := Aside0.mk (show decide (v.length ≤ 40) = true from decide_eq_true (by omega))
     clear hv
     (first | go_region_held3 (fun w' => w'.cell? ⟨w.heap.size, 0, none⟩ = some (.int .u64 e) ∧ w'.cell? ⟨w.heap.size, 1, none⟩ = some (.int .u64 g) ∧ w'.cell? ⟨w.heap.size, 2, none⟩ = some (.int .u64 n) ∧ w'.cell? ⟨w.heap.size, 3, none⟩ = some (.int .i64 t) ∧ w'.cell? ⟨w.heap.size, 4, none⟩ = some (.slice As xs.length cs) ∧ w'.cell? ⟨w.heap.size, 5, none⟩ = some (.slice (some ad) ns.length cn) ∧ w'.cell? ⟨w.heap.size + 1, 0, none⟩ = some (.slice A0 p.length c0) ∧ w'.cell? ⟨w.heap.size + 1, 1, none⟩ = some (.slice A1 v.length c1) ∧ w'.cell? ⟨w.heap.size + 1, 2, none⟩ = some (.int .u64 o) ∧ w'.cell? ⟨w.heap.size + 1, 3, none⟩ = some (.int .i64 m) ∧ w'.cell? ⟨w.heap.size + 1, 4, none⟩ = some (.slice A4 h.length c4) ∧ w'.cell? ⟨w.heap.size + 1, 5, none⟩ = some (.int .u64 ep) ∧ w'.cell? ⟨w.heap.size + 1, 6, none⟩ = some (.int .u64 ge) ∧ w'.cell? ⟨w.heap.size + 1, 7, none⟩ = some (.slice A7 wa.length c7)) (first | exact ⟨s0, s1, s2, s3, s4, s5, m0, m1, m2, m3, m4, m5, m6, m7⟩) (first | (go_at_call 120; refine (PAR.out _ (by with_reducible repeat (first | exact HB.out | apply below_drew1))).mono ?_; rintro r W2 ⟨B, d, rfl, hd, hC, hb0⟩; have hb : Below W1.heap.size W1 W2 := (by first | exact hb0 | exact (below_drew1 (Below.refl W1.heap.size W1)).trans hb0); clear hb0; replace BS := Aside0.mk (blk_below BS.out hb); replace BN := Aside0.mk (blk_below BN.out hb); replace HB := Aside0.mk (below_step HB.out hb); have HC := Aside0.mk hC; have HD := Aside0.mk hd; clear hb hC hd; clear s0 s1 s2 s3 s4 s5 m0 m1 m2 m3 m4 m5 m6 m7; have s0 := blk_cell BS.out 0; have s1 := blk_cell BS.out 1; have s2 := blk_cell BS.out 2; have s3 := blk_cell BS.out 3; have s4 := blk_cell BS.out 4; have s5 := blk_cell BS.out 5; have m0 := blk_cell BN.out 0; have m1 := blk_cell BN.out 1; have m2 := blk_cell BN.out 2; have m3 := blk_cell BN.out 3; have m4 := blk_cell BN.out 4; have m5 := blk_cell BN.out 5; have m6 := blk_cell BN.out 6; have m7 := blk_cell BN.out 7; simp only [List.getElem?_toArray, List.getElem?_cons_zero, List.getElem?_cons_succ] at s0 s1 s2 s3 s4 s5 m0 m1 m2 m3 m4 m5 m6 m7) | (go_at_call 119; refine (CAN.out B d _ (by with_reducible repeat (first | exact HB.out | apply below_drew1)) (by repeat (first | exact HC.out | refine Kd.C_drew ?_)) HD.out).mono ?_; rintro r W3 ⟨rfl, hb0⟩; have hb : Below W2.heap.size W2 W3 := (by first | exact hb0 | exact (below_drew1 (Below.refl W2.heap.size W2)).trans hb0); clear hb0; replace BS := Aside0.mk (blk_below BS.out hb); replace BN := Aside0.mk (blk_below BN.out hb); replace HB := Aside0.mk (below_step HB.out hb); clear hb HC HD; clear s0 s1 s2 s3 s4 s5 m0 m1 m2 m3 m4 m5 m6 m7; have s0 := blk_cell BS.out 0; have s1 := blk_cell BS.out 1; have s2 := blk_cell BS.out 2; have s3 := blk_cell BS.out 3; have s4 := blk_cell BS.out 4; have s5 := blk_cell BS.out 5; have m0 := blk_cell BN.out 0; have m1 := blk_cell BN.out 1; have m2 := blk_cell BN.out 2; have m3 := blk_cell BN.out 3; have m4 := blk_cell BN.out 4; have m5 := blk_cell BN.out 5; have m6 := blk_cell BN.out 6; have m7 := blk_cell BN.out 7; simp only [List.getElem?_toArray, List.getElem?_cons_zero, List.getElem?_cons_succ] at s0 s1 s2 s3 s4 s5 m0 m1 m2 m3 m4 m5 m6 m7)) | fail)
     by_cases h0 : o = 0
     ·
      subst h0
      have HO := Aside0.mk (show ((0 : Int) == 0) = true from rfl)
      go_wp2_with fail
      refine (ID4.out _ HB.out).mono ?_
      rintro r Wi ⟨rfl, hb⟩
      replace BS := Aside0.mk (blk_below BS.out hb)
      replace BN := Aside0.mk (blk_below BN.out hb)
      replace HB := Aside0.mk (below_step HB.out hb)
      clear hb
      clear s0 s1 s2 s3 s4 s5 m0 m1 m2 m3 m4 m5 m6 m7
      have s0 := blk_cell BS.out 0
      have s1 := blk_cell BS.out 1
      have s2 := blk_cell BS.out 2
      have s3 := blk_cell BS.out 3
      have s4 := blk_cell BS.out 4
      have s5 := blk_cell BS.out 5
      have m0 := blk_cell BN.out 0
      have m1 := blk_cell BN.out 1
      have m2 := blk_cell BN.out 2
      have m3 := blk_cell BN.out 3
      have m4 := blk_cell BN.out 4
      have m5 := blk_cell BN.out 5
      have m6 := blk_cell BN.out 6
      have m7 := blk_cell BN.out 7
      simp only [List.getElem?_toArray, List.getElem?_cons_zero, List.getElem?_cons_succ] at s0 s1 s2 s3 s4 s5 m0 m1 m2 m3 m4 m5 m6 m7
      cases b6 with
      | false =>
       go_wp2_with fail
       go_ret
       rw [HE.out, HO.out]
       exact ⟨by simp, HB.out⟩
      | true =>
       go_wp2_with fail
       refine (ID7.out _ HB.out).mono ?_
       rintro r Wj ⟨rfl, hb⟩
       replace BS := Aside0.mk (blk_below BS.out hb)
       replace BN := Aside0.mk (blk_below BN.out hb)
       replace HB := Aside0.mk (below_step HB.out hb)
       clear hb
       clear s0 s1 s2 s3 s4 s5 m0 m1 m2 m3 m4 m5 m6 m7
       have s0 := blk_cell BS.out 0
       have s1 := blk_cell BS.out 1
       have s2 := blk_cell BS.out 2
       have s3 := blk_cell BS.out 3
       have s4 := blk_cell BS.out 4
       have s5 := blk_cell BS.out 5
       have m0 := blk_cell BN.out 0
       have m1 := blk_cell BN.out 1
       have m2 := blk_cell BN.out 2
       have m3 := blk_cell BN.out 3
       have m4 := blk_cell BN.out 4
       have m5 := blk_cell BN.out 5
       have m6 := blk_cell BN.out 6
       have m7 := blk_cell BN.out 7
       simp only [List.getElem?_toArray, List.getElem?_cons_zero, List.getElem?_cons_succ] at s0 s1 s2 s3 s4 s5 m0 m1 m2 m3 m4 m5 m6 m7
       cases b7 with
       | false =>
        go_wp2_with fail
        go_ret
        rw [HE.out, HO.out]
        exact ⟨by simp, HB.out⟩
       | true =>
        go_wp2_with fail
        refine (LOC.out _ HB.out).mono ?_
        rintro r Wk ⟨rfl, hb⟩
        replace BS := Aside0.mk (blk_below BS.out hb)
        replace BN := Aside0.mk (blk_below BN.out hb)
        replace HB := Aside0.mk (below_step HB.out hb)
        clear hb
        clear s0 s1 s2 s3 s4 s5 m0 m1 m2 m3 m4 m5 m6 m7
        have s0 := blk_cell BS.out 0
        have s1 := blk_cell BS.out 1
        have s2 := blk_cell BS.out 2
        have s3 := blk_cell BS.out 3
        have s4 := blk_cell BS.out 4
        have s5 := blk_cell BS.out 5
        have m0 := blk_cell BN.out 0
        have m1 := blk_cell BN.out 1
        have m2 := blk_cell BN.out 2
        have m3 := blk_cell BN.out 3
        have m4 := blk_cell BN.out 4
        have m5 := blk_cell BN.out 5
        have m6 := blk_cell BN.out 6
        have m7 := blk_cell BN.out 7
        simp only [List.getElem?_toArray, List.getElem?_cons_zero, List.getElem?_cons_succ] at s0 s1 s2 s3 s4 s5 m0 m1 m2 m3 m4 m5 m6 m7
        go_wp2_with fail
        go_ret
        rw [HE.out, HO.out, HV.out]
        exact ⟨by simp, HB.out⟩
     ·
      have d0 : decide (o = 0) = false := decide_eq_false h0
      have d1 : (o == 0) = false := beq_eq_false_iff_ne.2 h0
      have HO := Aside0.mk d1
      clear d1
      go_wp2_with fail
      refine (LIV.out _ HB.out).mono ?_
      rintro r Wl ⟨rfl, hb⟩
      replace BS := Aside0.mk (blk_below BS.out hb)
      replace BN := Aside0.mk (blk_below BN.out hb)
      replace HB := Aside0.mk (below_step HB.out hb)
      clear hb
      clear s0 s1 s2 s3 s4 s5 m0 m1 m2 m3 m4 m5 m6 m7
      have s0 := blk_cell BS.out 0
      have s1 := blk_cell BS.out 1
      have s2 := blk_cell BS.out 2
      have s3 := blk_cell BS.out 3
      have s4 := blk_cell BS.out 4
      have s5 := blk_cell BS.out 5
      have m0 := blk_cell BN.out 0
      have m1 := blk_cell BN.out 1
      have m2 := blk_cell BN.out 2
      have m3 := blk_cell BN.out 3
      have m4 := blk_cell BN.out 4
      have m5 := blk_cell BN.out 5
      have m6 := blk_cell BN.out 6
      have m7 := blk_cell BN.out 7
      simp only [List.getElem?_toArray, List.getElem?_cons_zero, List.getElem?_cons_succ] at s0 s1 s2 s3 s4 s5 m0 m1 m2 m3 m4 m5 m6 m7
      cases b5 with
      | false =>
       go_wp2_with fail
       go_ret
       rw [HE.out, HO.out]
       exact ⟨by simp, HB.out⟩
      | true =>
       go_wp2_with fail
       refine (ID4.out _ HB.out).mono ?_
       rintro r Wi ⟨rfl, hb⟩
       replace BS := Aside0.mk (blk_below BS.out hb)
       replace BN := Aside0.mk (blk_below BN.out hb)
       replace HB := Aside0.mk (below_step HB.out hb)
       clear hb
       clear s0 s1 s2 s3 s4 s5 m0 m1 m2 m3 m4 m5 m6 m7
       have s0 := blk_cell BS.out 0
       have s1 := blk_cell BS.out 1
       have s2 := blk_cell BS.out 2
       have s3 := blk_cell BS.out 3
       have s4 := blk_cell BS.out 4
       have s5 := blk_cell BS.out 5
       have m0 := blk_cell BN.out 0
       have m1 := blk_cell BN.out 1
       have m2 := blk_cell BN.out 2
       have m3 := blk_cell BN.out 3
       have m4 := blk_cell BN.out 4
       have m5 := blk_cell BN.out 5
       have m6 := blk_cell BN.out 6
       have m7 := blk_cell BN.out 7
       simp only [List.getElem?_toArray, List.getElem?_cons_zero, List.getElem?_cons_succ] at s0 s1 s2 s3 s4 s5 m0 m1 m2 m3 m4 m5 m6 m7
       cases b6 with
       | false =>
        go_wp2_with fail
        go_ret
        rw [HE.out, HO.out]
        exact ⟨by simp, HB.out⟩
       | true =>
        go_wp2_with fail
        refine (ID7.out _ HB.out).mono ?_
        rintro r Wj ⟨rfl, hb⟩
        replace BS := Aside0.mk (blk_below BS.out hb)
        replace BN := Aside0.mk (blk_below BN.out hb)
        replace HB := Aside0.mk (below_step HB.out hb)
        clear hb
        clear s0 s1 s2 s3 s4 s5 m0 m1 m2 m3 m4 m5 m6 m7
        have s0 := blk_cell BS.out 0
        have s1 := blk_cell BS.out 1
        have s2 := blk_cell BS.out 2
        have s3 := blk_cell BS.out 3
        have s4 := blk_cell BS.out 4
        have s5 := blk_cell BS.out 5
        have m0 := blk_cell BN.out 0
        have m1 := blk_cell BN.out 1
        have m2 := blk_cell BN.out 2
        have m3 := blk_cell BN.out 3
        have m4 := blk_cell BN.out 4
        have m5 := blk_cell BN.out 5
        have m6 := blk_cell BN.out 6
        have m7 := blk_cell BN.out 7
        simp only [List.getElem?_toArray, List.getElem?_cons_zero, List.getElem?_cons_succ] at s0 s1 s2 s3 s4 s5 m0 m1 m2 m3 m4 m5 m6 m7
        cases b7 with
        | false =>
         go_wp2_with fail
         go_ret
         rw [HE.out, HO.out]
         exact ⟨by simp, HB.out⟩
        | true =>
         go_wp2_with fail
         refine (LOC.out _ HB.out).mono ?_
         rintro r Wk ⟨rfl, hb⟩
         replace BS := Aside0.mk (blk_below BS.out hb)
         replace BN := Aside0.mk (blk_below BN.out hb)
         replace HB := Aside0.mk (below_step HB.out hb)
         clear hb
         clear s0 s1 s2 s3 s4 s5 m0 m1 m2 m3 m4 m5 m6 m7
         have s0 := blk_cell BS.out 0
         have s1 := blk_cell BS.out 1
         have s2 := blk_cell BS.out 2
         have s3 := blk_cell BS.out 3
         have s4 := blk_cell BS.out 4
         have s5 := blk_cell BS.out 5
         have m0 := blk_cell BN.out 0
         have m1 := blk_cell BN.out 1
         have m2 := blk_cell BN.out 2
         have m3 := blk_cell BN.out 3
         have m4 := blk_cell BN.out 4
         have m5 := blk_cell BN.out 5
         have m6 := blk_cell BN.out 6
         have m7 := blk_cell BN.out 7
         simp only [List.getElem?_toArray, List.getElem?_cons_zero, List.getElem?_cons_succ] at s0 s1 s2 s3 s4 s5 m0 m1 m2 m3 m4 m5 m6 m7
         go_wp2_with fail
         go_ret
         rw [HE.out, HO.out, HV.out]
         exact ⟨by simp, HB.out⟩
  ·
   have di : decide (0 < i) = true := decide_eq_true (by omega)
   obtain ⟨Ap, cp, hpc1, hpc2⟩ := HPV.out (by omega)
   have wd0 := wrap_down i (by omega) (by omega)
   have wd3 : ((i - 1 : Nat) : Int) < (ns.length : Int) := by omega
   obtain ⟨j, hj⟩ : ∃ j, i - 1 = j := ⟨_, rfl⟩
   rw [hj] at wd0 wd3 hpc1
   have wd := (i64_w ((i : Int) - 1)).trans wd0
   have wd2 : (0 : Int) ≤ (j : Int) := by omega
   have HPC := Aside0.mk (And.intro hpc1 hpc2)
   have HI0 := Aside0.mk (show (i == 0) = false from beq_eq_false_iff_ne.2 hi0)
   clear wd0 hj hi0 hpc1 hpc2
   have CF : Aside0 (∀ w' : World, BelowOf W0 w' → (w'.cell? ⟨w.heap.size, 0, none⟩ = some (.int .u64 e) ∧ w'.cell? ⟨w.heap.size, 1, none⟩ = some (.int .u64 g) ∧ w'.cell? ⟨w.heap.size, 2, none⟩ = some (.int .u64 n) ∧ w'.cell? ⟨w.heap.size, 3, none⟩ = some (.int .i64 t) ∧ w'.cell? ⟨w.heap.size, 4, none⟩ = some (.slice As xs.length cs) ∧ w'.cell? ⟨w.heap.size, 5, none⟩ = some (.slice (some ad) ns.length cn) ∧ w'.cell? ⟨w.heap.size + 1, 0, none⟩ = some (.slice A0 p.length c0) ∧ w'.cell? ⟨w.heap.size + 1, 1, none⟩ = some (.slice A1 v.length c1) ∧ w'.cell? ⟨w.heap.size + 1, 2, none⟩ = some (.int .u64 o) ∧ w'.cell? ⟨w.heap.size + 1, 3, none⟩ = some (.int .i64 m) ∧ w'.cell? ⟨w.heap.size + 1, 4, none⟩ = some (.slice A4 h.length c4) ∧ w'.cell? ⟨w.heap.size + 1, 5, none⟩ = some (.int .u64 ep) ∧ w'.cell? ⟨w.heap.size + 1, 6, none⟩ = some (.int .u64 ge) ∧ w'.cell? ⟨w.heap.size + 1, 7, none⟩ = some (.slice A7 wa.length c7))) := ⟨fun w' hC => ⟨(hC.out.cell (World.block_lt_of_cell? _ _ s0)).trans s0, (hC.out.cell (World.block_lt_of_cell? _ _ s1)).trans s1, (hC.out.cell (World.block_lt_of_cell? _ _ s2)).trans s2, (hC.out.cell (World.block_lt_of_cell? _ _ s3)).trans s3, (hC.out.cell (World.block_lt_of_cell? _ _ s4)).trans s4, (hC.out.cell (World.block_lt_of_cell? _ _ s5)).trans s5, (hC.out.cell (World.block_lt_of_cell? _ _ m0)).trans m0, (hC.out.cell (World.block_lt_of_cell? _ _ m1)).trans m1, (hC.out.cell (World.block_lt_of_cell? _ _ m2)).trans m2, (hC.out.cell (World.block_lt_of_cell? _ _ m3)).trans m3, (hC.out.cell (World.block_lt_of_cell? _ _ m4)).trans m4, (hC.out.cell (World.block_lt_of_cell? _ _ m5)).trans m5, (hC.out.cell (World.block_lt_of_cell? _ _ m6)).trans m6, (hC.out.cell (World.block_lt_of_cell? _ _ m7)).trans m7⟩⟩
   have VP1 := Aside0.mk (fun (w' : World) (hC : BelowOf W0 w') => (VP.out w' (below_step HB.out hC.out)).mono (fun e w'' h => show e = .returned (.bool true) ∧ BelowOf W0 w'' from ⟨h.1, ⟨below_step hC.out h.2⟩⟩))
   clear s0 s1 s2 s3 s4 s5 m0 m1 m2 m3 m4 m5 m6 m7
   refine wp_region_below (by kernel_rfl) (by kernel_rfl) ?_
   repeat (first | go_big_quiet_skip | (go_big_quiet_want; rename_i K hK; refine quiet_mk (v := ?_) ?_ (hK _ ?_); rotate_left 1; (focus (intro w' hC; first | (go_simp; first | done | with_reducible rfl) | (obtain ⟨s0, s1, s2, s3, s4, s5, m0, m1, m2, m3, m4, m5, m6, m7⟩ := CF.out w' hC; go_simp; first | done | with_reducible rfl) | (have hp0 := ((below_step HB.out hC.out).cell (World.block_lt_of_cell? w _ HPC.out.1)).trans HPC.out.1; go_simp; first | done | with_reducible rfl) | (have hcv1 := Kd.C_string (P := Tryz.prog) (A := A0) (c := c0) Tryz.underlying38 Tryz.underlying5 Tryz.underlying9 (Kd.C_below HP.out (below_step HB.out hC.out)); go_simp; first | done | with_reducible rfl) | (have hcv2 := Kd.C_string (P := Tryz.prog) (A := Ap) (c := cp) Tryz.underlying38 Tryz.underlying5 Tryz.underlying9 (Kd.C_below HPC.out.2 (below_step HB.out hC.out)); go_simp; first | done | with_reducible rfl) | (have hle := HLE.out; go_simp; first | done | with_reducible rfl) | (go_simp; go_at_call 118; exact VP1.out w' hC))); clear hK K); try simp only [Act.put, List.setIfInBounds_toArray, List.set_cons_zero, List.set_cons_succ])
   refine wpQuiet_nil ?_
   intro W1 hb1
   have hb := hb1.out
   clear hb1 CF VP1
   replace BS := Aside0.mk (blk_below BS.out hb)
   replace BN := Aside0.mk (blk_below BN.out hb)
   replace HB := Aside0.mk (below_step HB.out hb)
   clear hb
   have s0 := blk_cell BS.out 0
   have s1 := blk_cell BS.out 1
   have s2 := blk_cell BS.out 2
   have s3 := blk_cell BS.out 3
   have s4 := blk_cell BS.out 4
   have s5 := blk_cell BS.out 5
   have m0 := blk_cell BN.out 0
   have m1 := blk_cell BN.out 1
   have m2 := blk_cell BN.out 2
   have m3 := blk_cell BN.out 3
   have m4 := blk_cell BN.out 4
   have m5 := blk_cell BN.out 5
   have m6 := blk_cell BN.out 6
   have m7 := blk_cell BN.out 7
   simp only [List.getElem?_toArray, List.getElem?_cons_zero, List.getElem?_cons_succ] at s0 s1 s2 s3 s4 s5 m0 m1 m2 m3 m4 m5 m6 m7
   rw [HLE.out]
   clear HLE
   cases b2 with
   | true =>
    go_wp2_with fail
    go_ret
    rw [HE.out, HI0.out]
    exact ⟨by simp, HB.out⟩
   | false =>
    rw [HI0.out] at HE
    go_wp2_with fail
    cases b3 with
    | false =>
     (first | go_region_with (first | (go_at_call 120; refine (PAR.out _ (by with_reducible repeat (first | exact HB.out | apply below_drew1))).mono ?_; rintro r W2 ⟨B, d, rfl, hd, hC, hb0⟩; have hb : Below W1.heap.size W1 W2 := (by first | exact hb0 | exact (below_drew1 (Below.refl W1.heap.size W1)).trans hb0); clear hb0; replace BS := Aside0.mk (blk_below BS.out hb); replace BN := Aside0.mk (blk_below BN.out hb); replace HB := Aside0.mk (below_step HB.out hb); have HC := Aside0.mk hC; have HD := Aside0.mk hd; clear hb hC hd; clear s0 s1 s2 s3 s4 s5 m0 m1 m2 m3 m4 m5 m6 m7; have s0 := blk_cell BS.out 0; have s1 := blk_cell BS.out 1; have s2 := blk_cell BS.out 2; have s3 := blk_cell BS.out 3; have s4 := blk_cell BS.out 4; have s5 := blk_cell BS.out 5; have m0 := blk_cell BN.out 0; have m1 := blk_cell BN.out 1; have m2 := blk_cell BN.out 2; have m3 := blk_cell BN.out 3; have m4 := blk_cell BN.out 4; have m5 := blk_cell BN.out 5; have m6 := blk_cell BN.out 6; have m7 := blk_cell BN.out 7; simp only [List.getElem?_toArray, List.getElem?_cons_zero, List.getElem?_cons_succ] at s0 s1 s2 s3 s4 s5 m0 m1 m2 m3 m4 m5 m6 m7) | (go_at_call 119; refine (CAN.out B d _ (by with_reducible repeat (first | exact HB.out | apply below_drew1)) (by repeat (first | exact HC.out | refine Kd.C_drew ?_)) HD.out).mono ?_; rintro r W3 ⟨rfl, hb0⟩; have hb : Below W2.heap.size W2 W3 := (by first | exact hb0 | exact (below_drew1 (Below.refl W2.heap.size W2)).trans hb0); clear hb0; replace BS := Aside0.mk (blk_below BS.out hb); replace BN := Aside0.mk (blk_below BN.out hb); replace HB := Aside0.mk (below_step HB.out hb); clear hb HC HD; clear s0 s1 s2 s3 s4 s5 m0 m1 m2 m3 m4 m5 m6 m7; have s0 := blk_cell BS.out 0; have s1 := blk_cell BS.out 1; have s2 := blk_cell BS.out 2; have s3 := blk_cell BS.out 3; have s4 := blk_cell BS.out 4; have s5 := blk_cell BS.out 5; have m0 := blk_cell BN.out 0; have m1 := blk_cell BN.out 1; have m2 := blk_cell BN.out 2; have m3 := blk_cell BN.out 3; have m4 := blk_cell BN.out 4; have m5 := blk_cell BN.out 5; have m6 := blk_cell BN.out 6; have m7 := blk_cell BN.out 7; simp only [List.getElem?_toArray, List.getElem?_cons_zero, List.getElem?_cons_succ] at s0 s1 s2 s3 s4 s5 m0 m1 m2 m3 m4 m5 m6 m7)) | fail)
     all_goals (go_wp2_with fail; go_ret; rw [HE.out]; exact ⟨by simp, HB.out⟩)
    | true =>
     by_cases hv : 40 < v.length
     ·
      have hv1 : decide ((40 : Int) < (v.length : Int)) = true := decide_eq_true (by omega)
      have HV := Aside0.mk (show decide (v.length ≤ 40) = false from decide_eq_false (by omega))
      clear hv
      (first | go_region_held3 (fun w' => w'.cell? ⟨w.heap.size, 0, none⟩ = some (.int .u64 e) ∧ w'.cell? ⟨w.heap.size, 1, none⟩ = some (.int .u64 g) ∧ w'.cell? ⟨w.heap.size, 2, none⟩ = some (.int .u64 n) ∧ w'.cell? ⟨w.heap.size, 3, none⟩ = some (.int .i64 t) ∧ w'.cell? ⟨w.heap.size, 4, none⟩ = some (.slice As xs.length cs) ∧ w'.cell? ⟨w.heap.size, 5, none⟩ = some (.slice (some ad) ns.length cn) ∧ w'.cell? ⟨w.heap.size + 1, 0, none⟩ = some (.slice A0 p.length c0) ∧ w'.cell? ⟨w.heap.size + 1, 1, none⟩ = some (.slice A1 v.length c1) ∧ w'.cell? ⟨w.heap.size + 1, 2, none⟩ = some (.int .u64 o) ∧ w'.cell? ⟨w.heap.size + 1, 3, none⟩ = some (.int .i64 m) ∧ w'.cell? ⟨w.heap.size + 1, 4, none⟩ = some (.slice A4 h.length c4) ∧ w'.cell? ⟨w.heap.size + 1, 5, none⟩ = some (.int .u64 ep) ∧ w'.cell? ⟨w.heap.size + 1, 6, none⟩ = some (.int .u64 ge) ∧ w'.cell? ⟨w.heap.size + 1, 7, none⟩ = some (.slice A7 wa.length c7)) (first | exact ⟨s0, s1, s2, s3, s4, s5, m0, m1, m2, m3, m4, m5, m6, m7⟩) (first | (go_at_call 120; refine (PAR.out _ (by with_reducible repeat (first | exact HB.out | apply below_drew1))).mono ?_; rintro r W2 ⟨B, d, rfl, hd, hC, hb0⟩; have hb : Below W1.heap.size W1 W2 := (by first | exact hb0 | exact (below_drew1 (Below.refl W1.heap.size W1)).trans hb0); clear hb0; replace BS := Aside0.mk (blk_below BS.out hb); replace BN := Aside0.mk (blk_below BN.out hb); replace HB := Aside0.mk (below_step HB.out hb); have HC := Aside0.mk hC; have HD := Aside0.mk hd; clear hb hC hd; clear s0 s1 s2 s3 s4 s5 m0 m1 m2 m3 m4 m5 m6 m7; have s0 := blk_cell BS.out 0; have s1 := blk_cell BS.out 1; have s2 := blk_cell BS.out 2; have s3 := blk_cell BS.out 3; have s4 := blk_cell BS.out 4; have s5 := blk_cell BS.out 5; have m0 := blk_cell BN.out 0; have m1 := blk_cell BN.out 1; have m2 := blk_cell BN.out 2; have m3 := blk_cell BN.out 3; have m4 := blk_cell BN.out 4; have m5 := blk_cell BN.out 5; have m6 := blk_cell BN.out 6; have m7 := blk_cell BN.out 7; simp only [List.getElem?_toArray, List.getElem?_cons_zero, List.getElem?_cons_succ] at s0 s1 s2 s3 s4 s5 m0 m1 m2 m3 m4 m5 m6 m7) | (go_at_call 119; refine (CAN.out B d _ (by with_reducible repeat (first | exact HB.out | apply below_drew1)) (by repeat (first | exact HC.out | refine Kd.C_drew ?_)) HD.out).mono ?_; rintro r W3 ⟨rfl, hb0⟩; have hb : Below W2.heap.size W2 W3 := (by first | exact hb0 | exact (below_drew1 (Below.refl W2.heap.size W2)).trans hb0); clear hb0; replace BS := Aside0.mk (blk_below BS.out hb); replace BN := Aside0.mk (blk_below BN.out hb); replace HB := Aside0.mk (below_step HB.out hb); clear hb HC HD; clear s0 s1 s2 s3 s4 s5 m0 m1 m2 m3 m4 m5 m6 m7; have s0 := blk_cell BS.out 0; have s1 := blk_cell BS.out 1; have s2 := blk_cell BS.out 2; have s3 := blk_cell BS.out 3; have s4 := blk_cell BS.out 4; have s5 := blk_cell BS.out 5; have m0 := blk_cell BN.out 0; have m1 := blk_cell BN.out 1; have m2 := blk_cell BN.out 2; have m3 := blk_cell BN.out 3; have m4 := blk_cell BN.out 4; have m5 := blk_cell BN.out 5; have m6 := blk_cell BN.out 6; have m7 := blk_cell BN.out 7; simp only [List.getElem?_toArray, List.getElem?_cons_zero, List.getElem?_cons_succ] at s0 s1 s2 s3 s4 s5 m0 m1 m2 m3 m4 m5 m6 m7)) | fail)
      go_wp2_with fail
      go_ret
      rw [HE.out, HV.out]
      exact ⟨by simp, HB.out⟩
     ·
      have hv1 : decide ((40 : Int) < (v.length : Int)) = false := decide_eq_false (by omega)
      have HV := Aside0.mk (show decide (v.length ≤ 40) = true from decide_eq_true (by omega))
      clear hv
      (first | go_region_held3 (fun w' => w'.cell? ⟨w.heap.size, 0, none⟩ = some (.int .u64 e) ∧ w'.cell? ⟨w.heap.size, 1, none⟩ = some (.int .u64 g) ∧ w'.cell? ⟨w.heap.size, 2, none⟩ = some (.int .u64 n) ∧ w'.cell? ⟨w.heap.size, 3, none⟩ = some (.int .i64 t) ∧ w'.cell? ⟨w.heap.size, 4, none⟩ = some (.slice As xs.length cs) ∧ w'.cell? ⟨w.heap.size, 5, none⟩ = some (.slice (some ad) ns.length cn) ∧ w'.cell? ⟨w.heap.size + 1, 0, none⟩ = some (.slice A0 p.length c0) ∧ w'.cell? ⟨w.heap.size + 1, 1, none⟩ = some (.slice A1 v.length c1) ∧ w'.cell? ⟨w.heap.size + 1, 2, none⟩ = some (.int .u64 o) ∧ w'.cell? ⟨w.heap.size + 1, 3, none⟩ = some (.int .i64 m) ∧ w'.cell? ⟨w.heap.size + 1, 4, none⟩ = some (.slice A4 h.length c4) ∧ w'.cell? ⟨w.heap.size + 1, 5, none⟩ = some (.int .u64 ep) ∧ w'.cell? ⟨w.heap.size + 1, 6, none⟩ = some (.int .u64 ge) ∧ w'.cell? ⟨w.heap.size + 1, 7, none⟩ = some (.slice A7 wa.length c7)) (first | exact ⟨s0, s1, s2, s3, s4, s5, m0, m1, m2, m3, m4, m5, m6, m7⟩) (first | (go_at_call 120; refine (PAR.out _ (by with_reducible repeat (first | exact HB.out | apply below_drew1))).mono ?_; rintro r W2 ⟨B, d, rfl, hd, hC, hb0⟩; have hb : Below W1.heap.size W1 W2 := (by first | exact hb0 | exact (below_drew1 (Below.refl W1.heap.size W1)).trans hb0); clear hb0; replace BS := Aside0.mk (blk_below BS.out hb); replace BN := Aside0.mk (blk_below BN.out hb); replace HB := Aside0.mk (below_step HB.out hb); have HC := Aside0.mk hC; have HD := Aside0.mk hd; clear hb hC hd; clear s0 s1 s2 s3 s4 s5 m0 m1 m2 m3 m4 m5 m6 m7; have s0 := blk_cell BS.out 0; have s1 := blk_cell BS.out 1; have s2 := blk_cell BS.out 2; have s3 := blk_cell BS.out 3; have s4 := blk_cell BS.out 4; have s5 := blk_cell BS.out 5; have m0 := blk_cell BN.out 0; have m1 := blk_cell BN.out 1; have m2 := blk_cell BN.out 2; have m3 := blk_cell BN.out 3; have m4 := blk_cell BN.out 4; have m5 := blk_cell BN.out 5; have m6 := blk_cell BN.out 6; have m7 := blk_cell BN.out 7; simp only [List.getElem?_toArray, List.getElem?_cons_zero, List.getElem?_cons_succ] at s0 s1 s2 s3 s4 s5 m0 m1 m2 m3 m4 m5 m6 m7) | (go_at_call 119; refine (CAN.out B d _ (by with_reducible repeat (first | exact HB.out | apply below_drew1)) (by repeat (first | exact HC.out | refine Kd.C_drew ?_)) HD.out).mono ?_; rintro r W3 ⟨rfl, hb0⟩; have hb : Below W2.heap.size W2 W3 := (by first | exact hb0 | exact (below_drew1 (Below.refl W2.heap.size W2)).trans hb0); clear hb0; replace BS := Aside0.mk (blk_below BS.out hb); replace BN := Aside0.mk (blk_below BN.out hb); replace HB := Aside0.mk (below_step HB.out hb); clear hb HC HD; clear s0 s1 s2 s3 s4 s5 m0 m1 m2 m3 m4 m5 m6 m7; have s0 := blk_cell BS.out 0; have s1 := blk_cell BS.out 1; have s2 := blk_cell BS.out 2; have s3 := blk_cell BS.out 3; have s4 := blk_cell BS.out 4; have s5 := blk_cell BS.out 5; have m0 := blk_cell BN.out 0; have m1 := blk_cell BN.out 1; have m2 := blk_cell BN.out 2; have m3 := blk_cell BN.out 3; have m4 := blk_cell BN.out 4; have m5 := blk_cell BN.out 5; have m6 := blk_cell BN.out 6; have m7 := blk_cell BN.out 7; simp only [List.getElem?_toArray, List.getElem?_cons_zero, List.getElem?_cons_succ] at s0 s1 s2 s3 s4 s5 m0 m1 m2 m3 m4 m5 m6 m7)) | fail)
      by_cases h0 : o = 0
      ·
       subst h0
       have HO := Aside0.mk (show ((0 : Int) == 0) = true from rfl)
       go_wp2_with fail
       refine (ID4.out _ HB.out).mono ?_
       rintro r Wi ⟨rfl, hb⟩
       replace BS := Aside0.mk (blk_below BS.out hb)
       replace BN := Aside0.mk (blk_below BN.out hb)
       replace HB := Aside0.mk (below_step HB.out hb)
       clear hb
       clear s0 s1 s2 s3 s4 s5 m0 m1 m2 m3 m4 m5 m6 m7
       have s0 := blk_cell BS.out 0
       have s1 := blk_cell BS.out 1
       have s2 := blk_cell BS.out 2
       have s3 := blk_cell BS.out 3
       have s4 := blk_cell BS.out 4
       have s5 := blk_cell BS.out 5
       have m0 := blk_cell BN.out 0
       have m1 := blk_cell BN.out 1
       have m2 := blk_cell BN.out 2
       have m3 := blk_cell BN.out 3
       have m4 := blk_cell BN.out 4
       have m5 := blk_cell BN.out 5
       have m6 := blk_cell BN.out 6
       have m7 := blk_cell BN.out 7
       simp only [List.getElem?_toArray, List.getElem?_cons_zero, List.getElem?_cons_succ] at s0 s1 s2 s3 s4 s5 m0 m1 m2 m3 m4 m5 m6 m7
       cases b6 with
       | false =>
        go_wp2_with fail
        go_ret
        rw [HE.out, HO.out]
        exact ⟨by simp, HB.out⟩
       | true =>
        go_wp2_with fail
        refine (ID7.out _ HB.out).mono ?_
        rintro r Wj ⟨rfl, hb⟩
        replace BS := Aside0.mk (blk_below BS.out hb)
        replace BN := Aside0.mk (blk_below BN.out hb)
        replace HB := Aside0.mk (below_step HB.out hb)
        clear hb
        clear s0 s1 s2 s3 s4 s5 m0 m1 m2 m3 m4 m5 m6 m7
        have s0 := blk_cell BS.out 0
        have s1 := blk_cell BS.out 1
        have s2 := blk_cell BS.out 2
        have s3 := blk_cell BS.out 3
        have s4 := blk_cell BS.out 4
        have s5 := blk_cell BS.out 5
        have m0 := blk_cell BN.out 0
        have m1 := blk_cell BN.out 1
        have m2 := blk_cell BN.out 2
        have m3 := blk_cell BN.out 3
        have m4 := blk_cell BN.out 4
        have m5 := blk_cell BN.out 5
        have m6 := blk_cell BN.out 6
        have m7 := blk_cell BN.out 7
        simp only [List.getElem?_toArray, List.getElem?_cons_zero, List.getElem?_cons_succ] at s0 s1 s2 s3 s4 s5 m0 m1 m2 m3 m4 m5 m6 m7
        cases b7 with
        | false =>
         go_wp2_with fail
         go_ret
         rw [HE.out, HO.out]
         exact ⟨by simp, HB.out⟩
        | true =>
         go_wp2_with fail
         refine (LOC.out _ HB.out).mono ?_
         rintro r Wk ⟨rfl, hb⟩
         replace BS := Aside0.mk (blk_below BS.out hb)
         replace BN := Aside0.mk (blk_below BN.out hb)
         replace HB := Aside0.mk (below_step HB.out hb)
         clear hb
         clear s0 s1 s2 s3 s4 s5 m0 m1 m2 m3 m4 m5 m6 m7
         have s0 := blk_cell BS.out 0
         have s1 := blk_cell BS.out 1
         have s2 := blk_cell BS.out 2
         have s3 := blk_cell BS.out 3
         have s4 := blk_cell BS.out 4
         have s5 := blk_cell BS.out 5
         have m0 := blk_cell BN.out 0
         have m1 := blk_cell BN.out 1
         have m2 := blk_cell BN.out 2
         have m3 := blk_cell BN.out 3
         have m4 := blk_cell BN.out 4
         have m5 := blk_cell BN.out 5
         have m6 := blk_cell BN.out 6
         have m7 := blk_cell BN.out 7
         simp only [List.getElem?_toArray, List.getElem?_cons_zero, List.getElem?_cons_succ] at s0 s1 s2 s3 s4 s5 m0 m1 m2 m3 m4 m5 m6 m7
         go_wp2_with fail
         go_ret
         rw [HE.out, HO.out, HV.out]
         exact ⟨by simp, HB.out⟩
      ·
       have d0 : decide (o = 0) = false := decide_eq_false h0
       have d1 : (o == 0) = false := beq_eq_false_iff_ne.2 h0
       have HO := Aside0.mk d1
       clear d1
       go_wp2_with fail
       refine (LIV.out _ HB.out).mono ?_
       rintro r Wl ⟨rfl, hb⟩
       replace BS := Aside0.mk (blk_below BS.out hb)
       replace BN := Aside0.mk (blk_below BN.out hb)
       replace HB := Aside0.mk (below_step HB.out hb)
       clear hb
       clear s0 s1 s2 s3 s4 s5 m0 m1 m2 m3 m4 m5 m6 m7
       have s0 := blk_cell BS.out 0
       have s1 := blk_cell BS.out 1
       have s2 := blk_cell BS.out 2
       have s3 := blk_cell BS.out 3
       have s4 := blk_cell BS.out 4
       have s5 := blk_cell BS.out 5
       have m0 := blk_cell BN.out 0
       have m1 := blk_cell BN.out 1
       have m2 := blk_cell BN.out 2
       have m3 := blk_cell BN.out 3
       have m4 := blk_cell BN.out 4
       have m5 := blk_cell BN.out 5
       have m6 := blk_cell BN.out 6
       have m7 := blk_cell BN.out 7
       simp only [List.getElem?_toArray, List.getElem?_cons_zero, List.getElem?_cons_succ] at s0 s1 s2 s3 s4 s5 m0 m1 m2 m3 m4 m5 m6 m7
       cases b5 with
       | false =>
        go_wp2_with fail
        go_ret
        rw [HE.out, HO.out]
        exact ⟨by simp, HB.out⟩
       | true =>
        go_wp2_with fail
        refine (ID4.out _ HB.out).mono ?_
        rintro r Wi ⟨rfl, hb⟩
        replace BS := Aside0.mk (blk_below BS.out hb)
        replace BN := Aside0.mk (blk_below BN.out hb)
        replace HB := Aside0.mk (below_step HB.out hb)
        clear hb
        clear s0 s1 s2 s3 s4 s5 m0 m1 m2 m3 m4 m5 m6 m7
        have s0 := blk_cell BS.out 0
        have s1 := blk_cell BS.out 1
        have s2 := blk_cell BS.out 2
        have s3 := blk_cell BS.out 3
        have s4 := blk_cell BS.out 4
        have s5 := blk_cell BS.out 5
        have m0 := blk_cell BN.out 0
        have m1 := blk_cell BN.out 1
        have m2 := blk_cell BN.out 2
        have m3 := blk_cell BN.out 3
        have m4 := blk_cell BN.out 4
        have m5 := blk_cell BN.out 5
        have m6 := blk_cell BN.out 6
        have m7 := blk_cell BN.out 7
        simp only [List.getElem?_toArray, List.getElem?_cons_zero, List.getElem?_cons_succ] at s0 s1 s2 s3 s4 s5 m0 m1 m2 m3 m4 m5 m6 m7
        cases b6 with
        | false =>
         go_wp2_with fail
         go_ret
         rw [HE.out, HO.out]
         exact ⟨by simp, HB.out⟩
        | true =>
         go_wp2_with fail
         refine (ID7.out _ HB.out).mono ?_
         rintro r Wj ⟨rfl, hb⟩
         replace BS := Aside0.mk (blk_below BS.out hb)
         replace BN := Aside0.mk (blk_below BN.out hb)
         replace HB := Aside0.mk (below_step HB.out hb)
         clear hb
         clear s0 s1 s2 s3 s4 s5 m0 m1 m2 m3 m4 m5 m6 m7
         have s0 := blk_cell BS.out 0
         have s1 := blk_cell BS.out 1
         have s2 := blk_cell BS.out 2
         have s3 := blk_cell BS.out 3
         have s4 := blk_cell BS.out 4
         have s5 := blk_cell BS.out 5
         have m0 := blk_cell BN.out 0
         have m1 := blk_cell BN.out 1
         have m2 := blk_cell BN.out 2
         have m3 := blk_cell BN.out 3
         have m4 := blk_cell BN.out 4
         have m5 := blk_cell BN.out 5
         have m6 := blk_cell BN.out 6
         have m7 := blk_cell BN.out 7
         simp only [List.getElem?_toArray, List.getElem?_cons_zero, List.getElem?_cons_succ] at s0 s1 s2 s3 s4 s5 m0 m1 m2 m3 m4 m5 m6 m7
         cases b7 with
         | false =>
          go_wp2_with fail
          go_ret
          rw [HE.out, HO.out]
          exact ⟨by simp, HB.out⟩
         | true =>
          go_wp2_with fail
          refine (LOC.out _ HB.out).mono ?_
          rintro r Wk ⟨rfl, hb⟩
          replace BS := Aside0.mk (blk_below BS.out hb)
          replace BN := Aside0.mk (blk_below BN.out hb)
          replace HB := Aside0.mk (below_step HB.out hb)
          clear hb
          clear s0 s1 s2 s3 s4 s5 m0 m1 m2 m3 m4 m5 m6 m7
          have s0 := blk_cell BS.out 0
          have s1 := blk_cell BS.out 1
          have s2 := blk_cell BS.out 2
          have s3 := blk_cell BS.out 3
          have s4 := blk_cell BS.out 4
          have s5 := blk_cell BS.out 5
          have m0 := blk_cell BN.out 0
          have m1 := blk_cell BN.out 1
          have m2 := blk_cell BN.out 2
          have m3 := blk_cell BN.out 3
          have m4 := blk_cell BN.out 4
          have m5 := blk_cell BN.out 5
          have m6 := blk_cell BN.out 6
          have m7 := blk_cell BN.out 7
          simp only [List.getElem?_toArray, List.getElem?_cons_zero, List.getElem?_cons_succ] at s0 s1 s2 s3 s4 s5 m0 m1 m2 m3 m4 m5 m6 m7
          go_wp2_with fail
          go_ret
          rw [HE.out, HO.out, HV.out]
          exact ⟨by simp, HB.out⟩
end Go.Proofs.YtbgbocdohadhoaaGreatDoor.Print
