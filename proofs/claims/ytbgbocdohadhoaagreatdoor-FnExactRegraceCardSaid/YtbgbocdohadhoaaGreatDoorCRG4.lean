/- Texts of this session, joined by its own program. -/
import Derived.Test.YtbgbocdohadhoaaGreatDoorCRG3
namespace Go.Proofs.YtbgbocdohadhoaaGreatDoor.Print
open Go Go.RowKit Go.Proofs.YtbgbocdohadhoaaGreatDoorW.PrintWords Go.Proofs.YtbgbocdohadhoaaGreatDoorW.PrintLast Go.Proofs.YtbgbocdohadhoaaGreatDoorW.PrintMore
set_option linter.unusedVariables false
set_option linter.unusedSimpArgs false
def durSe (x : Se) : Se := ⟨x.f0, 0, []⟩
def durNo (x : No) : No := ⟨x.f0, x.f1, x.f2, x.f3, x.f4, x.f5, x.f6, []⟩
set_option maxHeartbeats 4000000 in
set_option maxRecDepth 100000 in
theorem durable_ok (e g n t : Int) (As : Option Addr) (cs : Nat) (xs : List Se) (An : Option Addr) (cn : Nat) (ns : List No) (w : World) (h1 : Kd.C kSe w As xs.length xs) (hc1 : xs.length ≤ cs) (h2 : Kd.C kNo w An ns.length ns) (hc2 : ns.length ≤ cn) (hs : SmS xs ns) :
  Calls Tryz.prog 68 #[.agg #[.int .u64 e, .int .u64 g, .int .u64 n, .int .i64 t, .slice As xs.length cs, .slice An ns.length cn]] w fun r w' => ∃ Bs ds Bn dn, r = .returned (.agg #[.int .u64 e, .int .u64 g, .int .u64 n, .int .i64 0, .slice Bs (xs.map durSe).length ds, .slice Bn (ns.map durNo).length dn]) ∧ SK w w' w.heap.size w'.heap.size Bs ds (xs.map durSe) Bn dn (ns.map durNo) ∧ Below w.heap.size w w' := by
 have H1 := Aside0.mk h1
 have H2 := Aside0.mk h2
 have HS := Aside0.mk hs
 have hxl := hs.x
 have hnl := hs.n
 clear h1 hc1 h2 hc2 hs
 go_enter Tryz.func68, Tryz.ntmps68
 go_upto_region 2 with (fail)
 have bs := blk_alloc (blk_alloc (blk_new w (.cells #[.int .u64 e, .int .u64 g, .int .u64 n, .int .i64 t, .slice As xs.length cs, .slice An ns.length cn] 31)) (.cells #[.int .u64 0, .int .u64 0, .int .u64 0, .int .i64 0, .slice none 0 0, .slice none 0 0] 31)) (.cells #[.int .u64 e, .int .u64 g, .int .u64 n, .int .i64 0, .slice none 0 0, .slice none 0 0] 31)
 have bz := blk_alloc (blk_new (w.alloc (.cells #[.int .u64 e, .int .u64 g, .int .u64 n, .int .i64 t, .slice As xs.length cs, .slice An ns.length cn] 31)) (.cells #[.int .u64 0, .int .u64 0, .int .u64 0, .int .i64 0, .slice none 0 0, .slice none 0 0] 31)) (.cells #[.int .u64 e, .int .u64 g, .int .u64 n, .int .i64 0, .slice none 0 0, .slice none 0 0] 31)
 have bo := blk_new ((w.alloc (.cells #[.int .u64 e, .int .u64 g, .int .u64 n, .int .i64 t, .slice As xs.length cs, .slice An ns.length cn] 31)).alloc (.cells #[.int .u64 0, .int .u64 0, .int .u64 0, .int .i64 0, .slice none 0 0, .slice none 0 0] 31)) (.cells #[.int .u64 e, .int .u64 g, .int .u64 n, .int .i64 0, .slice none 0 0, .slice none 0 0] 31)
 have hB := below_alloc (below_alloc (below_alloc (Below.refl w.heap.size w) (.cells #[.int .u64 e, .int .u64 g, .int .u64 n, .int .i64 t, .slice As xs.length cs, .slice An ns.length cn] 31)) (.cells #[.int .u64 0, .int .u64 0, .int .u64 0, .int .i64 0, .slice none 0 0, .slice none 0 0] 31)) (.cells #[.int .u64 e, .int .u64 g, .int .u64 n, .int .i64 0, .slice none 0 0, .slice none 0 0] 31)
 simp only [World.size_alloc] at bz bo
 generalize ((w.alloc (.cells #[.int .u64 e, .int .u64 g, .int .u64 n, .int .i64 t, .slice As xs.length cs, .slice An ns.length cn] 31)).alloc (.cells #[.int .u64 0, .int .u64 0, .int .u64 0, .int .i64 0, .slice none 0 0, .slice none 0 0] 31)).alloc (.cells #[.int .u64 e, .int .u64 g, .int .u64 n, .int .i64 0, .slice none 0 0, .slice none 0 0] 31) = W0 at *
 have BS := Aside0.mk bs
 have BZ := Aside0.mk bz
 have BO := Aside0.mk bo
 have HB := Aside0.mk hB
 clear bs bz bo hB
 obtain ⟨s0, s1, s2, s3, s4, s5⟩ := cells6 BS.out
 go_wp2_with fail
 clear s0 s1 s2 s3 s4 s5
 go_loopg [18] (xs.length + 1) (fun kq v18 w' => ∃ (i : Nat) (B : Option Addr) (d : Nat), v18 = .int .i64 i ∧ Aside0 (kq + i = xs.length + 1 ∧ i ≤ xs.length) ∧ Aside0 (Kd.S aSe 90 w' w.heap.size (fun k => w.heap.size + 3 ≤ k) (.slice B i d) ((xs.take i).map durSe)) ∧ Aside0 (w'.heap[w.heap.size]? = some (.cells #[.int .u64 e, .int .u64 g, .int .u64 n, .int .i64 t, .slice As xs.length cs, .slice An ns.length cn] 31 (0, 0))) ∧ Aside0 (w'.heap[w.heap.size + 1]? = some (.cells #[.int .u64 0, .int .u64 0, .int .u64 0, .int .i64 0, .slice none 0 0, .slice none 0 0] 31 (0, 0))) ∧ Aside0 (w'.heap[w.heap.size + 1 + 1]? = some (.cells #[.int .u64 e, .int .u64 g, .int .u64 n, .int .i64 0, .slice B i d, .slice none 0 0] 31 (0, 0))) ∧ Aside0 (Below w.heap.size w w'))
 case atStart => exact ⟨0, none, 0, rfl, ⟨⟨by omega, by omega⟩⟩, ⟨by rw [List.take_zero]; exact Kd.S_nil _ _ _ _ _⟩, BS, BZ, BO, HB⟩
 case round =>
  clear BS BZ BO HB
  obtain ⟨i, B, d, rfl, HJ, HR, BS, BZ, BO, HB⟩ := hrel
  have hj0 := HJ.out
  by_cases hj : i < xs.length
  ·
   have c1 : decide ((i : Int) < (xs.length : Int)) = true := decide_eq_true (by omega)
   have ci : (0 : Int) ≤ (i : Int) := by omega
   have ci2 : (i : Int) < (xs.length : Int) := by omega
   have HT := Aside0.mk (show (xs.take (i + 1)).map durSe = (xs.take i).map durSe ++ [durSe xs[i]] by rw [List.take_succ_eq_append_getElem hj, List.map_append]; rfl)
   have HLN := Aside0.mk (show ((xs.take i).map durSe).length = i by rw [List.length_map, List.length_take]; omega)
   obtain ⟨ad, A2, c2, eA, hx0, hx1, hx2, hl2, hi2⟩ := at_T90 H1.out (i : Int) ci ci2
   have ex : rd_T90 xs (i : Int) = xs[i] := by unfold rd_T90; rw [Int.toNat_natCast, List.getD_eq_getElem?_getD, List.getElem?_eq_getElem hj]; rfl
   rw [ex] at hx0 hx1 hx2 hl2 hi2
   rw [Int.toNat_natCast] at hx0 hx1 hx2
   cases eA
   have hal : ∀ {a : Addr} {z : Value}, w.cell? a = some z → wr.cell? a = some z := fun hz => (HB.out.cell (World.block_lt_of_cell? w _ hz)).trans hz
   replace hx0 := hal hx0
   replace hx1 := hal hx1
   replace hx2 := hal hx2
   clear hal hl2 hi2 ex
   obtain ⟨y, hy⟩ : ∃ y, xs[i] = y := ⟨_, rfl⟩
   rw [hy] at hx0 hx1 hx2 HT
   clear hy
   obtain ⟨id, dl, q⟩ := y
   simp only at hx0 hx1 hx2
   obtain ⟨x, hxq⟩ : ∃ x, (xs.take i).map durSe = x := ⟨_, rfl⟩
   rw [hxq] at HT HR HLN
   clear hxq
   go_upto_region 5 with (fail)
   have bs := blk_alloc BS.out (.cells #[.int .u64 id, .int .i64 dl, .slice A2 q.length c2] 90)
   have bz := blk_alloc BZ.out (.cells #[.int .u64 id, .int .i64 dl, .slice A2 q.length c2] 90)
   have bo := blk_alloc BO.out (.cells #[.int .u64 id, .int .i64 dl, .slice A2 q.length c2] 90)
   have bn := blk_new wr (.cells #[.int .u64 id, .int .i64 dl, .slice A2 q.length c2] 90)
   have hba := below_alloc (Below.refl wr.heap.size wr) (.cells #[.int .u64 id, .int .i64 dl, .slice A2 q.length c2] 90)
   have HR2 := Aside0.mk (Kd.S_below HR.out hba)
   have HB2 := Aside0.mk (below_step HB.out hba)
   have HG2 := Aside0.mk (blk_lt BO.out)
   generalize wr.heap.size = g2 at *
   generalize wr.alloc (.cells #[.int .u64 id, .int .i64 dl, .slice A2 q.length c2] 90) = W3 at *
   have BS2 := Aside0.mk bs
   have BZ2 := Aside0.mk bz
   have BO2 := Aside0.mk bo
   have BN2 := Aside0.mk bn
   clear bs bz bo bn hba HR HB BS BZ BO hx0 hx1 hx2
   have n0 := (cells3 BN2.out).1
   have o4 := (cells6 BO2.out).2.2.2.2.1
   have HZ := Aside0.mk (show (∀ w5, W3.grownBy w5 (Value.slice B i d).ownBlock → w5.heap[w.heap.size + 1 + 1]? = some (.cells #[.int .u64 e, .int .u64 g, .int .u64 n, .int .i64 0, .slice B i d, .slice none 0 0] 31 (0, 0)) ∧ w5.cell? ⟨w.heap.size + 1 + 1, 4, none⟩ = some (.slice B i d) ∧ w5.frozen? ⟨w.heap.size + 1 + 1, 4, none⟩ = false ∧ w5.heap[w.heap.size]? = some (.cells #[.int .u64 e, .int .u64 g, .int .u64 n, .int .i64 t, .slice (some ad) xs.length cs, .slice An ns.length cn] 31 (0, 0)) ∧ w5.heap[w.heap.size + 1]? = some (.cells #[.int .u64 0, .int .u64 0, .int .u64 0, .int .i64 0, .slice none 0 0, .slice none 0 0] 31 (0, 0))) from fun w5 hg => by
    have hn1 : ∀ {b : Nat} {c : Array Value}, W3.heap[b]? = some (.cells c 31 (0, 0)) → some b ≠ (Value.slice B i d).ownBlock := fun hb => Kd.R_ne (Kd.S_R HR2.out) hb (by decide)
    have h1 := blk_grown BO2.out hg (hn1 BO2.out)
    exact ⟨h1, (cells6 h1).2.2.2.2.1, blk_frozen h1 4, blk_grown BS2.out hg (hn1 BS2.out), blk_grown BZ2.out hg (hn1 BZ2.out)⟩)
   go_wp2_with (first | ((with_reducible refine gate_builtin (b := .append) (xs := #[.tmp 23, .tmp 27]) rfl ?_); at_builtin; refine Kd.S_append aSe (w0 := w) w.heap.size rfl (.tmp 23) (.tmp 27) 28 90 (.agg #[(.int .u64 0), (.int .i64 0), (.slice none 0 0)]) 40 rfl Tryz.underlying28 info90 rfl (by decide) (by omega) (.slice B i d) x (⟨id, 0, []⟩ : Se) [.int .u64 id, .int .i64 0, .slice none 0 0] (fun k => w.heap.size + 3 ≤ k) (fun _ => False) ?eS ?eX ?aP (fun _ hk => hk.elim) ?aF ?aO HB2.out HB2.out.size ?aL ?_; (case eS => first | rfl | simp [Act.eval, Act.put]); (case eX => first | rfl | simp [Act.eval, Act.put]); (case aP => exact aSe_mk _ _ _ (⟨id, 0, []⟩ : Se) (Kd.S_nil _ _ _ _ _)); (case aF => exact (fun k hk => by have := HG2.out; have h3 := blk_lt BN2.out; show w.heap.size + 3 ≤ k; omega)); (case aO => exact Kd.S_mono HR2.out (fun k hk => ⟨hk, fun h => h.elim⟩)); (case aL => have := HLN.out; omega); intro v1 w5 ho hb hg hat; obtain ⟨B1, d1, rfl⟩ := Kd.S_slice ho; have HO5 := Aside0.mk ho; have HB5 := Aside0.mk hb; have HG5 := Aside0.mk hg; have y0 := (HZ.out w5 hg).2.1; have y1 := (HZ.out w5 hg).2.2.1; clear ho hb hg hat))
   have hz := HZ.out w5 HG5.out
   have hj2 := HJ.out
   have e1 := HLN.out
   have eL : (x ++ [(⟨id, 0, []⟩ : Se)]).length = i + 1 := by rw [List.length_append, e1]; rfl
   have HO6 := HO5.out
   rw [eL] at HO6
   obtain ⟨k1, rfl⟩ : ∃ k1, gk = k1 + 1 := ⟨gk - 1, by omega⟩
   go_roundg k1
   case measure => omega
   case rel =>
    rw [e1]
    refine ⟨i + 1, B1, d1, by go_num, ⟨⟨by omega, by omega⟩⟩, ⟨?_⟩, ⟨blk_far hz.2.2.2.1 (show w.heap.size ≠ w.heap.size + 1 + 1 by omega) _⟩, ⟨blk_far hz.2.2.2.2 (show w.heap.size + 1 ≠ w.heap.size + 1 + 1 by omega) _⟩, ⟨blk_put hz.1 4 _ rfl⟩, ⟨below_set HB5.out (by omega)⟩⟩
    rw [HT.out]
    exact Kd.S_far HO6 (fun k hk => by show k ≠ w.heap.size + 1 + 1; have : w.heap.size + 3 ≤ k := hk; omega) _
  ·
   have c1 : decide ((i : Int) < (xs.length : Int)) = false := decide_eq_false (by omega)
   obtain rfl : i = xs.length := by omega
   rw [List.take_length] at HR
   obtain ⟨s0, s1, s2, s3, s4, s5⟩ := cells6 BS.out
   have HSE := Aside0.mk (Kd.S_mono (Kd.S_bound HR.out) (ok' := fun k => w.heap.size + 3 ≤ k ∧ k < wr.heap.size) (fun k hk => ⟨hk.1, hk.2.2.1⟩))
   have HO2 := Aside0.mk (blk_lt BO.out)
   have HTT := Aside0.mk (Nat.le_refl wr.heap.size)
   clear HR H1
   go_wp2_with fail
   clear s0 s1 s2 s3 s4 s5 BS
   obtain ⟨T1, hT1⟩ : ∃ T1, wr.heap.size = T1 := ⟨_, rfl⟩
   have HTT : Aside0 (T1 ≤ wr.heap.size) := ⟨by omega⟩
   rw [hT1] at HSE HO2
   clear hT1
   go_loopg [34] (ns.length + 1) (fun kq v34 w' => ∃ (i2 : Nat) (A : Option Addr) (c : Nat), v34 = .int .i64 i2 ∧ Aside0 (kq + i2 = ns.length + 1 ∧ i2 ≤ ns.length) ∧ Aside0 (Kd.S aNo 93 w' w.heap.size (fun k => T1 ≤ k) (.slice A i2 c) ((ns.take i2).map durNo)) ∧ Aside0 (Kd.S aSe 90 w' w.heap.size (fun k => w.heap.size + 3 ≤ k ∧ k < T1) (.slice B xs.length d) (xs.map durSe)) ∧ Aside0 (w'.heap[w.heap.size + 1]? = some (.cells #[.int .u64 0, .int .u64 0, .int .u64 0, .int .i64 0, .slice none 0 0, .slice none 0 0] 31 (0, 0))) ∧ Aside0 (w'.heap[w.heap.size + 1 + 1]? = some (.cells #[.int .u64 e, .int .u64 g, .int .u64 n, .int .i64 0, .slice B xs.length d, .slice A i2 c] 31 (0, 0))) ∧ Aside0 (Below w.heap.size w w') ∧ Aside0 (T1 ≤ w'.heap.size))
   case atStart => exact ⟨0, none, 0, rfl, ⟨⟨by omega, by omega⟩⟩, ⟨by rw [List.take_zero]; exact Kd.S_nil _ _ _ _ _⟩, HSE, BZ, BO, HB, HTT⟩
   case round =>
    clear HSE BZ BO HB HTT HJ
    obtain ⟨i2, A, c, rfl, HJ, HR, HSE, BZ, BO, HB, HTT⟩ := hrel
    have hj0 := HJ.out
    by_cases hj : i2 < ns.length
    ·
     have c1b : decide ((i2 : Int) < (ns.length : Int)) = true := decide_eq_true (by omega)
     have ci : (0 : Int) ≤ (i2 : Int) := by omega
     have ci2 : (i2 : Int) < (ns.length : Int) := by omega
     have HT := Aside0.mk (show (ns.take (i2 + 1)).map durNo = (ns.take i2).map durNo ++ [durNo ns[i2]] by rw [List.take_succ_eq_append_getElem hj, List.map_append]; rfl)
     have HLN := Aside0.mk (show ((ns.take i2).map durNo).length = i2 by rw [List.length_map, List.length_take]; omega)
     have hsm := HS.out.m ns[i2] (List.getElem_mem hj)
     obtain ⟨ad, C0, k0, C1, k1', C4, k4, C7, k7, eA, hx0, hx1, hx2, hx3, hx4, hx5, hx6, hx7, hl0, hi0, hl1, hi1, hl4, hi4, hl7, hi7⟩ := at_T93 H2.out (i2 : Int) ci ci2
     have ex : rd_T93 ns (i2 : Int) = ns[i2] := by unfold rd_T93; rw [Int.toNat_natCast, List.getD_eq_getElem?_getD, List.getElem?_eq_getElem hj]; rfl
     rw [ex] at hx0 hx1 hx2 hx3 hx4 hx5 hx6 hx7 hl0 hi0 hl1 hi1 hl4 hi4 hl7 hi7
     rw [Int.toNat_natCast] at hx0 hx1 hx2 hx3 hx4 hx5 hx6 hx7
     cases eA
     have hal : ∀ {a : Addr} {z : Value}, w.cell? a = some z → wr.cell? a = some z := fun hz => (HB.out.cell (World.block_lt_of_cell? w _ hz)).trans hz
     replace hx0 := hal hx0
     replace hx1 := hal hx1
     replace hx2 := hal hx2
     replace hx3 := hal hx3
     replace hx4 := hal hx4
     replace hx5 := hal hx5
     replace hx6 := hal hx6
     replace hx7 := hal hx7
     obtain ⟨y, hy⟩ : ∃ y, ns[i2] = y := ⟨_, rfl⟩
     rw [hy] at hx0 hx1 hx2 hx3 hx4 hx5 hx6 hx7 HT hl0 hi0 hl1 hi1 hl4 hi4 hl7 hi7 hsm
     clear hal hy ex
     obtain ⟨l0, l1, o, m, l4, ep, ge, l7⟩ := y
     simp only at hx0 hx1 hx2 hx3 hx4 hx5 hx6 hx7 hl0 hi0 hl1 hi1 hl4 hi4 hl7 hi7 hsm
     have NC := Aside0.mk (fun (W : World) (hW : Below w.heap.size w W) => nodeCopy_ok C0 k0 l0 C1 k1' l1 o m C4 k4 l4 ep ge C7 k7 l7 W (Kd.C_below hi0 hW) hl0 (Kd.C_below hi1 hW) hl1 (Kd.C_below hi4 hW) hl4 (Kd.C_below hi7 hW) hl7 hsm.1.1.1 hsm.1.2 hsm.2.1 hsm.2.2)
     clear hl0 hi0 hl1 hi1 hl4 hi4 hl7 hi7 hsm
     obtain ⟨x, hxq⟩ : ∃ x, (ns.take i2).map durNo = x := ⟨_, rfl⟩
     rw [hxq] at HT HR HLN
     clear hxq
     go_upto_region 10 with (fail)
     have bz := blk_alloc BZ.out (.cells #[.slice C0 l0.length k0, .slice C1 l1.length k1', .int .u64 o, .int .i64 m, .slice C4 l4.length k4, .int .u64 ep, .int .u64 ge, .slice C7 l7.length k7] 93)
     have bo := blk_alloc BO.out (.cells #[.slice C0 l0.length k0, .slice C1 l1.length k1', .int .u64 o, .int .i64 m, .slice C4 l4.length k4, .int .u64 ep, .int .u64 ge, .slice C7 l7.length k7] 93)
     have bn := blk_new wr (.cells #[.slice C0 l0.length k0, .slice C1 l1.length k1', .int .u64 o, .int .i64 m, .slice C4 l4.length k4, .int .u64 ep, .int .u64 ge, .slice C7 l7.length k7] 93)
     have hba := below_alloc (Below.refl wr.heap.size wr) (.cells #[.slice C0 l0.length k0, .slice C1 l1.length k1', .int .u64 o, .int .i64 m, .slice C4 l4.length k4, .int .u64 ep, .int .u64 ge, .slice C7 l7.length k7] 93)
     have HR2 := Aside0.mk (Kd.S_below (Kd.S_mono (Kd.S_bound HR.out) (ok' := fun k => T1 ≤ k ∧ k < wr.heap.size) (fun k hk => ⟨hk.1, hk.2.2.1⟩)) hba)
     have HSE2 := Aside0.mk (Kd.S_below HSE.out hba)
     have HB2 := Aside0.mk (below_step HB.out hba)
     have HG2 := Aside0.mk (blk_lt BO.out)
     have HL2 := Aside0.mk (blk_lt bn)
     have HB2s := Aside0.mk (below_step HB.out hba).size
     generalize wr.heap.size = g2 at *
     generalize wr.alloc (.cells #[.slice C0 l0.length k0, .slice C1 l1.length k1', .int .u64 o, .int .i64 m, .slice C4 l4.length k4, .int .u64 ep, .int .u64 ge, .slice C7 l7.length k7] 93) = W3 at *
     have BZ2 := Aside0.mk bz
     have BO2 := Aside0.mk bo
     have BN2 := Aside0.mk bn
     clear bz bo bn hba HR HSE HB BZ BO hx0 hx1 hx2 hx3 hx4 hx5 hx6 hx7
     obtain ⟨n0, n1, n2, n3, n4, n5, n6, n7⟩ := cells8 BN2.out
     go_wp2_with fail
     refine (NC.out _ HB2.out).mono ?_
     rintro r W4 ⟨B0, d0, B1, d1, B4, d4, B7, d7, rfl, hM, hb⟩
     clear n0 n1 n2 n3 n4 n5 n6 n7 NC
     have BZ3 := Aside0.mk (blk_below BZ2.out hb)
     have BO3 := Aside0.mk (blk_below BO2.out hb)
     have BN3 := Aside0.mk (blk_below BN2.out hb)
     have HR3 := Aside0.mk (Kd.S_below HR2.out hb)
     have HSE3 := Aside0.mk (Kd.S_below HSE2.out hb)
     have HB3 := Aside0.mk (below_step HB2.out hb)
     have HM3 := Aside0.mk (aNo.M_bound hM)
     have hs4 := hb.size
     clear BZ2 BO2 BN2 HR2 HSE2 HB2 hM hb
     obtain ⟨n0, n1, n2, n3, n4, n5, n6, n7⟩ := cells8 BN3.out
     have f0 := blk_frozen BN3.out 0
     have f1 := blk_frozen BN3.out 1
     have f2 := blk_frozen BN3.out 2
     have f3 := blk_frozen BN3.out 3
     have f4 := blk_frozen BN3.out 4
     have f5 := blk_frozen BN3.out 5
     have f6 := blk_frozen BN3.out 6
     have f7 := blk_frozen BN3.out 7
     go_upto_region 11 with (fail)
     clear n0 n1 n2 n3 n4 n5 n6 n7 f0 f1 f2 f3 f4 f5 f6 f7
     have hlt := HL2.out
     have hg0 := HG2.out
     have htt := HTT.out
     have BN4 := Aside0.mk (blk_put (cs := #[.slice B0 l0.length d0, .slice B1 l1.length d1, .int .u64 o, .int .i64 m, .slice B4 l4.length d4, .int .u64 ep, .int .u64 ge, .slice C7 l7.length k7]) (cs' := #[.slice B0 l0.length d0, .slice B1 l1.length d1, .int .u64 o, .int .i64 m, .slice B4 l4.length d4, .int .u64 ep, .int .u64 ge, .slice B7 l7.length d7]) (blk_put (cs := #[.slice B0 l0.length d0, .slice B1 l1.length d1, .int .u64 o, .int .i64 m, .slice B4 l4.length d4, .int .u64 ep, .int .u64 ge, .slice C7 l7.length k7]) (cs' := #[.slice B0 l0.length d0, .slice B1 l1.length d1, .int .u64 o, .int .i64 m, .slice B4 l4.length d4, .int .u64 ep, .int .u64 ge, .slice C7 l7.length k7]) (blk_put (cs := #[.slice B0 l0.length d0, .slice B1 l1.length d1, .int .u64 o, .int .i64 m, .slice B4 l4.length d4, .int .u64 ep, .int .u64 ge, .slice C7 l7.length k7]) (cs' := #[.slice B0 l0.length d0, .slice B1 l1.length d1, .int .u64 o, .int .i64 m, .slice B4 l4.length d4, .int .u64 ep, .int .u64 ge, .slice C7 l7.length k7]) (blk_put (cs := #[.slice B0 l0.length d0, .slice B1 l1.length d1, .int .u64 o, .int .i64 m, .slice C4 l4.length k4, .int .u64 ep, .int .u64 ge, .slice C7 l7.length k7]) (cs' := #[.slice B0 l0.length d0, .slice B1 l1.length d1, .int .u64 o, .int .i64 m, .slice B4 l4.length d4, .int .u64 ep, .int .u64 ge, .slice C7 l7.length k7]) (blk_put (cs := #[.slice B0 l0.length d0, .slice B1 l1.length d1, .int .u64 o, .int .i64 m, .slice C4 l4.length k4, .int .u64 ep, .int .u64 ge, .slice C7 l7.length k7]) (cs' := #[.slice B0 l0.length d0, .slice B1 l1.length d1, .int .u64 o, .int .i64 m, .slice C4 l4.length k4, .int .u64 ep, .int .u64 ge, .slice C7 l7.length k7]) (blk_put (cs := #[.slice B0 l0.length d0, .slice B1 l1.length d1, .int .u64 o, .int .i64 m, .slice C4 l4.length k4, .int .u64 ep, .int .u64 ge, .slice C7 l7.length k7]) (cs' := #[.slice B0 l0.length d0, .slice B1 l1.length d1, .int .u64 o, .int .i64 m, .slice C4 l4.length k4, .int .u64 ep, .int .u64 ge, .slice C7 l7.length k7]) (blk_put (cs := #[.slice B0 l0.length d0, .slice C1 l1.length k1', .int .u64 o, .int .i64 m, .slice C4 l4.length k4, .int .u64 ep, .int .u64 ge, .slice C7 l7.length k7]) (cs' := #[.slice B0 l0.length d0, .slice B1 l1.length d1, .int .u64 o, .int .i64 m, .slice C4 l4.length k4, .int .u64 ep, .int .u64 ge, .slice C7 l7.length k7]) (blk_put (cs := #[.slice C0 l0.length k0, .slice C1 l1.length k1', .int .u64 o, .int .i64 m, .slice C4 l4.length k4, .int .u64 ep, .int .u64 ge, .slice C7 l7.length k7]) (cs' := #[.slice B0 l0.length d0, .slice C1 l1.length k1', .int .u64 o, .int .i64 m, .slice C4 l4.length k4, .int .u64 ep, .int .u64 ge, .slice C7 l7.length k7]) BN3.out 0 _ rfl) 1 _ rfl) 2 _ rfl) 3 _ rfl) 4 _ rfl) 5 _ rfl) 6 _ rfl) 7 _ rfl)
     have BZ4 : Aside0 (((((((((W4.setCell ⟨g2, 0, none⟩ (.slice B0 l0.length d0)).setCell ⟨g2, 1, none⟩ (.slice B1 l1.length d1)).setCell ⟨g2, 2, none⟩ (.int .u64 o)).setCell ⟨g2, 3, none⟩ (.int .i64 m)).setCell ⟨g2, 4, none⟩ (.slice B4 l4.length d4)).setCell ⟨g2, 5, none⟩ (.int .u64 ep)).setCell ⟨g2, 6, none⟩ (.int .u64 ge)).setCell ⟨g2, 7, none⟩ (.slice B7 l7.length d7)).heap[w.heap.size + 1]? = some (.cells #[.int .u64 0, .int .u64 0, .int .u64 0, .int .i64 0, .slice none 0 0, .slice none 0 0] 31 (0, 0))) := ⟨by repeat (first | with_reducible exact BZ3.out | refine blk_far ?_ (show w.heap.size + 1 ≠ g2 by omega) _)⟩
     have BO4 : Aside0 (((((((((W4.setCell ⟨g2, 0, none⟩ (.slice B0 l0.length d0)).setCell ⟨g2, 1, none⟩ (.slice B1 l1.length d1)).setCell ⟨g2, 2, none⟩ (.int .u64 o)).setCell ⟨g2, 3, none⟩ (.int .i64 m)).setCell ⟨g2, 4, none⟩ (.slice B4 l4.length d4)).setCell ⟨g2, 5, none⟩ (.int .u64 ep)).setCell ⟨g2, 6, none⟩ (.int .u64 ge)).setCell ⟨g2, 7, none⟩ (.slice B7 l7.length d7)).heap[w.heap.size + 1 + 1]? = some (.cells #[.int .u64 e, .int .u64 g, .int .u64 n, .int .i64 0, .slice B xs.length d, .slice A i2 c] 31 (0, 0))) := ⟨by repeat (first | with_reducible exact BO3.out | refine blk_far ?_ (show w.heap.size + 1 + 1 ≠ g2 by omega) _)⟩
     have HR4 : Aside0 (Kd.S aNo 93 ((((((((W4.setCell ⟨g2, 0, none⟩ (.slice B0 l0.length d0)).setCell ⟨g2, 1, none⟩ (.slice B1 l1.length d1)).setCell ⟨g2, 2, none⟩ (.int .u64 o)).setCell ⟨g2, 3, none⟩ (.int .i64 m)).setCell ⟨g2, 4, none⟩ (.slice B4 l4.length d4)).setCell ⟨g2, 5, none⟩ (.int .u64 ep)).setCell ⟨g2, 6, none⟩ (.int .u64 ge)).setCell ⟨g2, 7, none⟩ (.slice B7 l7.length d7)) w.heap.size (fun k => T1 ≤ k ∧ k < g2) (.slice A i2 c) x) := ⟨by repeat (first | with_reducible exact HR3.out | refine Kd.S_far ?_ (fun k hk => by have := hk.2; show k ≠ g2; omega) _)⟩
     have HSE4 : Aside0 (Kd.S aSe 90 ((((((((W4.setCell ⟨g2, 0, none⟩ (.slice B0 l0.length d0)).setCell ⟨g2, 1, none⟩ (.slice B1 l1.length d1)).setCell ⟨g2, 2, none⟩ (.int .u64 o)).setCell ⟨g2, 3, none⟩ (.int .i64 m)).setCell ⟨g2, 4, none⟩ (.slice B4 l4.length d4)).setCell ⟨g2, 5, none⟩ (.int .u64 ep)).setCell ⟨g2, 6, none⟩ (.int .u64 ge)).setCell ⟨g2, 7, none⟩ (.slice B7 l7.length d7)) w.heap.size (fun k => w.heap.size + 3 ≤ k ∧ k < T1) (.slice B xs.length d) (xs.map durSe)) := ⟨by repeat (first | with_reducible exact HSE3.out | refine Kd.S_far ?_ (fun k hk => by have := hk.2; show k ≠ g2; omega) _)⟩
     have HB4 : Aside0 (Below w.heap.size w ((((((((W4.setCell ⟨g2, 0, none⟩ (.slice B0 l0.length d0)).setCell ⟨g2, 1, none⟩ (.slice B1 l1.length d1)).setCell ⟨g2, 2, none⟩ (.int .u64 o)).setCell ⟨g2, 3, none⟩ (.int .i64 m)).setCell ⟨g2, 4, none⟩ (.slice B4 l4.length d4)).setCell ⟨g2, 5, none⟩ (.int .u64 ep)).setCell ⟨g2, 6, none⟩ (.int .u64 ge)).setCell ⟨g2, 7, none⟩ (.slice B7 l7.length d7))) := ⟨by with_reducible repeat (first | exact HB3.out | refine below_set ?_ (by omega))⟩
     have HM4 : Aside0 (aNo.M ((((((((W4.setCell ⟨g2, 0, none⟩ (.slice B0 l0.length d0)).setCell ⟨g2, 1, none⟩ (.slice B1 l1.length d1)).setCell ⟨g2, 2, none⟩ (.int .u64 o)).setCell ⟨g2, 3, none⟩ (.int .i64 m)).setCell ⟨g2, 4, none⟩ (.slice B4 l4.length d4)).setCell ⟨g2, 5, none⟩ (.int .u64 ep)).setCell ⟨g2, 6, none⟩ (.int .u64 ge)).setCell ⟨g2, 7, none⟩ (.slice B7 l7.length d7)) W3.heap.size (fun k => W3.heap.size ≤ k) ⟨l0, l1, o, m, l4, ep, ge, l7⟩ [.slice B0 l0.length d0, .slice B1 l1.length d1, .int .u64 o, .int .i64 m, .slice B4 l4.length d4, .int .u64 ep, .int .u64 ge, .slice B7 l7.length d7]) := ⟨by repeat (first | with_reducible exact aNo.M_mono (fun k hk => hk.2.1) HM3.out | refine Kd.M_far ?_ (fun k hk => by have : W3.heap.size ≤ k := hk; show k ≠ g2; omega) _)⟩
     have SW5 : Aside0 (W3.heap.size ≤ ((((((((W4.setCell ⟨g2, 0, none⟩ (.slice B0 l0.length d0)).setCell ⟨g2, 1, none⟩ (.slice B1 l1.length d1)).setCell ⟨g2, 2, none⟩ (.int .u64 o)).setCell ⟨g2, 3, none⟩ (.int .i64 m)).setCell ⟨g2, 4, none⟩ (.slice B4 l4.length d4)).setCell ⟨g2, 5, none⟩ (.int .u64 ep)).setCell ⟨g2, 6, none⟩ (.int .u64 ge)).setCell ⟨g2, 7, none⟩ (.slice B7 l7.length d7)).heap.size) := ⟨by simp only [World.size_setCell]; exact hs4⟩
     clear hs4
     generalize ((((((((W4.setCell ⟨g2, 0, none⟩ (.slice B0 l0.length d0)).setCell ⟨g2, 1, none⟩ (.slice B1 l1.length d1)).setCell ⟨g2, 2, none⟩ (.int .u64 o)).setCell ⟨g2, 3, none⟩ (.int .i64 m)).setCell ⟨g2, 4, none⟩ (.slice B4 l4.length d4)).setCell ⟨g2, 5, none⟩ (.int .u64 ep)).setCell ⟨g2, 6, none⟩ (.int .u64 ge)).setCell ⟨g2, 7, none⟩ (.slice B7 l7.length d7)) = W5 at *
     clear BN3 BZ3 BO3 HR3 HSE3 HB3 HM3
     obtain ⟨p0, p1, p4, v0, v1, v4, v7, ev, hR0, hR1, hR4, hR7⟩ := aNo_open HM4.out
     simp only [List.cons.injEq, and_true] at ev
     obtain ⟨rfl, rfl, _, _, rfl, _, _, rfl⟩ := ev
     obtain ⟨W6, hclr, hg6, hR7b⟩ := run_clear_u64 hR7
     have n7 := (cells8 BN4.out).2.2.2.2.2.2.2
     have own7 : ∀ k, k < W5.heap.size → (k < W3.heap.size ∨ p0 k ∨ p1 k ∨ p4 k) → W6.heap[k]? = W5.heap[k]? := fun k hk hp => hg6.block k hk (fun e => by
      have h := hR7.1 k e.symm
      rcases hp with hp | hp | hp | hp
      ·
       have : W3.heap.size ≤ k := h.1.1.1; omega
      ·
       exact h.1.1.2 hp
      ·
       exact h.1.2 hp
      ·
       exact h.2 hp)
     have BN5 := Aside0.mk ((own7 g2 (blk_lt BN4.out) (Or.inl hlt)).trans BN4.out)
     have BZ5 := Aside0.mk ((own7 _ (blk_lt BZ4.out) (Or.inl (by omega))).trans BZ4.out)
     have BO5 := Aside0.mk ((own7 _ (blk_lt BO4.out) (Or.inl (by omega))).trans BO4.out)
     have HR5 := Aside0.mk (Kd.S_step HR4.out (fun k hk hl => own7 k hl (Or.inl (by have := hk.2; omega))))
     have HSE5 := Aside0.mk (Kd.S_step HSE4.out (fun k hk hl => own7 k hl (Or.inl (by have := hk.2; omega))))
     have hW3 : ∀ k, (Value.slice B7 l7.length d7).ownBlock = some k → W3.heap.size ≤ k := fun k hk => (hR7.1 k hk).1.1.1
     have HB5 := Aside0.mk (HB4.out.grown hg6 HB4.out.size (fun k hk => by have := hW3 k hk; omega))
     have HQ0 := Aside0.mk (Kd.R_step hR0 (fun k hk hl => own7 k hl (Or.inr (Or.inl hk.2))))
     have HQ1 := Aside0.mk (Kd.R_step hR1 (fun k hk hl => own7 k hl (Or.inr (Or.inr (Or.inl hk.2)))))
     have HQ4 := Aside0.mk (Kd.R_step hR4 (fun k hk hl => own7 k hl (Or.inr (Or.inr (Or.inr hk.2)))))
     have HQ7 := Aside0.mk hR7b
     have HCL := Aside0.mk hclr
     have S5 := Aside0.mk hg6.size
     have S4 := Aside0.mk (show T1 ≤ W3.heap.size by omega)
     clear own7 hW3 hR0 hR1 hR4 hR7 hR7b hg6 HM4 BZ4 BO4 HR4 HSE4 HB4
     go_upto_region 12 with (fail)
     clear hclr n7 HCL BN4
     have n7 := (cells8 BN5.out).2.2.2.2.2.2.2
     have f7 := blk_frozen BN5.out 7
     go_upto_region 13 with (fail)
     clear n7 f7
     have BN6 := Aside0.mk (blk_put (cs' := #[.slice B0 l0.length d0, .slice B1 l1.length d1, .int .u64 o, .int .i64 m, .slice B4 l4.length d4, .int .u64 ep, .int .u64 ge, .slice B7 0 d7]) BN5.out 7 (.slice B7 0 d7) rfl)
     have BZ6 := Aside0.mk (blk_far BZ5.out (p := ⟨g2, 7, none⟩) (show w.heap.size + 1 ≠ g2 by omega) (.slice B7 0 d7))
     have BO6 := Aside0.mk (blk_far BO5.out (p := ⟨g2, 7, none⟩) (show w.heap.size + 1 + 1 ≠ g2 by omega) (.slice B7 0 d7))
     have HR6 := Aside0.mk (Kd.S_far (p := ⟨g2, 7, none⟩) HR5.out (fun k hk => by have := hk.2; show k ≠ g2; omega) (.slice B7 0 d7))
     have HSE6 := Aside0.mk (Kd.S_far (p := ⟨g2, 7, none⟩) HSE5.out (fun k hk => by have := hk.2; show k ≠ g2; omega) (.slice B7 0 d7))
     have HB6 := Aside0.mk (below_set (g := g2) (j := 7) (v := .slice B7 0 d7) HB5.out (by omega))
     have HM6 := Aside0.mk (show aNo.M (W6.setCell ⟨g2, 7, none⟩ (.slice B7 0 d7)) W3.heap.size (fun k => W3.heap.size ≤ k) ⟨l0, l1, o, m, l4, ep, ge, []⟩ [.slice B0 l0.length d0, .slice B1 l1.length d1, .int .u64 o, .int .i64 m, .slice B4 l4.length d4, .int .u64 ep, .int .u64 ge, .slice B7 0 d7] from aNo_mkp _ _ _ ⟨l0, l1, o, m, l4, ep, ge, []⟩ p0 p1 p4 (Kd.R_far (p := ⟨g2, 7, none⟩) HQ0.out (fun k hk => by have : W3.heap.size ≤ k := hk.1; show k ≠ g2; omega) _) (Kd.R_far (p := ⟨g2, 7, none⟩) HQ1.out (fun k hk => by have : W3.heap.size ≤ k := hk.1.1; show k ≠ g2; omega) _) (Kd.R_far (p := ⟨g2, 7, none⟩) HQ4.out (fun k hk => by have : W3.heap.size ≤ k := hk.1.1.1; show k ≠ g2; omega) _) (Kd.R_far (p := ⟨g2, 7, none⟩) HQ7.out (fun k hk => by have : W3.heap.size ≤ k := hk.1.1.1; show k ≠ g2; omega) _))
     have hsz : (W6.setCell ⟨g2, 7, none⟩ (.slice B7 0 d7)).heap.size = W6.heap.size := by simp [World.setCell]
     have S6 := Aside0.mk (show W5.heap.size ≤ (W6.setCell ⟨g2, 7, none⟩ (.slice B7 0 d7)).heap.size by rw [hsz]; exact S5.out)
     clear hsz
     generalize (W6.setCell ⟨g2, 7, none⟩ (.slice B7 0 d7)) = W7 at *
     clear BN5 BZ5 BO5 HR5 HSE5 HB5 HQ0 HQ1 HQ4 HQ7 S5
     obtain ⟨n0, n1, n2, n3, n4, n5, n6, n7⟩ := cells8 BN6.out
     have o5 := (cells6 BO6.out).2.2.2.2.2
     have HZ := Aside0.mk (show (∀ w5, W7.grownBy w5 (Value.slice A i2 c).ownBlock → w5.heap[w.heap.size + 1 + 1]? = some (.cells #[.int .u64 e, .int .u64 g, .int .u64 n, .int .i64 0, .slice B xs.length d, .slice A i2 c] 31 (0, 0)) ∧ w5.cell? ⟨w.heap.size + 1 + 1, 5, none⟩ = some (.slice A i2 c) ∧ w5.frozen? ⟨w.heap.size + 1 + 1, 5, none⟩ = false ∧ w5.heap[w.heap.size + 1]? = some (.cells #[.int .u64 0, .int .u64 0, .int .u64 0, .int .i64 0, .slice none 0 0, .slice none 0 0] 31 (0, 0)) ∧ Kd.S aSe 90 w5 w.heap.size (fun k => w.heap.size + 3 ≤ k ∧ k < T1) (.slice B xs.length d) (xs.map durSe)) from fun w5 hg => by
      have hn1 : ∀ {b : Nat} {c' : Array Value}, W7.heap[b]? = some (.cells c' 31 (0, 0)) → some b ≠ (Value.slice A i2 c).ownBlock := fun hb => Kd.R_ne (Kd.S_R HR6.out) hb (by decide)
      have h1 := blk_grown BO6.out hg (hn1 BO6.out)
      exact ⟨h1, (cells6 h1).2.2.2.2.2, blk_frozen h1 5, blk_grown BZ6.out hg (hn1 BZ6.out), Kd.S_step HSE6.out (fun k hk hl => hg.block k hl (fun e => by
       have h := (Kd.S_R HR6.out).1 k e.symm
       have := hk.2
       have := h.1
       omega))⟩)
     go_wp2_with (first | ((with_reducible refine gate_builtin (b := .append) (xs := #[.tmp 47, .tmp 49]) rfl ?_); at_builtin; refine Kd.S_append aNo (w0 := w) w.heap.size rfl (.tmp 47) (.tmp 49) 29 93 (.agg #[(.slice none 0 0), (.slice none 0 0), (.int .u64 0), (.int .i64 0), (.slice none 0 0), (.int .u64 0), (.int .u64 0), (.slice none 0 0)]) 128 rfl Tryz.underlying29 info93 rfl (by decide) (by omega) (.slice A i2 c) x (⟨l0, l1, o, m, l4, ep, ge, []⟩ : No) [.slice B0 l0.length d0, .slice B1 l1.length d1, .int .u64 o, .int .i64 m, .slice B4 l4.length d4, .int .u64 ep, .int .u64 ge, .slice B7 0 d7] (fun k => T1 ≤ k) (fun k => W3.heap.size ≤ k) ?eS ?eX ?aP ?aK ?aF ?aO HB6.out HB6.out.size ?aL ?_; (case eS => first | rfl | simp [Act.eval, Act.put]); (case eX => first | rfl | simp [Act.eval, Act.put]); (case aP => exact aNo.M_lower (by have := HB2s.out; omega) HM6.out); (case aK => exact (fun k hk => ⟨by have := S4.out; show T1 ≤ k; have h3 : W3.heap.size ≤ k := hk; omega, fun e => by have h := ((Kd.S_R HR6.out).1 k e.symm).2; have h3 : W3.heap.size ≤ k := hk; omega⟩)); (case aF => exact (fun k hk => by have := S4.out; have := S6.out; have := SW5.out; show T1 ≤ k; omega)); (case aO => exact Kd.S_mono HR6.out (fun k hk => ⟨hk.1, fun h => by have : W3.heap.size ≤ k := h; have := hk.2; omega⟩)); (case aL => have := HLN.out; have := HS.out.n; omega); intro v1 w5 ho hb hg hat; obtain ⟨A1, c1', rfl⟩ := Kd.S_slice ho; have HO7 := Aside0.mk ho; have HB7 := Aside0.mk hb; have HG7 := Aside0.mk hg; have y0 := (HZ.out w5 hg).2.1; have y1 := (HZ.out w5 hg).2.2.1; clear ho hb hg hat))
     have hz := HZ.out w5 HG7.out
     have hj2 := HJ.out
     have e1 := HLN.out
     have eL : (x ++ [(⟨l0, l1, o, m, l4, ep, ge, []⟩ : No)]).length = i2 + 1 := by rw [List.length_append, e1]; rfl
     have HO8 := HO7.out
     rw [eL] at HO8
     have S7 := HG7.out.size
     have S7a := S6.out
     have S7b := SW5.out
     obtain ⟨k1, rfl⟩ : ∃ k1, gk = k1 + 1 := ⟨gk - 1, by omega⟩
     go_roundg k1
     case measure => omega
     case rel =>
      rw [e1]
      refine ⟨i2 + 1, A1, c1', by go_num, ⟨⟨by omega, by omega⟩⟩, ⟨?_⟩, ⟨Kd.S_far hz.2.2.2.2 (fun k hk => by have : w.heap.size + 3 ≤ k := hk.1; show k ≠ w.heap.size + 1 + 1; omega) _⟩, ⟨blk_far hz.2.2.2.1 (show w.heap.size + 1 ≠ w.heap.size + 1 + 1 by omega) _⟩, ⟨blk_put hz.1 5 _ rfl⟩, ⟨below_set HB7.out (by omega)⟩, ⟨by simp [World.setCell]; omega⟩⟩
      rw [HT.out]
      exact Kd.S_far HO8 (fun k hk => by show k ≠ w.heap.size + 1 + 1; have : T1 ≤ k := hk; have := HO2.out; omega) _
    ·
     have c1b : decide ((i2 : Int) < (ns.length : Int)) = false := decide_eq_false (by omega)
     obtain rfl : i2 = ns.length := by omega
     rw [List.take_length] at HR
     obtain ⟨y0, y1, y2, y3, y4, y5⟩ := cells6 BO.out
     obtain ⟨z0, z1, z2, z3, z4, z5⟩ := cells6 BZ.out
     have f0 := blk_frozen BZ.out 0
     have f1 := blk_frozen BZ.out 1
     have f2 := blk_frozen BZ.out 2
     have f3 := blk_frozen BZ.out 3
     have f4 := blk_frozen BZ.out 4
     have f5 := blk_frozen BZ.out 5
     go_wp2_with fail
     refine bodyPost_ret (results_cell_row rfl _ _ (w.heap.size + 1) 31 #[.int .u64 e, .int .u64 g, .int .u64 n, .int .i64 0, .slice B xs.length d, .slice A ns.length c] (0, 0) _ rfl (by refine blk_put (cs := #[.int .u64 e, .int .u64 g, .int .u64 n, .int .i64 0, .slice B xs.length d, .slice none 0 0]) ?_ 5 _ rfl; refine blk_put (cs := #[.int .u64 e, .int .u64 g, .int .u64 n, .int .i64 0, .slice none 0 0, .slice none 0 0]) ?_ 4 _ rfl; refine blk_put (cs := #[.int .u64 e, .int .u64 g, .int .u64 n, .int .i64 0, .slice none 0 0, .slice none 0 0]) ?_ 3 _ rfl; refine blk_put (cs := #[.int .u64 e, .int .u64 g, .int .u64 0, .int .i64 0, .slice none 0 0, .slice none 0 0]) ?_ 2 _ rfl; refine blk_put (cs := #[.int .u64 e, .int .u64 0, .int .u64 0, .int .i64 0, .slice none 0 0, .slice none 0 0]) ?_ 1 _ rfl; refine blk_put (cs := #[.int .u64 0, .int .u64 0, .int .u64 0, .int .i64 0, .slice none 0 0, .slice none 0 0]) ?_ 0 _ rfl; exact BZ.out) Tryz.underlying31 rfl (by kernel_rfl)) rfl ?_
     have ho2 := HO2.out
     have htt := HTT.out
     have hsz : ∀ (a b : Nat) (u : World) (v : Value), (u.setCell ⟨a, b, none⟩ v).heap.size = u.heap.size := fun a b u v => by simp [World.setCell]
     refine ⟨B, d, A, c, by rw [List.length_map, List.length_map], ⟨fun k => k < T1, ?_, ?_⟩, by with_reducible repeat (first | exact HB.out | refine below_set ?_ (by omega))⟩
     ·
      rw [List.length_map]
      refine Kd.S_mono (ok := fun k => w.heap.size + 3 ≤ k ∧ k < T1) ?_ (fun k hk => ⟨⟨by omega, by simp only [hsz]; omega⟩, hk.2⟩)
      repeat (first | with_reducible exact HSE.out | refine Kd.S_far ?_ (fun k hk => by have := hk.1; show k ≠ w.heap.size + 1; omega) _)
     ·
      rw [List.length_map]
      refine Kd.S_mono (ok := fun k => T1 ≤ k ∧ k < wr.heap.size) ?_ (fun k hk => ⟨⟨by omega, by simp only [hsz]; omega⟩, by omega⟩)
      repeat (first | with_reducible exact Kd.S_mono (Kd.S_bound HR.out) (fun k hk => ⟨hk.1, hk.2.2.1⟩) | refine Kd.S_far ?_ (fun k hk => by have := hk.1; show k ≠ w.heap.size + 1; omega) _)
section
attribute [local go_sem] max2_int max_two
set_option linter.unusedVariables false
set_option linter.unusedSimpArgs false
def laws_szUint64S.f (l0 : List Int) (a1 : Int) : Option (Int) := if (wrap64 (a1 - (l0.length : Int))) < 0 then (some (-1)) else (some (wrap64 (a1 - (l0.length : Int))))
set_option maxHeartbeats 8000000 in
set_option maxRecDepth 100000 in
theorem laws_szUint64S.calls (A0 : Option Addr) (c0 : Nat) (l0 : List Int) (a1 : Int) (r : Int) (w : World) (hr0 : Kd.C (Kd.int .u64) w A0 l0.length l0) (hc0 : l0.length ≤ c0) (h : laws_szUint64S.f l0 a1 = some r) :
  Calls Tryz.prog 128 #[.slice A0 l0.length c0, .int .i64 a1] w fun e w' => e = .returned (.int .i64 r) ∧ Drawn0 w w' := by
 have HR0 := Aside0.mk hr0
 have HC0 := Aside0.mk hc0
 clear hr0 hc0
 have H : (if (wrap64 (a1 - (l0.length : Int))) < 0 then (some (-1)) else (some (wrap64 (a1 - (l0.length : Int))))) = some r := h
 clear h
 by_cases c3 : (wrap64 (a1 - (l0.length : Int))) < 0
 ·
  rw [if_pos c3] at H
  have c3b0 : decide ((wrap64 (a1 - (l0.length : Int))) < 0) = true := decide_eq_true c3
  clear c3
  obtain rfl := Option.some.inj H
  go_enter Tryz.func128, Tryz.ntmps128
  go_wp2
  go_ret
  exact ⟨by first | rfl | (simp; done) | (simp [*]; done), by repeat (first | exact Drawn0.refl _ | apply Drawn0.step)⟩
 ·
  rw [if_neg c3] at H
  have c3b0 : decide ((wrap64 (a1 - (l0.length : Int))) < 0) = false := decide_eq_false c3
  clear c3
  obtain rfl := Option.some.inj H
  go_enter Tryz.func128, Tryz.ntmps128
  go_wp2
  go_ret
  exact ⟨by first | rfl | (simp; done) | (simp [*]; done), by repeat (first | exact Drawn0.refl _ | apply Drawn0.step)⟩
end
def sumL {α : Type} (ln : α → Nat) : List α → Nat
 | [] => 0
 | x :: r => ln x + sumL ln r
theorem sumL_snoc {α : Type} (ln : α → Nat) (xs : List α) (x : α) : sumL ln (xs ++ [x]) = sumL ln xs + ln x := by
 induction xs with
 | nil => simp [sumL]
 | cons y r ih => simp only [List.cons_append, sumL, ih]; omega
theorem sumL_succ {α : Type} (ln : α → Nat) (xs : List α) (j : Nat) (hj : j < xs.length) : sumL ln (xs.take (j + 1)) = sumL ln (xs.take j) + ln xs[j] := by
 rw [List.take_succ_eq_append_getElem hj, sumL_snoc]
theorem sumL_mem {α : Type} (ln : α → Nat) {xs : List α} {x : α} (hx : x ∈ xs) : ln x ≤ sumL ln xs := by
 induction xs with
 | nil => cases hx
 | cons y r ih =>
  rcases List.mem_cons.1 hx with rfl | h
  ·
   simp only [sumL]; omega
  ·
   have := ih h; simp only [sumL]; omega
theorem sumL_bound {α : Type} (ln : α → Nat) {xs : List α} {B : Nat} (h : sumL ln xs ≤ B) : ∀ x ∈ xs, ln x ≤ B := fun x hx => Nat.le_trans (sumL_mem ln hx) h
def lE (y : EvL) : Nat := y.f1.length
def pE (q : List EvL) : Nat := sumL lE q
def lS (x : SeL) : Nat := x.f2.length + pE x.f2
def pS (xs : List SeL) : Nat := sumL lS xs
def lN (x : NoL) : Nat := x.f0.length + x.f1.length + x.f4.length + x.f7.length
def pN (ns : List NoL) : Nat := sumL lN ns
def LenOK (n : Nat) : Prop := (n : Int) ≤ 9223372036854775807
theorem wrap_sub {a : Int} {n : Nat} (h0 : 0 ≤ a) (ha : a ≤ 1048576) (hl : LenOK n) : wrap64 (a - (n : Int)) = a - n := by
 unfold LenOK at hl
 unfold wrap64
 omega
def Left (a r : Int) (n : Nat) : Prop := r < 0 ∨ (0 ≤ r ∧ r + n ≤ a)
theorem szByteS_w (A : Option Addr) (c : Nat) (l : List Int) (a : Int) (h0 : 0 ≤ a) (ha : a ≤ 1048576) (w : World) (h : Kd.C (Kd.int .u8) w A l.length l) (hc : l.length ≤ c) : Calls Tryz.prog 127 #[.slice A l.length c, .int .i64 a] w fun e w' => (∃ r, e = .returned (.int .i64 r) ∧ Left a r l.length) ∧ Below w.heap.size w w' := by
 have hl : LenOK l.length := Int.ofNat_le.2 h.2.1
 refine (laws_szByteS.calls A c l a (if a - (l.length : Int) < 0 then -1 else a - l.length) w h hc (by unfold laws_szByteS.f; rw [wrap_sub h0 ha hl]; split <;> rfl)).mono ?_
 rintro e w' ⟨rfl, hb⟩
 refine ⟨⟨_, rfl, ?_⟩, by first | exact hb | exact hb.below⟩
 unfold Left
 split <;> omega
theorem szUint64S_w (A : Option Addr) (c : Nat) (l : List Int) (a : Int) (h0 : 0 ≤ a) (ha : a ≤ 1048576) (w : World) (h : Kd.C (Kd.int .u64) w A l.length l) (hc : l.length ≤ c) : Calls Tryz.prog 128 #[.slice A l.length c, .int .i64 a] w fun e w' => (∃ r, e = .returned (.int .i64 r) ∧ Left a r l.length) ∧ Below w.heap.size w w' := by
 have hl : LenOK l.length := Int.ofNat_le.2 h.2.1
 refine (laws_szUint64S.calls A c l a (if a - (l.length : Int) < 0 then -1 else a - l.length) w h hc (by unfold laws_szUint64S.f; rw [wrap_sub h0 ha hl]; split <;> rfl)).mono ?_
 rintro e w' ⟨rfl, hb⟩
 refine ⟨⟨_, rfl, ?_⟩, by first | exact hb | exact hb.below⟩
 unfold Left
 split <;> omega
set_option maxHeartbeats 4000000 in
set_option maxRecDepth 100000 in
theorem szEvent_w (l0 : Int) (l1 : List Int) (A1 : Option Addr) (a1 : Nat) (a : Int) (ga : 0 ≤ a) (gb : a ≤ 1048576) (w : World) (h1 : Kd.C (Kd.int .u8) w A1 l1.length l1) (k1 : l1.length ≤ a1) :
  Calls Tryz.prog 157 #[.agg #[.int .i64 l0, .slice A1 l1.length a1], .int .i64 a] w fun e w' => (∃ r, e = .returned (.int .i64 r) ∧ Left a r (l1.length)) ∧ Below w.heap.size w w' := by
 have K1 := Aside0.mk (fun (W : World) (hW : Below w.heap.size w W) (a : Int) (ga : 0 ≤ a) (gb : a ≤ 1048576) => szByteS_w A1 a1 l1 a ga gb W (Kd.C_below h1 hW) k1)
 clear h1 k1
 go_enter Tryz.func157, Tryz.ntmps157
 go_upto_region 1 with (fail)
 have bx := blk_new w (.cells #[.int .i64 l0, .slice A1 l1.length a1] 182)
 have hB := below_alloc (Below.refl w.heap.size w) (.cells #[.int .i64 l0, .slice A1 l1.length a1] 182)
 generalize w.alloc (.cells #[.int .i64 l0, .slice A1 l1.length a1] 182) = W0 at *
 have BA := Aside0.mk bx
 have HB := Aside0.mk hB
 clear bx hB
 obtain ⟨x0, x1⟩ := cells2 BA.out
 go_wp2_with fail
 refine (K1.out _ HB.out a (by omega) (by omega)).mono ?_
 rintro e W1 ⟨⟨r1, rfl, hr⟩, hb⟩
 clear x0 x1
 replace BA := Aside0.mk (blk_below BA.out hb)
 replace HB := Aside0.mk (below_step HB.out hb)
 clear hb
 unfold Left at hr
 rcases hr with hr | ⟨p1, q1⟩
 ·
  have d0 : decide (r1 < 0) = true := decide_eq_true hr
  go_wp2_with fail
  go_ret
  exact ⟨⟨_, rfl, Or.inl (by omega)⟩, HB.out⟩
 have d1 : decide (r1 < 0) = false := decide_eq_false (by omega)
 go_wp2_with fail
 go_ret
 exact ⟨⟨_, rfl, Or.inr ⟨by omega, by omega⟩⟩, HB.out⟩
set_option maxHeartbeats 4000000 in
set_option maxRecDepth 100000 in
theorem szEventS_w (A : Option Addr) (c : Nat) (xs : List EvL) (a : Int) (h0 : 0 ≤ a) (ha : a ≤ 1048576) (w : World) (h1 : Kd.C kEvL w A xs.length xs) (k1 : xs.length ≤ c) :
  Calls Tryz.prog 126 #[.slice A xs.length c, .int .i64 a] w fun e w' => (∃ r, e = .returned (.int .i64 r) ∧ Left a r (xs.length + pE xs)) ∧ Below w.heap.size w w' := by
 have hws : wrap64 (a - (xs.length : Int)) = a - xs.length := wrap_sub h0 ha (Int.ofNat_le.2 h1.2.1)
 have H1 := Aside0.mk h1
 obtain ⟨b, hb⟩ : ∃ b, a - (xs.length : Int) = b := ⟨_, rfl⟩
 rw [hb] at hws
 clear h1 k1
 by_cases hn : b < 0
 ·
  have d0 : decide (b < 0) = true := decide_eq_true hn
  go_enter Tryz.func126, Tryz.ntmps126
  go_wp2_with fail
  go_ret
  exact ⟨⟨_, rfl, Or.inl (by omega)⟩, Below.refl _ _⟩
 have d0 : decide (b < 0) = false := decide_eq_false hn
 go_enter Tryz.func126, Tryz.ntmps126
 go_wp2_with fail
 have HWS := Aside0.mk hws
 clear hws
 go_loopg [1, 5] (xs.length + 1) (fun kq v1 v5 w' => ∃ (i : Nat) (r : Int), v1 = .int .i64 r ∧ v5 = .int .i64 i ∧ Aside0 (kq + i = xs.length + 1 ∧ i ≤ xs.length) ∧ Aside0 (0 ≤ r ∧ r + sumL lE (xs.take i) ≤ b) ∧ Aside0 (Below w.heap.size w w'))
 case atStart => exact ⟨0, b, rfl, rfl, ⟨⟨by omega, by omega⟩⟩, ⟨⟨by omega, by simp [sumL]⟩⟩, ⟨Below.refl _ _⟩⟩
 case round =>
  obtain ⟨i, r, rfl, rfl, HJ, HR, HB⟩ := hrel
  have hj0 := HJ.out
  have hr0 := HR.out
  by_cases hj : i < xs.length
  ·
   have c1 : decide ((i : Int) < (xs.length : Int)) = true := decide_eq_true (by omega)
   have c2 : decide (i < xs.length) = true := decide_eq_true hj
   have hsu := sumL_succ lE xs i hj
   obtain ⟨ad, A1, a1, eA, x0, x1, hl1, hi1⟩ := at_T182 H1.out (i : Int) (by omega) (by omega)
   have ex : rd_T182 xs (i : Int) = xs[i] := by unfold rd_T182; rw [Int.toNat_natCast, List.getD_eq_getElem?_getD, List.getElem?_eq_getElem hj]; rfl
   rw [ex] at x0 x1 hl1 hi1
   rw [Int.toNat_natCast] at x0 x1
   cases eA
   have KK := Aside0.mk (fun (W : World) (hW : Below w.heap.size w W) => szEvent_w xs[i].f0 xs[i].f1 A1 a1 r hr0.1 (by omega) W (Kd.C_below hi1 hW) hl1)
   have hal : ∀ {a : Addr} {z : Value}, w.cell? a = some z → wr.cell? a = some z := fun hz => (HB.out.cell (World.block_lt_of_cell? w _ hz)).trans hz
   replace x0 := hal x0
   replace x1 := hal x1
   have hle : lE xs[i] = xs[i].f1.length := rfl
   clear hal ex hl1 hi1
   obtain ⟨y, hy⟩ : ∃ y, xs[i] = y := ⟨_, rfl⟩
   rw [hy] at KK hsu hle x0 x1
   clear hy
   have HSU := Aside0.mk (And.intro hsu hle)
   clear hsu hle
   go_wp2_with fail
   refine (KK.out _ HB.out).mono ?_
   rintro e W1 ⟨⟨r1, rfl, hr⟩, hb1⟩
   replace HB := Aside0.mk (below_step HB.out hb1)
   clear hb1 KK x0 x1
   unfold Left at hr
   rcases hr with hr | ⟨p, q⟩
   ·
    have d1 : decide (r1 < 0) = true := decide_eq_true hr
    go_wp2_with fail
    go_ret
    exact ⟨⟨_, rfl, Or.inl (by omega)⟩, HB.out⟩
   have d1 : decide (r1 < 0) = false := decide_eq_false (by omega)
   obtain ⟨k1, rfl⟩ : ∃ k1, gk = k1 + 1 := ⟨gk - 1, by omega⟩
   go_wp2_with fail
   go_roundg k1
   case measure => omega
   case rel => exact ⟨i + 1, r1, rfl, by go_num, ⟨⟨by omega, by omega⟩⟩, ⟨⟨p, by have := HSU.out.1; have := HSU.out.2; omega⟩⟩, HB⟩
  ·
   have c1 : decide ((i : Int) < (xs.length : Int)) = false := decide_eq_false (by omega)
   have c2 : decide (i < xs.length) = false := decide_eq_false hj
   obtain rfl : i = xs.length := by omega
   rw [List.take_length] at hr0
   go_wp2_with fail
   go_ret
   exact ⟨⟨_, rfl, Or.inr ⟨hr0.1, by unfold pE; omega⟩⟩, HB.out⟩
set_option maxHeartbeats 4000000 in
set_option maxRecDepth 100000 in
theorem szSession_w (l0 : Int) (l1 : Int) (l2 : List EvL) (A2 : Option Addr) (a2 : Nat) (a : Int) (ga : 0 ≤ a) (gb : a ≤ 1048576) (w : World) (h2 : Kd.C kEvL w A2 l2.length l2) (k2 : l2.length ≤ a2) :
  Calls Tryz.prog 77 #[.agg #[.int .u64 l0, .int .i64 l1, .slice A2 l2.length a2], .int .i64 a] w fun e w' => (∃ r, e = .returned (.int .i64 r) ∧ Left a r ((l2.length + pE l2))) ∧ Below w.heap.size w w' := by
 have K2 := Aside0.mk (fun (W : World) (hW : Below w.heap.size w W) (a : Int) (ga : 0 ≤ a) (gb : a ≤ 1048576) => szEventS_w A2 a2 l2 a ga gb W (Kd.C_below h2 hW) k2)
 clear h2 k2
 go_enter Tryz.func77, Tryz.ntmps77
 go_upto_region 1 with (fail)
 have bx := blk_new w (.cells #[.int .u64 l0, .int .i64 l1, .slice A2 l2.length a2] 104)
 have hB := below_alloc (Below.refl w.heap.size w) (.cells #[.int .u64 l0, .int .i64 l1, .slice A2 l2.length a2] 104)
 generalize w.alloc (.cells #[.int .u64 l0, .int .i64 l1, .slice A2 l2.length a2] 104) = W0 at *
 have BA := Aside0.mk bx
 have HB := Aside0.mk hB
 clear bx hB
 obtain ⟨x0, x1, x2⟩ := cells3 BA.out
 go_wp2_with fail
 refine (K2.out _ HB.out a (by omega) (by omega)).mono ?_
 rintro e W1 ⟨⟨r2, rfl, hr⟩, hb⟩
 clear x0 x1 x2
 replace BA := Aside0.mk (blk_below BA.out hb)
 replace HB := Aside0.mk (below_step HB.out hb)
 clear hb
 unfold Left at hr
 rcases hr with hr | ⟨p2, q2⟩
 ·
  have d0 : decide (r2 < 0) = true := decide_eq_true hr
  go_wp2_with fail
  go_ret
  exact ⟨⟨_, rfl, Or.inl (by omega)⟩, HB.out⟩
 have d2 : decide (r2 < 0) = false := decide_eq_false (by omega)
 go_wp2_with fail
 go_ret
 exact ⟨⟨_, rfl, Or.inr ⟨by omega, by omega⟩⟩, HB.out⟩
set_option maxHeartbeats 4000000 in
set_option maxRecDepth 100000 in
theorem szSessionS_w (A : Option Addr) (c : Nat) (xs : List SeL) (a : Int) (h0 : 0 ≤ a) (ha : a ≤ 1048576) (w : World) (h1 : Kd.C kSeL w A xs.length xs) (k1 : xs.length ≤ c) :
  Calls Tryz.prog 30 #[.slice A xs.length c, .int .i64 a] w fun e w' => (∃ r, e = .returned (.int .i64 r) ∧ Left a r (xs.length + pS xs)) ∧ Below w.heap.size w w' := by
 have hws : wrap64 (a - (xs.length : Int)) = a - xs.length := wrap_sub h0 ha (Int.ofNat_le.2 h1.2.1)
 have H1 := Aside0.mk h1
 obtain ⟨b, hb⟩ : ∃ b, a - (xs.length : Int) = b := ⟨_, rfl⟩
 rw [hb] at hws
 clear h1 k1
 by_cases hn : b < 0
 ·
  have d0 : decide (b < 0) = true := decide_eq_true hn
  go_enter Tryz.func30, Tryz.ntmps30
  go_wp2_with fail
  go_ret
  exact ⟨⟨_, rfl, Or.inl (by omega)⟩, Below.refl _ _⟩
 have d0 : decide (b < 0) = false := decide_eq_false hn
 go_enter Tryz.func30, Tryz.ntmps30
 go_wp2_with fail
 have HWS := Aside0.mk hws
 clear hws
 go_loopg [1, 5] (xs.length + 1) (fun kq v1 v5 w' => ∃ (i : Nat) (r : Int), v1 = .int .i64 r ∧ v5 = .int .i64 i ∧ Aside0 (kq + i = xs.length + 1 ∧ i ≤ xs.length) ∧ Aside0 (0 ≤ r ∧ r + sumL lS (xs.take i) ≤ b) ∧ Aside0 (Below w.heap.size w w'))
 case atStart => exact ⟨0, b, rfl, rfl, ⟨⟨by omega, by omega⟩⟩, ⟨⟨by omega, by simp [sumL]⟩⟩, ⟨Below.refl _ _⟩⟩
 case round =>
  obtain ⟨i, r, rfl, rfl, HJ, HR, HB⟩ := hrel
  have hj0 := HJ.out
  have hr0 := HR.out
  by_cases hj : i < xs.length
  ·
   have c1 : decide ((i : Int) < (xs.length : Int)) = true := decide_eq_true (by omega)
   have c2 : decide (i < xs.length) = true := decide_eq_true hj
   have hsu := sumL_succ lS xs i hj
   obtain ⟨ad, A2, a2, eA, x0, x1, x2, hl2, hi2⟩ := at_T104 H1.out (i : Int) (by omega) (by omega)
   have ex : rd_T104 xs (i : Int) = xs[i] := by unfold rd_T104; rw [Int.toNat_natCast, List.getD_eq_getElem?_getD, List.getElem?_eq_getElem hj]; rfl
   rw [ex] at x0 x1 x2 hl2 hi2
   rw [Int.toNat_natCast] at x0 x1 x2
   cases eA
   have KK := Aside0.mk (fun (W : World) (hW : Below w.heap.size w W) => szSession_w xs[i].f0 xs[i].f1 xs[i].f2 A2 a2 r hr0.1 (by omega) W (Kd.C_below hi2 hW) hl2)
   have hal : ∀ {a : Addr} {z : Value}, w.cell? a = some z → wr.cell? a = some z := fun hz => (HB.out.cell (World.block_lt_of_cell? w _ hz)).trans hz
   replace x0 := hal x0
   replace x1 := hal x1
   replace x2 := hal x2
   have hle : lS xs[i] = (xs[i].f2.length + pE xs[i].f2) := rfl
   clear hal ex hl2 hi2
   obtain ⟨y, hy⟩ : ∃ y, xs[i] = y := ⟨_, rfl⟩
   rw [hy] at KK hsu hle x0 x1 x2
   clear hy
   have HSU := Aside0.mk (And.intro hsu hle)
   clear hsu hle
   go_wp2_with fail
   refine (KK.out _ HB.out).mono ?_
   rintro e W1 ⟨⟨r1, rfl, hr⟩, hb1⟩
   replace HB := Aside0.mk (below_step HB.out hb1)
   clear hb1 KK x0 x1 x2
   unfold Left at hr
   rcases hr with hr | ⟨p, q⟩
   ·
    have d1 : decide (r1 < 0) = true := decide_eq_true hr
    go_wp2_with fail
    go_ret
    exact ⟨⟨_, rfl, Or.inl (by omega)⟩, HB.out⟩
   have d1 : decide (r1 < 0) = false := decide_eq_false (by omega)
   obtain ⟨k1, rfl⟩ : ∃ k1, gk = k1 + 1 := ⟨gk - 1, by omega⟩
   go_wp2_with fail
   go_roundg k1
   case measure => omega
   case rel => exact ⟨i + 1, r1, rfl, by go_num, ⟨⟨by omega, by omega⟩⟩, ⟨⟨p, by have := HSU.out.1; have := HSU.out.2; omega⟩⟩, HB⟩
  ·
   have c1 : decide ((i : Int) < (xs.length : Int)) = false := decide_eq_false (by omega)
   have c2 : decide (i < xs.length) = false := decide_eq_false hj
   obtain rfl : i = xs.length := by omega
   rw [List.take_length] at hr0
   go_wp2_with fail
   go_ret
   exact ⟨⟨_, rfl, Or.inr ⟨hr0.1, by unfold pS; omega⟩⟩, HB.out⟩
set_option maxHeartbeats 4000000 in
set_option maxRecDepth 100000 in
theorem szNode_w (l0 : List Int) (l1 : List Int) (l2 : Int) (l3 : Int) (l4 : List Int) (l5 : Int) (l6 : Int) (l7 : List Int) (A0 : Option Addr) (a0 : Nat) (A1 : Option Addr) (a1 : Nat) (A4 : Option Addr) (a4 : Nat) (A7 : Option Addr) (a7 : Nat) (a : Int) (ga : 0 ≤ a) (gb : a ≤ 1048576) (w : World) (h0 : Kd.C (Kd.int .u8) w A0 l0.length l0) (k0 : l0.length ≤ a0) (h1 : Kd.C (Kd.int .u8) w A1 l1.length l1) (k1 : l1.length ≤ a1) (h4 : Kd.C (Kd.int .u64) w A4 l4.length l4) (k4 : l4.length ≤ a4) (h7 : Kd.C (Kd.int .u64) w A7 l7.length l7) (k7 : l7.length ≤ a7) :
  Calls Tryz.prog 78 #[.agg #[.slice A0 l0.length a0, .slice A1 l1.length a1, .int .u64 l2, .int .i64 l3, .slice A4 l4.length a4, .int .u64 l5, .int .u64 l6, .slice A7 l7.length a7], .int .i64 a] w fun e w' => (∃ r, e = .returned (.int .i64 r) ∧ Left a r (l0.length + l1.length + l4.length + l7.length)) ∧ Below w.heap.size w w' := by
 have K0 := Aside0.mk (fun (W : World) (hW : Below w.heap.size w W) (a : Int) (ga : 0 ≤ a) (gb : a ≤ 1048576) => szByteS_w A0 a0 l0 a ga gb W (Kd.C_below h0 hW) k0)
 have K1 := Aside0.mk (fun (W : World) (hW : Below w.heap.size w W) (a : Int) (ga : 0 ≤ a) (gb : a ≤ 1048576) => szByteS_w A1 a1 l1 a ga gb W (Kd.C_below h1 hW) k1)
 have K4 := Aside0.mk (fun (W : World) (hW : Below w.heap.size w W) (a : Int) (ga : 0 ≤ a) (gb : a ≤ 1048576) => szUint64S_w A4 a4 l4 a ga gb W (Kd.C_below h4 hW) k4)
 have K7 := Aside0.mk (fun (W : World) (hW : Below w.heap.size w W) (a : Int) (ga : 0 ≤ a) (gb : a ≤ 1048576) => szUint64S_w A7 a7 l7 a ga gb W (Kd.C_below h7 hW) k7)
 clear h0 k0 h1 k1 h4 k4 h7 k7
 go_enter Tryz.func78, Tryz.ntmps78
 go_upto_region 1 with (fail)
 have bx := blk_new w (.cells #[.slice A0 l0.length a0, .slice A1 l1.length a1, .int .u64 l2, .int .i64 l3, .slice A4 l4.length a4, .int .u64 l5, .int .u64 l6, .slice A7 l7.length a7] 106)
 have hB := below_alloc (Below.refl w.heap.size w) (.cells #[.slice A0 l0.length a0, .slice A1 l1.length a1, .int .u64 l2, .int .i64 l3, .slice A4 l4.length a4, .int .u64 l5, .int .u64 l6, .slice A7 l7.length a7] 106)
 generalize w.alloc (.cells #[.slice A0 l0.length a0, .slice A1 l1.length a1, .int .u64 l2, .int .i64 l3, .slice A4 l4.length a4, .int .u64 l5, .int .u64 l6, .slice A7 l7.length a7] 106) = W0 at *
 have BA := Aside0.mk bx
 have HB := Aside0.mk hB
 clear bx hB
 obtain ⟨x0, x1, x2, x3, x4, x5, x6, x7⟩ := cells8 BA.out
 go_wp2_with fail
 refine (K0.out _ HB.out a (by omega) (by omega)).mono ?_
 rintro e W1 ⟨⟨r0, rfl, hr⟩, hb⟩
 clear x0 x1 x2 x3 x4 x5 x6 x7
 replace BA := Aside0.mk (blk_below BA.out hb)
 replace HB := Aside0.mk (below_step HB.out hb)
 clear hb
 unfold Left at hr
 rcases hr with hr | ⟨p0, q0⟩
 ·
  have d0 : decide (r0 < 0) = true := decide_eq_true hr
  go_wp2_with fail
  go_ret
  exact ⟨⟨_, rfl, Or.inl (by omega)⟩, HB.out⟩
 have d0 : decide (r0 < 0) = false := decide_eq_false (by omega)
 obtain ⟨x0, x1, x2, x3, x4, x5, x6, x7⟩ := cells8 BA.out
 go_wp2_with fail
 refine (K1.out _ HB.out r0 (by omega) (by omega)).mono ?_
 rintro e W2 ⟨⟨r1, rfl, hr⟩, hb⟩
 clear x0 x1 x2 x3 x4 x5 x6 x7
 replace BA := Aside0.mk (blk_below BA.out hb)
 replace HB := Aside0.mk (below_step HB.out hb)
 clear hb
 unfold Left at hr
 rcases hr with hr | ⟨p1, q1⟩
 ·
  have d0 : decide (r1 < 0) = true := decide_eq_true hr
  go_wp2_with fail
  go_ret
  exact ⟨⟨_, rfl, Or.inl (by omega)⟩, HB.out⟩
 have d1 : decide (r1 < 0) = false := decide_eq_false (by omega)
 obtain ⟨x0, x1, x2, x3, x4, x5, x6, x7⟩ := cells8 BA.out
 go_wp2_with fail
 refine (K4.out _ HB.out r1 (by omega) (by omega)).mono ?_
 rintro e W3 ⟨⟨r4, rfl, hr⟩, hb⟩
 clear x0 x1 x2 x3 x4 x5 x6 x7
 replace BA := Aside0.mk (blk_below BA.out hb)
 replace HB := Aside0.mk (below_step HB.out hb)
 clear hb
 unfold Left at hr
 rcases hr with hr | ⟨p4, q4⟩
 ·
  have d0 : decide (r4 < 0) = true := decide_eq_true hr
  go_wp2_with fail
  go_ret
  exact ⟨⟨_, rfl, Or.inl (by omega)⟩, HB.out⟩
 have d4 : decide (r4 < 0) = false := decide_eq_false (by omega)
 obtain ⟨x0, x1, x2, x3, x4, x5, x6, x7⟩ := cells8 BA.out
 go_wp2_with fail
 refine (K7.out _ HB.out r4 (by omega) (by omega)).mono ?_
 rintro e W4 ⟨⟨r7, rfl, hr⟩, hb⟩
 clear x0 x1 x2 x3 x4 x5 x6 x7
 replace BA := Aside0.mk (blk_below BA.out hb)
 replace HB := Aside0.mk (below_step HB.out hb)
 clear hb
 unfold Left at hr
 rcases hr with hr | ⟨p7, q7⟩
 ·
  have d0 : decide (r7 < 0) = true := decide_eq_true hr
  go_wp2_with fail
  go_ret
  exact ⟨⟨_, rfl, Or.inl (by omega)⟩, HB.out⟩
 have d7 : decide (r7 < 0) = false := decide_eq_false (by omega)
 go_wp2_with fail
 go_ret
 exact ⟨⟨_, rfl, Or.inr ⟨by omega, by omega⟩⟩, HB.out⟩
set_option maxHeartbeats 4000000 in
set_option maxRecDepth 100000 in
theorem szNodeS_w (A : Option Addr) (c : Nat) (xs : List NoL) (a : Int) (h0 : 0 ≤ a) (ha : a ≤ 1048576) (w : World) (h1 : Kd.C kNoL w A xs.length xs) (k1 : xs.length ≤ c) :
  Calls Tryz.prog 31 #[.slice A xs.length c, .int .i64 a] w fun e w' => (∃ r, e = .returned (.int .i64 r) ∧ Left a r (xs.length + pN xs)) ∧ Below w.heap.size w w' := by
 have hws : wrap64 (a - (xs.length : Int)) = a - xs.length := wrap_sub h0 ha (Int.ofNat_le.2 h1.2.1)
 have H1 := Aside0.mk h1
 obtain ⟨b, hb⟩ : ∃ b, a - (xs.length : Int) = b := ⟨_, rfl⟩
 rw [hb] at hws
 clear h1 k1
 by_cases hn : b < 0
 ·
  have d0 : decide (b < 0) = true := decide_eq_true hn
  go_enter Tryz.func31, Tryz.ntmps31
  go_wp2_with fail
  go_ret
  exact ⟨⟨_, rfl, Or.inl (by omega)⟩, Below.refl _ _⟩
 have d0 : decide (b < 0) = false := decide_eq_false hn
 go_enter Tryz.func31, Tryz.ntmps31
 go_wp2_with fail
 have HWS := Aside0.mk hws
 clear hws
 go_loopg [1, 5] (xs.length + 1) (fun kq v1 v5 w' => ∃ (i : Nat) (r : Int), v1 = .int .i64 r ∧ v5 = .int .i64 i ∧ Aside0 (kq + i = xs.length + 1 ∧ i ≤ xs.length) ∧ Aside0 (0 ≤ r ∧ r + sumL lN (xs.take i) ≤ b) ∧ Aside0 (Below w.heap.size w w'))
 case atStart => exact ⟨0, b, rfl, rfl, ⟨⟨by omega, by omega⟩⟩, ⟨⟨by omega, by simp [sumL]⟩⟩, ⟨Below.refl _ _⟩⟩
 case round =>
  obtain ⟨i, r, rfl, rfl, HJ, HR, HB⟩ := hrel
  have hj0 := HJ.out
  have hr0 := HR.out
  by_cases hj : i < xs.length
  ·
   have c1 : decide ((i : Int) < (xs.length : Int)) = true := decide_eq_true (by omega)
   have c2 : decide (i < xs.length) = true := decide_eq_true hj
   have hsu := sumL_succ lN xs i hj
   obtain ⟨ad, A0, a0, A1, a1, A4, a4, A7, a7, eA, x0, x1, x2, x3, x4, x5, x6, x7, hl0, hi0, hl1, hi1, hl4, hi4, hl7, hi7⟩ := at_T106 H1.out (i : Int) (by omega) (by omega)
   have ex : rd_T106 xs (i : Int) = xs[i] := by unfold rd_T106; rw [Int.toNat_natCast, List.getD_eq_getElem?_getD, List.getElem?_eq_getElem hj]; rfl
   rw [ex] at x0 x1 x2 x3 x4 x5 x6 x7 hl0 hi0 hl1 hi1 hl4 hi4 hl7 hi7
   rw [Int.toNat_natCast] at x0 x1 x2 x3 x4 x5 x6 x7
   cases eA
   have KK := Aside0.mk (fun (W : World) (hW : Below w.heap.size w W) => szNode_w xs[i].f0 xs[i].f1 xs[i].f2 xs[i].f3 xs[i].f4 xs[i].f5 xs[i].f6 xs[i].f7 A0 a0 A1 a1 A4 a4 A7 a7 r hr0.1 (by omega) W (Kd.C_below hi0 hW) hl0 (Kd.C_below hi1 hW) hl1 (Kd.C_below hi4 hW) hl4 (Kd.C_below hi7 hW) hl7)
   have hal : ∀ {a : Addr} {z : Value}, w.cell? a = some z → wr.cell? a = some z := fun hz => (HB.out.cell (World.block_lt_of_cell? w _ hz)).trans hz
   replace x0 := hal x0
   replace x1 := hal x1
   replace x2 := hal x2
   replace x3 := hal x3
   replace x4 := hal x4
   replace x5 := hal x5
   replace x6 := hal x6
   replace x7 := hal x7
   have hle : lN xs[i] = xs[i].f0.length + xs[i].f1.length + xs[i].f4.length + xs[i].f7.length := rfl
   clear hal ex hl0 hi0 hl1 hi1 hl4 hi4 hl7 hi7
   obtain ⟨y, hy⟩ : ∃ y, xs[i] = y := ⟨_, rfl⟩
   rw [hy] at KK hsu hle x0 x1 x2 x3 x4 x5 x6 x7
   clear hy
   have HSU := Aside0.mk (And.intro hsu hle)
   clear hsu hle
   go_wp2_with fail
   refine (KK.out _ HB.out).mono ?_
   rintro e W1 ⟨⟨r1, rfl, hr⟩, hb1⟩
   replace HB := Aside0.mk (below_step HB.out hb1)
   clear hb1 KK x0 x1 x2 x3 x4 x5 x6 x7
   unfold Left at hr
   rcases hr with hr | ⟨p, q⟩
   ·
    have d1 : decide (r1 < 0) = true := decide_eq_true hr
    go_wp2_with fail
    go_ret
    exact ⟨⟨_, rfl, Or.inl (by omega)⟩, HB.out⟩
   have d1 : decide (r1 < 0) = false := decide_eq_false (by omega)
   obtain ⟨k1, rfl⟩ : ∃ k1, gk = k1 + 1 := ⟨gk - 1, by omega⟩
   go_wp2_with fail
   go_roundg k1
   case measure => omega
   case rel => exact ⟨i + 1, r1, rfl, by go_num, ⟨⟨by omega, by omega⟩⟩, ⟨⟨p, by have := HSU.out.1; have := HSU.out.2; omega⟩⟩, HB⟩
  ·
   have c1 : decide ((i : Int) < (xs.length : Int)) = false := decide_eq_false (by omega)
   have c2 : decide (i < xs.length) = false := decide_eq_false hj
   obtain rfl : i = xs.length := by omega
   rw [List.take_length] at hr0
   go_wp2_with fail
   go_ret
   exact ⟨⟨_, rfl, Or.inr ⟨hr0.1, by unfold pN; omega⟩⟩, HB.out⟩
set_option maxHeartbeats 4000000 in
set_option maxRecDepth 100000 in
theorem szState_w (l0 : Int) (l1 : Int) (l2 : Int) (l3 : Int) (l4 : List SeL) (l5 : List NoL) (A4 : Option Addr) (a4 : Nat) (A5 : Option Addr) (a5 : Nat) (a : Int) (ga : 0 ≤ a) (gb : a ≤ 1048576) (w : World) (h4 : Kd.C kSeL w A4 l4.length l4) (k4 : l4.length ≤ a4) (h5 : Kd.C kNoL w A5 l5.length l5) (k5 : l5.length ≤ a5) :
  Calls Tryz.prog 6 #[.agg #[.int .u64 l0, .int .u64 l1, .int .u64 l2, .int .i64 l3, .slice A4 l4.length a4, .slice A5 l5.length a5], .int .i64 a] w fun e w' => (∃ r, e = .returned (.int .i64 r) ∧ Left a r ((l4.length + pS l4) + (l5.length + pN l5))) ∧ Below w.heap.size w w' := by
 have K4 := Aside0.mk (fun (W : World) (hW : Below w.heap.size w W) (a : Int) (ga : 0 ≤ a) (gb : a ≤ 1048576) => szSessionS_w A4 a4 l4 a ga gb W (Kd.C_below h4 hW) k4)
 have K5 := Aside0.mk (fun (W : World) (hW : Below w.heap.size w W) (a : Int) (ga : 0 ≤ a) (gb : a ≤ 1048576) => szNodeS_w A5 a5 l5 a ga gb W (Kd.C_below h5 hW) k5)
 clear h4 k4 h5 k5
 go_enter Tryz.func6, Tryz.ntmps6
 go_upto_region 1 with (fail)
 have bx := blk_new w (.cells #[.int .u64 l0, .int .u64 l1, .int .u64 l2, .int .i64 l3, .slice A4 l4.length a4, .slice A5 l5.length a5] 26)
 have hB := below_alloc (Below.refl w.heap.size w) (.cells #[.int .u64 l0, .int .u64 l1, .int .u64 l2, .int .i64 l3, .slice A4 l4.length a4, .slice A5 l5.length a5] 26)
 generalize w.alloc (.cells #[.int .u64 l0, .int .u64 l1, .int .u64 l2, .int .i64 l3, .slice A4 l4.length a4, .slice A5 l5.length a5] 26) = W0 at *
 have BA := Aside0.mk bx
 have HB := Aside0.mk hB
 clear bx hB
 obtain ⟨x0, x1, x2, x3, x4, x5⟩ := cells6 BA.out
 go_wp2_with fail
 refine (K4.out _ HB.out a (by omega) (by omega)).mono ?_
 rintro e W1 ⟨⟨r4, rfl, hr⟩, hb⟩
 clear x0 x1 x2 x3 x4 x5
 replace BA := Aside0.mk (blk_below BA.out hb)
 replace HB := Aside0.mk (below_step HB.out hb)
 clear hb
 unfold Left at hr
 rcases hr with hr | ⟨p4, q4⟩
 ·
  have d0 : decide (r4 < 0) = true := decide_eq_true hr
  go_wp2_with fail
  go_ret
  exact ⟨⟨_, rfl, Or.inl (by omega)⟩, HB.out⟩
 have d4 : decide (r4 < 0) = false := decide_eq_false (by omega)
 obtain ⟨x0, x1, x2, x3, x4, x5⟩ := cells6 BA.out
 go_wp2_with fail
 refine (K5.out _ HB.out r4 (by omega) (by omega)).mono ?_
 rintro e W2 ⟨⟨r5, rfl, hr⟩, hb⟩
 clear x0 x1 x2 x3 x4 x5
 replace BA := Aside0.mk (blk_below BA.out hb)
 replace HB := Aside0.mk (below_step HB.out hb)
 clear hb
 unfold Left at hr
 rcases hr with hr | ⟨p5, q5⟩
 ·
  have d0 : decide (r5 < 0) = true := decide_eq_true hr
  go_wp2_with fail
  go_ret
  exact ⟨⟨_, rfl, Or.inl (by omega)⟩, HB.out⟩
 have d5 : decide (r5 < 0) = false := decide_eq_false (by omega)
 go_wp2_with fail
 go_ret
 exact ⟨⟨_, rfl, Or.inr ⟨by omega, by omega⟩⟩, HB.out⟩
theorem smSe_of {xs : List SeL} (h : pS xs ≤ 1048576) : SmSe xs := fun x hx => by
 have h1 := sumL_bound lS h x hx
 unfold lS at h1
 exact ⟨by omega, fun y hy => by
  have h2 := sumL_mem lE hy
  have h3 : pE x.f2 = sumL lE x.f2 := rfl
  unfold lE at h2 h3
  omega⟩
theorem smNo_of {ns : List NoL} (h : pN ns ≤ 1048576) : SmNo ns := fun x hx => by
 have h1 := sumL_bound lN h x hx
 unfold lN at h1
 omega
section
attribute [local go_sem] max2_int max_two
set_option linter.unusedVariables false
set_option linter.unusedSimpArgs false
def laws_markUint64S.l0 : Nat → List Int → Int → Int → Option (Int × List Int)
 | 0, _, _, _ => none
 | k + 1, x0, x1, x5 => if x5 < (x0.length : Int) then (if 0 ≤ x5 then (laws_markUint64S.l0 k (x0.set (x5 : Int).toNat (IntKind.u64.wrap (x1))) (wrap64 (x1 + 1)) (wrap64 (x5 + 1))) else (none)) else (some (x1, x0))
def laws_markUint64S.f (k : Nat) (l0 : List Int) (a1 : Int) : Option (Int × List Int) := laws_markUint64S.l0 k l0 a1 0
set_option maxHeartbeats 8000000 in
set_option maxRecDepth 100000 in
theorem laws_markUint64S.calls (k : Nat) (P0_ : Nat → Prop) (u9000_ : Value) (l0 : List Int) (a1 : Int) (r1 : Int) (r2 : List Int) (w0 w : World) (hB : Below w0.heap.size w0 w) (ho0 : Kd.R (Kd.int .u64) 22 w w0.heap.size P0_ u9000_ l0) (h : laws_markUint64S.f k l0 a1 = some (r1, r2)) :
  Calls Tryz.prog 95 #[u9000_, .int .i64 a1] w fun e w' => e = .returned (.int .i64 r1) ∧ Kd.R (Kd.int .u64) 22 w' w0.heap.size (fun k_ => (P0_ k_ ∨ w.heap.size ≤ k_)) u9000_ r2 ∧ Below w0.heap.size w0 w' ∧ Kept w w' (fun k_ => P0_ k_) := by
 have HO0 := Aside0.mk (show Kd.R (Kd.int .u64) 22 w w0.heap.size (fun k_ => (P0_ k_ ∨ w.heap.size ≤ k_)) u9000_ l0 from Kd.R_mono ho0 (fun k_ hk => (.inl hk)))
 have HK := Aside0.mk (Kept.refl w (fun k_ => P0_ k_))
 have HW0 := Aside0.mk hB.size
 have HB := Aside0.mk hB
 clear hB
 have H : (laws_markUint64S.l0 k l0 a1 0) = some (r1, r2) := h
 clear h
 have H' := Aside0.mk H
 clear H
 go_enter Tryz.func95, Tryz.ntmps95
 go_wp2
 go_loopg [1, 5] k (fun kq v1 v5 w' => ∃ (x0_1 : List Int) (x1_1 : Int) (x5_1 : Int), v1 = .int .i64 x1_1 ∧ v5 = .int .i64 x5_1 ∧ Aside0 (laws_markUint64S.l0 kq x0_1 x1_1 x5_1 = some (r1, r2)) ∧ Aside0 (kq ≤ k) ∧ Aside0 (Kd.R (Kd.int .u64) 22 w' w0.heap.size (fun k_ => (P0_ k_ ∨ w.heap.size ≤ k_)) u9000_ x0_1) ∧ Aside0 (Kept w w' (fun k_ => P0_ k_)) ∧ Aside0 (Below w0.heap.size w0 w'))
 case atStart => exact ⟨(l0), (a1), (0), (by first | rfl | (simp; done) | (simp [*]; done)), (by first | rfl | (simp; done) | (simp [*]; done)), H', ⟨Nat.le_refl _⟩, ⟨by (with_reducible repeat (first | apply Kd.R_alloc | apply Kd.R_drewN | apply Kd.R_drew)); exact HO0.out⟩, ⟨by repeat (first | (with_reducible first | exact HK.out | apply Kept.alloc | apply Kept.drewN | apply Kept.drew) | exact HK.out)⟩, ⟨by repeat (first | (with_reducible first | exact HB.out | apply below_alloc | apply pw_below_drewN | apply below_drew1) | exact HB.out)⟩⟩
 case round =>
  clear H'
  try clear p2
  obtain ⟨x0_1, x1_1, x5_1, rfl, rfl, HA, HK1, HO_0, HK, HB⟩ := hrel
  cases gk with
  | zero => exact absurd HA.out (by simp [laws_markUint64S.l0])
  | succ k1 =>
   have H := HA.out
   clear HA
   simp only [laws_markUint64S.l0] at H
   by_cases c3 : x5_1 < (x0_1.length : Int)
   ·
    rw [if_pos c3] at H
    have c3b0 : decide (x5_1 < (x0_1.length : Int)) = true := decide_eq_true c3
    clear c3
    by_cases c4 : 0 ≤ x5_1
    ·
     rw [if_pos c4] at H
     have c4b0 : decide (0 ≤ x5_1) = true := decide_eq_true c4
     clear c4
     obtain ⟨y373, hy373⟩ : ∃ y_ : List Int, y_ = (x0_1.set (x5_1 : Int).toNat (IntKind.u64.wrap (x1_1))) := ⟨_, rfl⟩
     replace H : (laws_markUint64S.l0 k1 y373 (wrap64 (x1_1 + 1)) (wrap64 (x5_1 + 1))) = some (r1, r2) := by first | (rw [hy373]; with_reducible exact H) | (have H2_ := (Option.bind_some _ _).symm.trans H; rw [hy373]; with_reducible exact H2_) | (have H2_ := (Option.bind_some _ _).symm.trans H; with_reducible exact H2_) | with_reducible exact H | (rw [hy373]; exact H) | exact H
     have Ny373 := Aside0.mk hy373
     clear hy373
     have H' := Aside0.mk H
     clear H
     obtain ⟨Ao6, co6, eo6⟩ := Kd.R_slice HO_0.out
     subst eo6
     have p5 : 0 ≤ (x5_1 : Int) := of_decide_eq_true (by first | (with_reducible assumption) | assumption)
     have q5 : (x5_1 : Int) < ((x0_1.length : Int) : Int) := of_decide_eq_true (by first | (with_reducible assumption) | assumption)
     obtain ⟨go5, co5, eo5, gb5, gl5, cl5, HG5⟩ := Kd.R_form HO_0.out (by omega)
     (first | cases eo5 | (injection eo5 with ea_ en_ ec_; (first | subst ea_ | (injection ea_ with ea_; subst ea_)); subst ec_; clear en_))
     have GB5 := Aside0.mk gb5
     have GG5 := Aside0.mk HG5
     clear gb5 gl5 HG5
     have HMgo5 := Aside0.mk (show (P0_ go5 ∨ w.heap.size ≤ go5) from (HO_0.out.1 _ rfl))
     obtain ⟨hx5_0, hf5_0⟩ := Kd.R_celln 0 HO_0.out (x5_1 : Int) p5 q5
     replace p5 := eq_true p5
     replace q5 := eq_true q5
     have HP7 := Kd.R_putg HO_0.out (x5_1 : Int) (IntKind.u64.wrap (x1_1))
     go_wp2_with (first | ((with_reducible refine gate_store (t := 22) (p := 16) rfl ?_); refine store_event (t := 22) (p := 16) (v := ?vo_w8) (w1 := (wr.setCell ⟨go5, (x5_1 : Int).toNat, none⟩ (.int .u64 (IntKind.u64.wrap (x1_1))))) ?hg ?ho ?hn ?hr ?_; (case ho => rfl); (case hg => rfl); (case hn => rfl); (case hr => first | (go_simp; done) | (go_simp; rfl)); intro w8 hw; have hg : wr.grownBy w8 (some go5) := (by rw [hw]; exact HP7.2); have hp_ : Kd.R (Kd.int .u64) 22 w8 w0.heap.size (fun k_ => (P0_ k_ ∨ w.heap.size ≤ k_)) (.slice (some ⟨go5, 0, none⟩) x0_1.length co6) y373 := (by rw [hw, Ny373.out]; exact HP7.1); clear HP7; have n0_ := Aside0.mk (hp_); have n1_ := Aside0.mk ((by rw [hw]; exact below_set (HB.out) GB5.out : Below w0.heap.size w0 w8)); have n2_ := Aside0.mk (Kept.of_grown (S := (fun k_ => P0_ k_)) hg (by repeat (first | (with_reducible first | exact HK.out | apply Kept.alloc | apply Kept.drewN | apply Kept.drew) | exact HK.out)) (fun k_ e_ => (HO_0.out.1 k_ e_))); clear HO_0; clear HB; clear HK; have HO_0 := n0_; have HB := n1_; have HK := n2_; clear n0_ n1_ n2_; clear hg hw hp_))
     go_roundg k1
     case measure => have := HK1.out; omega
     case rel => exact ⟨(y373), (wrap64 (x1_1 + 1)), (wrap64 (x5_1 + 1)), (by first | rfl | (simp; done) | (simp [*]; done)), (by first | rfl | (simp; done) | (simp [*]; done)), H', ⟨by have := HK1.out; omega⟩, ⟨by (with_reducible repeat (first | apply Kd.R_alloc | apply Kd.R_drewN | apply Kd.R_drew)); exact HO_0.out⟩, ⟨by repeat (first | (with_reducible first | exact HK.out | apply Kept.alloc | apply Kept.drewN | apply Kept.drew) | exact HK.out)⟩, ⟨by repeat (first | (with_reducible first | exact HB.out | apply below_alloc | apply pw_below_drewN | apply below_drew1) | exact HB.out)⟩⟩
    ·
     rw [if_neg c4] at H
     exact absurd H (by simp)
   ·
    rw [if_neg c3] at H
    have c3b0 : decide (x5_1 < (x0_1.length : Int)) = false := decide_eq_false c3
    clear c3
    simp only [Option.some.injEq, Prod.mk.injEq] at H
    obtain ⟨rfl, rfl⟩ := H
    obtain ⟨Ao9, co9, eo9⟩ := Kd.R_slice HO_0.out
    subst eo9
    go_wp2
    go_ret
    exact ⟨by first | rfl | (simp [errW_none, errW_some] <;> rfl) | (simp [*, errW_none, errW_some] <;> rfl), by (with_reducible repeat (first | apply Kd.R_alloc | apply Kd.R_drewN | apply Kd.R_drew)); exact HO_0.out, by repeat (first | (with_reducible first | exact HB.out | apply below_alloc | apply pw_below_drewN | apply below_drew1) | exact HB.out), by repeat (first | (with_reducible first | exact HK.out | apply Kept.alloc | apply Kept.drewN | apply Kept.drew) | exact HK.out)⟩
end
section
def endL {α : Type} (ln : α → Nat) (xs : List α) (m : Nat) : Nat := m + sumL ln xs
theorem u64_of (v : Int) (h0 : 0 ≤ v) (h1 : v < 18446744073709551616) : IntKind.u64.wrap v = v := by
 simp [IntKind.wrap, IntKind.bits, IntKind.signed]
 omega
def markL {α : Type} (mk : α → Nat → α) (ln : α → Nat) : List α → Nat → List α
 | [], _ => []
 | x :: r, m => mk x m :: markL mk ln r (m + ln x)
section
variable {α : Type} (mk : α → Nat → α) (ln : α → Nat)
theorem markL_length (xs : List α) : ∀ m, (markL mk ln xs m).length = xs.length := by
 induction xs with
 | nil => intro m; rfl
 | cons x r ih => intro m; simp [markL, ih]
theorem markL_snoc (xs : List α) (x : α) : ∀ m, markL mk ln (xs ++ [x]) m = markL mk ln xs m ++ [mk x (m + sumL ln xs)] := by
 induction xs with
 | nil => intro m; simp [markL, sumL]
 | cons y r ih =>
  intro m
  simp only [List.cons_append, markL, ih, sumL]
  rw [Nat.add_assoc]
theorem sumL_take_le (xs : List α) (j : Nat) : sumL ln (xs.take j) ≤ sumL ln xs := by
 induction xs generalizing j with
 | nil => simp
 | cons x r ih => cases j with
  | zero => simp [sumL]
  | succ j => simp only [List.take_succ_cons, sumL]; have := ih j; omega
def midL (xs : List α) (m j : Nat) : List α := markL mk ln (xs.take j) m ++ xs.drop j
theorem midL_length (xs : List α) (m j : Nat) (hj : j ≤ xs.length) : (midL mk ln xs m j).length = xs.length := by simp [midL, markL_length]; omega
theorem midL_at (xs : List α) (m j : Nat) (hj : j < xs.length) : (midL mk ln xs m j)[j]? = some xs[j] := by
 unfold midL
 rw [List.getElem?_append_right (by rw [markL_length, List.length_take]; omega), markL_length, List.length_take]
 rw [show j - min j xs.length = 0 by omega, List.getElem?_drop, Nat.add_zero, List.getElem?_eq_getElem hj]
theorem midL_succ (xs : List α) (m j : Nat) (hj : j < xs.length) : (midL mk ln xs m j).set j (mk xs[j] (m + sumL ln (xs.take j))) = midL mk ln xs m (j + 1) := by
 unfold midL
 rw [List.set_append_right _ _ (by rw [markL_length, List.length_take]; omega), markL_length, List.length_take, show j - min j xs.length = 0 by omega, List.take_succ_eq_append_getElem hj, markL_snoc, List.drop_eq_getElem_cons hj, List.set_cons_zero, List.append_assoc]
 rfl
theorem midL_full (xs : List α) (m : Nat) : midL mk ln xs m xs.length = markL mk ln xs m := by rw [midL, List.take_length, List.drop_length, List.append_nil]
theorem markL_at (xs : List α) (m j : Nat) (hj : j < xs.length) : (markL mk ln xs m)[j]'(by rw [markL_length]; exact hj) = mk xs[j] (m + sumL ln (xs.take j)) := by
 induction xs generalizing m j with
 | nil => simp at hj
 | cons x r ih => cases j with
  | zero => rfl
  | succ j =>
   simp only [markL, List.getElem_cons_succ, List.take_succ_cons, sumL]
   rw [ih _ j (by simpa using hj), Nat.add_assoc]
end
def marksU (n : Nat) (m : Nat) : List Int := (List.range n).map fun i => ((m + i : Nat) : Int)
theorem marksU_length (n m : Nat) : (marksU n m).length = n := by simp [marksU]
theorem marksU_at (n m i : Nat) (h : i < n) : (marksU n m)[i]? = some (((m + i : Nat) : Int)) := by simp [marksU, h]
theorem u64_nat (m : Nat) (h : m ≤ 140737488351232) : IntKind.u64.wrap (m : Int) = (m : Int) := u64_of _ (by omega) (by omega)
theorem markUint64S_loop (n m : Nat) (hm : m + n ≤ 140737488351232) (d : Nat) : ∀ (k i : Nat) (x : List Int), x.length = n → i + d = n → d < k → (∀ j, j < i → x[j]? = (marksU n m)[j]?) →
  laws_markUint64S.l0 k x ((m + i : Nat) : Int) (i : Int) = some (((m + n : Nat) : Int), marksU n m) := by
 induction d with
 | zero =>
  intro k i x hx hi hk hj
  obtain ⟨k, rfl⟩ : ∃ q, k = q + 1 := ⟨k - 1, by omega⟩
  have he : x = marksU n m := by
   apply List.ext_getElem?
   intro j
   rcases Nat.lt_or_ge j i with h | h
   ·
    exact hj j h
   ·
    rw [List.getElem?_eq_none (by omega), List.getElem?_eq_none (by rw [marksU_length]; omega)]
  rw [laws_markUint64S.l0, if_neg (by omega), he, show i = n by omega]
 | succ d ih =>
  intro k i x hx hi hk hj
  obtain ⟨k, rfl⟩ : ∃ q, k = q + 1 := ⟨k - 1, by omega⟩
  rw [laws_markUint64S.l0, if_pos (by omega), if_pos (by omega), wrap_up (m + i) (by omega), wrap_up i (by omega), u64_nat _ (by omega), Int.toNat_natCast]
  refine ih k (i + 1) _ (by simp [hx]) (by omega) (by omega) (fun j hjj => ?_)
  by_cases e : j = i
  ·
   subst e
   rw [List.getElem?_set_self (by omega), marksU_at _ _ _ (by omega)]
  ·
   rw [List.getElem?_set_ne (fun q => e q.symm)]
   exact hj j (by omega)
theorem markUint64S_f (l : List Int) (m : Nat) (hm : m + l.length ≤ 140737488351232) (k : Nat) (hk : l.length < k) : laws_markUint64S.f k l (m : Int) = some (((m + l.length : Nat) : Int), marksU l.length m) := by
 unfold laws_markUint64S.f
 exact markUint64S_loop l.length m hm l.length k 0 l rfl (by omega) hk (fun j hj => absurd hj (Nat.not_lt_zero _))
theorem wrap_upL (i : Nat) (h : i < 9223372036854775807) : wrap64 ((i : Int) + 1) = ((i + 1 : Nat) : Int) := by unfold wrap64; omega
theorem w64_id (i : Nat) (h : i ≤ 140737488355328) : wrap64 (i : Int) = (i : Int) := by unfold wrap64; omega
theorem i64_id (i : Nat) (h : i ≤ 140737488355328) : IntKind.i64.wrap (i : Int) = (i : Int) := (i64_w _).trans (w64_id i h)
theorem u64_id (i : Nat) (h : i ≤ 140737488355328) : IntKind.u64.wrap (i : Int) = (i : Int) := u64_of _ (by omega) (by omega)
def mkEv (x : Ev) (m : Nat) : Ev := ⟨(m : Int), marksB x.f1.length (m + 1)⟩
def lnEv (x : Ev) : Nat := 1 + x.f1.length
def mkSe (x : Se) (m : Nat) : Se := ⟨(m : Int), ((m + 1 : Nat) : Int), markL mkEv lnEv x.f2 (m + 2)⟩
def lnSe (x : Se) : Nat := 2 + sumL lnEv x.f2
def mkNo (x : No) (m : Nat) : No := ⟨marksB x.f0.length m, marksB x.f1.length (m + x.f0.length), ((m + x.f0.length + x.f1.length : Nat) : Int), ((m + x.f0.length + x.f1.length + 1 : Nat) : Int), marksU x.f4.length (m + x.f0.length + x.f1.length + 2), ((m + x.f0.length + x.f1.length + 2 + x.f4.length : Nat) : Int), ((m + x.f0.length + x.f1.length + 3 + x.f4.length : Nat) : Int), marksU x.f7.length (m + x.f0.length + x.f1.length + 4 + x.f4.length)⟩
def lnNo (x : No) : Nat := x.f0.length + x.f1.length + 4 + x.f4.length + x.f7.length
theorem H_at {α : Type} {d : Kd α} {e g n cap : Nat} {W : World} {base : Nat} {ok oki : Nat → Prop} {xs : List α} {i : Int} {c : List Value} (h : Kd.H d e W base ok (.slice (some ⟨g, 0, none⟩) n cap) xs i oki c) (h0 : 0 ≤ i) (h1 : i < n) :
  (∀ j u, c[j]? = some u → W.cell? ⟨g, i.toNat * d.sz + j, none⟩ = some u) ∧ ∀ j, W.frozen? ⟨g, i.toNat * d.sz + j, none⟩ = false := by
 obtain ⟨rows, _, hraw, _, _, hcc, _⟩ := Kd.H_raw h h0 h1
 obtain ⟨_, _, _, _, hfr⟩ := Kd.R_elem hraw [] i h0 h1
 exact ⟨hcc, hfr⟩
theorem R_reok2 {d : Kd Int} {e : Nat} {W : World} {base : Nat} {ok1 ok : Nat → Prop} {v : Value} {xs : List Int} (hE : d.E = []) (h : d.R e W base ok1 v xs) (hok : ∀ k, v.ownBlock = some k → ok k) : d.R e W base ok v xs := Kd.R_mono (Kd.R_tight hE h) (fun k hk => hok k hk.symm)
theorem kept_set {w w1 : World} {ok : Nat → Prop} {g j : Nat} {v : Value} (h : Kept w w1 ok) (hg : ok g) : Kept w (w1.setCell ⟨g, j, none⟩ v) ok :=
 ⟨Nat.le_trans h.1 (by simp), fun i hi hn => by rw [Below.heap_setCell w1 _ _ i (fun e => hn (e ▸ hg))]; exact h.2 i hi hn⟩
theorem kept_trans {w w1 w2 : World} {ok oki : Nat → Prop} (h : Kept w w1 ok) (h2 : Kept w1 w2 oki) (hs : ∀ k, oki k → ok k) : Kept w w2 ok :=
 ⟨Nat.le_trans h.1 h2.1, fun i hi hn => by rw [h2.2 i (Nat.lt_of_lt_of_le hi h.1) (fun q => hn (hs i q))]; exact h.2 i hi hn⟩
theorem H_kept {α : Type} {d : Kd α} {e g n cap : Nat} {W W1 : World} {base : Nat} {ok oki okj : Nat → Prop} {xs : List α} {i : Int} {c : List Value} (h : Kd.H d e W base ok (.slice (some ⟨g, 0, none⟩) n cap) xs i oki c) (hk : Kept W W1 okj) (hs : ∀ k, okj k → oki k) : Kd.H d e W1 base ok (.slice (some ⟨g, 0, none⟩) n cap) xs i oki c :=
 Kd.H_step h (fun k _ hn hlt => hk.2 k hlt (fun q => hn (hs k q)))
theorem H_set {α : Type} {d : Kd α} {e g n cap : Nat} {W : World} {base : Nat} {ok oki : Nat → Prop} {xs : List α} {i : Nat} {c c' : List Value} (h : Kd.H d e W base ok (.slice (some ⟨g, 0, none⟩) n cap) xs (i : Int) oki c) (h1 : (i : Int) < n) (j : Nat) (v : Value) (hj : j + 1 ≤ d.sz) (hv : v.oneCell' = true) (hc : c.take j ++ [v] ++ c.drop (j + 1) = c') :
  Kd.H d e (W.setCell ⟨g, i * d.sz + j, none⟩ v) base ok (.slice (some ⟨g, 0, none⟩) n cap) xs (i : Int) oki c' := by
 have hs := (Kd.H_seg h (by omega) h1 (seg := [v]) (j := j) hj (by intro q hq; rw [List.mem_singleton.1 hq]; exact hv)).1
 rw [Int.toNat_natCast] at hs
 rw [← hc]
 exact hs
theorem H_setN {e g n cap : Nat} {W : World} {base : Nat} {ok oki : Nat → Prop} {xs : List No} {i : Nat} {c c' : List Value} (h : Kd.H aNo e W base ok (.slice (some ⟨g, 0, none⟩) n cap) xs (i : Int) oki c) (h1 : (i : Int) < n) (j : Nat) (v : Value) (hj : j + 1 ≤ 8) (hv : v.oneCell' = true) (hc : c.take j ++ [v] ++ c.drop (j + 1) = c') :
  Kd.H aNo e (W.setCell ⟨g, i * 8 + j, none⟩ v) base ok (.slice (some ⟨g, 0, none⟩) n cap) xs (i : Int) oki c' := H_set h h1 j v hj hv hc
theorem R_kept {α : Type} {d : Kd α} {e : Nat} {w w1 : World} {base : Nat} {ok okj : Nat → Prop} {v : Value} {xs : List α} (h : Kd.R d e w base ok v xs) (hk : Kept w w1 okj) (hs : ∀ k, ok k → ¬ okj k) : Kd.R d e w1 base ok v xs := Kd.R_step h (fun k hk1 hlt => hk.2 k hlt (hs k hk1))
set_option maxHeartbeats 2000000 in
set_option maxRecDepth 100000 in
theorem markEventS_calls (m : Nat) (w0 w : World) (ok : Nat → Prop) (A : Option Addr) (c : Nat) (xs : List Ev) (hB : Below w0.heap.size w0 w) (h : Kd.S kEv tEv w w0.heap.size ok (.slice A xs.length c) xs) (hm : m + sumL lnEv xs ≤ 100000000) :
  Calls Tryz.prog 93 #[.slice A xs.length c, .int .i64 m] w fun e w' => e = .returned (.int .i64 ((m + sumL lnEv xs : Nat) : Int)) ∧ Kd.S kEv tEv w' w0.heap.size ok (.slice A xs.length c) (markL mkEv lnEv xs m) ∧ Below w0.heap.size w0 w' ∧ Kept w w' ok := by
 have HS := Aside0.mk h
 have HB := Aside0.mk hB
 clear h hB
 go_enter Tryz.func93, Tryz.ntmps93
 go_wp2
 go_loopg [1, 5] (xs.length + 1) (fun kq v1 v5 w' => ∃ (j : Nat), v1 = .int .i64 ((endL lnEv (xs.take j) m : Nat) : Int) ∧ v5 = .int .i64 (j : Int) ∧ Aside0 (j + kq = xs.length + 1 ∧ j ≤ xs.length) ∧ Aside0 (Kd.S kEv tEv w' w0.heap.size ok (.slice A xs.length c) (midL mkEv lnEv xs m j)) ∧ Aside0 (Kept w w' ok) ∧ Aside0 (Below w0.heap.size w0 w'))
 case atStart => exact ⟨0, by simp [endL, sumL], by simp, ⟨⟨by omega, by omega⟩⟩, ⟨by simp only [midL, List.take_zero, markL, List.nil_append, List.drop_zero]; exact HS.out⟩, ⟨Kept.refl _ _⟩, HB⟩
 case round =>
  clear HS HB
  obtain ⟨j, rfl, rfl, HJ, HS, HK, HB⟩ := hrel
  have hj0 := HJ.out
  by_cases hj : j < xs.length
  ·
   have c1 : decide ((j : Int) < (xs.length : Int)) = true := decide_eq_true (by omega)
   have c2 : decide (j < xs.length) = true := decide_eq_true hj
   have hlen := midL_length mkEv lnEv xs m j (by omega)
   have hat := midL_at mkEv lnEv xs m j hj
   have hes := sumL_succ lnEv xs j hj
   have hed : endL lnEv (xs.take j) m = m + sumL lnEv (xs.take j) := rfl
   have hed2 : endL lnEv (xs.take (j + 1)) m = m + sumL lnEv (xs.take (j + 1)) := rfl
   have hle := sumL_take_le lnEv xs (j + 1)
   have hlx : lnEv xs[j] = 1 + xs[j].f1.length := rfl
   obtain ⟨hmj, hl2⟩ : endL lnEv (xs.take j) m ≤ 100000000 ∧ endL lnEv (xs.take j) m + 1 + xs[j].f1.length ≤ 100000000 := by constructor <;> omega
   have hsucc := midL_succ mkEv lnEv xs m j hj
   have hes2 : endL lnEv (xs.take (j + 1)) m = endL lnEv (xs.take j) m + 1 + xs[j].f1.length := by omega
   rw [← hed] at hsucc
   clear hle hlx hes hed hed2
   generalize endL lnEv (xs.take j) m = mj at *
   generalize midL mkEv lnEv xs m j = ys at *
   have hpos : 0 < ys.length := by omega
   obtain ⟨g, cap, eA, gb, gl, _⟩ := Kd.S_form (by rw [← hlen] at HS; exact HS.out) hpos
   injection eA with eA _ eC
   subst eA
   subst eC
   obtain ⟨oki, cc, hcl, hM, hcc, hfr, hoki, hH⟩ := Kd.S_elem HS.out z153 (j : Int) (by omega) (by omega)
   rw [show ys.getD (j : Int).toNat z153 = xs[j] by rw [Int.toNat_natCast, List.getD_eq_getElem?_getD, hat]; rfl] at hM
   obtain ⟨v1, rfl, hR⟩ := k153_openM hM
   obtain ⟨Aj, kj, rfl⟩ := Kd.R_slice hR
   have x0 := hcc 0 _ rfl
   have x1 := hcc 1 _ rfl
   have f0 := hfr 0
   have f1 := hfr 1
   rw [show (j : Int).toNat * kEv.sz + 0 = j * 2 by rw [Int.toNat_natCast]; rfl] at x0 f0
   rw [show (j : Int).toNat * kEv.sz + 1 = j * 2 + 1 by rw [Int.toNat_natCast]; rfl] at x1 f1
   have hmB : mj ≤ 140737488355328 := by omega
   have hjB : j < 9223372036854775807 := by
    have := (Kd.S_reads' HS.out).2.2.2.1
    omega
   have HW := Aside0.mk (And.intro hmB hjB)
   clear hmB hjB
   have HH := Aside0.mk hH
   have HO := Aside0.mk hR
   have HM := Aside0.mk (And.intro hl2 (And.intro hsucc hes2))
   have gl' : g < wr.heap.size := gl
   have HG := Aside0.mk hoki
   clear hH hR hM hcc hfr hat hsucc hes2 hoki
   have hmk : mkEv xs[j] mj = ⟨(mj : Int), marksB xs[j].f1.length (mj + 1)⟩ := rfl
   rw [hmk] at HM
   clear hmk
   generalize xs[j].f1 = lb at x1 hl2 HO HM HH
   have hl3 : lb.length ≤ 100000000 := by omega
   have hl4 : mj + 1 + lb.length ≤ 100000000 := hl2
   have HN := Aside0.mk (And.intro gb (And.intro gl (And.intro hlen hj0)))
   have HL := Aside0.mk (And.intro hl3 hl4)
   clear hm hcl hj0 gb gl hlen hpos hl2 hl3 hl4
   have cu := i64_id mj HW.out.1
   have cu2 := w64_id mj HW.out.1
   have cw : wrap64 ((mj : Int) + 1) = (mj : Int) + 1 := wrap_up mj HW.out.1
   go_wp2_with fail
   clear cu cu2 cw
   obtain ⟨gb, gl, hlen, hj0⟩ := HN.out
   have hmf : laws_markByteS.f 200000000 lb ((mj : Int) + 1) = some (((mj + 1 + lb.length : Nat) : Int), marksB lb.length (mj + 1)) := by
    have := markByteS_f lb (mj + 1) (by have := HL.out; omega) 200000000 (by have := HL.out; omega)
    rwa [show ((mj + 1 : Nat) : Int) = (mj : Int) + 1 by omega] at this
   have hB1 : Below w0.heap.size w0 (wr.setCell ⟨g, j * 2, none⟩ (.int .i64 (mj : Int))) := below_set HB.out gb
   refine (laws_markByteS.calls 200000000 oki _ lb _ _ _ w0 _ hB1 (Kd.R_far (p := ⟨g, j * 2, none⟩) HO.out (fun k hk => (HG.out k hk).2) _) hmf).mono ?_
   rintro e w2 ⟨rfl, hr2, hb2, hk2⟩
   have okg : ok g := (Kd.S_R HS.out).1 g rfl
   have hs1 := H_set (g := g) HH.out (by omega) 0 (.int .i64 (mj : Int)) (by show 0 + 1 ≤ 2; omega) rfl (c' := [.int .i64 (mj : Int), .slice Aj lb.length kj]) rfl
   have hs2 := H_kept hs1 hk2 (fun _ h => h)
   have hM2 := k153_mkM w2 w0.heap.size oki ⟨(mj : Int), marksB lb.length (mj + 1)⟩ (v1 := .slice Aj lb.length kj) (R_reok2 rfl hr2 (fun k e => HO.out.1 k e))
   have hS2 := Kd.H_back hs2 (x' := ⟨(mj : Int), marksB lb.length (mj + 1)⟩) hM2 (fun k hk => hk)
   rw [Int.toNat_natCast, HM.out.2.1] at hS2
   have hK2 : Kept w w2 ok := kept_trans (kept_set HK.out okg) hk2 (fun k hk => (HG.out k hk).1)
   have HS2 := Aside0.mk hS2
   have HK2 := Aside0.mk hK2
   have HB2 := Aside0.mk hb2
   obtain ⟨k1, rfl⟩ : ∃ k1, gk = k1 + 1 := ⟨gk - 1, by omega⟩
   have HE := Aside0.mk HM.out.2.2
   clear HS HK HB hS2 hK2 hb2 hk2 hs1 hs2 hM2 hr2 hmf hB1 okg
   have HJ2 := Aside0.mk hj0
   clear hj0 gb gl hlen
   have cj := wrap_upL j HW.out.2
   go_wp2_with fail
   go_roundg k1
   case measure => clear cj; have := HJ2.out; omega
   case rel => exact ⟨j + 1, by rw [HE.out]; exact congrArg (Value.int .i64) (by clear cj; omega), congrArg (Value.int .i64) cj, ⟨by have := HJ2.out; omega⟩, HS2, HK2, HB2⟩
  ·
   have e : j = xs.length := by omega
   subst e
   have c1 : decide ((xs.length : Int) < (xs.length : Int)) = false := decide_eq_false (by omega)
   go_wp2
   go_ret
   exact ⟨by simp [endL, List.take_length], by have := HS.out; rwa [midL_full] at this, HB.out, HK.out⟩
set_option maxHeartbeats 2000000 in
set_option maxRecDepth 100000 in
theorem markSessionS_calls (m : Nat) (w0 w : World) (ok : Nat → Prop) (A : Option Addr) (c : Nat) (xs : List Se) (hB : Below w0.heap.size w0 w) (h : Kd.S aSe tSe w w0.heap.size ok (.slice A xs.length c) xs) (hm : m + sumL lnSe xs ≤ 100000000) :
  Calls Tryz.prog 40 #[.slice A xs.length c, .int .i64 m] w fun e w' => e = .returned (.int .i64 ((m + sumL lnSe xs : Nat) : Int)) ∧ Kd.S aSe tSe w' w0.heap.size ok (.slice A xs.length c) (markL mkSe lnSe xs m) ∧ Below w0.heap.size w0 w' ∧ Kept w w' ok := by
 have HS := Aside0.mk h
 have HB := Aside0.mk hB
 clear h hB
 go_enter Tryz.func40, Tryz.ntmps40
 go_wp2
 go_loopg [1, 5] (xs.length + 1) (fun kq v1 v5 w' => ∃ (j : Nat), v1 = .int .i64 ((endL lnSe (xs.take j) m : Nat) : Int) ∧ v5 = .int .i64 (j : Int) ∧ Aside0 (j + kq = xs.length + 1 ∧ j ≤ xs.length) ∧ Aside0 (Kd.S aSe tSe w' w0.heap.size ok (.slice A xs.length c) (midL mkSe lnSe xs m j)) ∧ Aside0 (Kept w w' ok) ∧ Aside0 (Below w0.heap.size w0 w'))
 case atStart => exact ⟨0, by simp [endL, sumL], by simp, ⟨⟨by omega, by omega⟩⟩, ⟨by simp only [midL, List.take_zero, markL, List.nil_append, List.drop_zero]; exact HS.out⟩, ⟨Kept.refl _ _⟩, HB⟩
 case round =>
  clear HS HB
  obtain ⟨j, rfl, rfl, HJ, HS, HK, HB⟩ := hrel
  have hj0 := HJ.out
  by_cases hj : j < xs.length
  ·
   have c1 : decide ((j : Int) < (xs.length : Int)) = true := decide_eq_true (by omega)
   have c2 : decide (j < xs.length) = true := decide_eq_true hj
   have hlen := midL_length mkSe lnSe xs m j (by omega)
   have hat := midL_at mkSe lnSe xs m j hj
   have hes := sumL_succ lnSe xs j hj
   have hed : endL lnSe (xs.take j) m = m + sumL lnSe (xs.take j) := rfl
   have hed2 : endL lnSe (xs.take (j + 1)) m = m + sumL lnSe (xs.take (j + 1)) := rfl
   have hle := sumL_take_le lnSe xs (j + 1)
   have hlx : lnSe xs[j] = 2 + sumL lnEv xs[j].f2 := rfl
   obtain ⟨hmj, hl2⟩ : endL lnSe (xs.take j) m ≤ 100000000 ∧ endL lnSe (xs.take j) m + 2 + sumL lnEv xs[j].f2 ≤ 100000000 := by constructor <;> omega
   have hsucc := midL_succ mkSe lnSe xs m j hj
   have hes2 : endL lnSe (xs.take (j + 1)) m = endL lnSe (xs.take j) m + 2 + sumL lnEv xs[j].f2 := by omega
   rw [← hed] at hsucc
   clear hle hlx hes hed hed2
   generalize endL lnSe (xs.take j) m = mj at *
   generalize midL mkSe lnSe xs m j = ys at *
   have hpos : 0 < ys.length := by omega
   obtain ⟨g, cap, eA, gb, gl, _⟩ := Kd.S_form (by rw [← hlen] at HS; exact HS.out) hpos
   injection eA with eA _ eC
   subst eA
   subst eC
   obtain ⟨oki, cc, hcl, hM, hcc, hfr, hoki, hH⟩ := Kd.S_elem HS.out z90 (j : Int) (by omega) (by omega)
   rw [show ys.getD (j : Int).toNat z90 = xs[j] by rw [Int.toNat_natCast, List.getD_eq_getElem?_getD, hat]; rfl] at hM
   obtain ⟨v1, rfl, hR⟩ := aSe_open hM
   obtain ⟨Aj, kj, rfl⟩ := Kd.S_slice hR
   have x0 := hcc 0 _ rfl
   have x1 := hcc 1 _ rfl
   have x2 := hcc 2 _ rfl
   have f0 := hfr 0
   have f1 := hfr 1
   have f2 := hfr 2
   rw [show (j : Int).toNat * aSe.sz + 0 = j * 3 by rw [Int.toNat_natCast]; rfl] at x0 f0
   rw [show (j : Int).toNat * aSe.sz + 1 = j * 3 + 1 by rw [Int.toNat_natCast]; rfl] at x1 f1
   rw [show (j : Int).toNat * aSe.sz + 2 = j * 3 + 2 by rw [Int.toNat_natCast]; rfl] at x2 f2
   have hmB : mj ≤ 140737488355328 := by omega
   have hmB2 : mj + 1 ≤ 140737488355328 := by omega
   have hjB : j < 9223372036854775807 := by
    have := (Kd.S_reads' HS.out).2.2.2.1
    omega
   have HW := Aside0.mk (And.intro hmB (And.intro hmB2 hjB))
   clear hmB hmB2 hjB
   have HH := Aside0.mk hH
   have HO := Aside0.mk hR
   have HM := Aside0.mk (And.intro hl2 (And.intro hsucc hes2))
   have gl' : g < wr.heap.size := gl
   have HG := Aside0.mk hoki
   clear hH hR hM hcc hfr hat hsucc hes2 hoki
   have hmk : mkSe xs[j] mj = ⟨(mj : Int), ((mj + 1 : Nat) : Int), markL mkEv lnEv xs[j].f2 (mj + 2)⟩ := rfl
   rw [hmk] at HM
   clear hmk
   generalize xs[j].f2 = lb at x2 hl2 HO HM HH
   have HN := Aside0.mk (And.intro gb (And.intro gl (And.intro hlen hj0)))
   have HL := Aside0.mk hl2
   clear hm hcl hj0 gb gl hlen hpos hl2
   have cu := u64_id mj HW.out.1
   have ci2 := w64_id (mj + 1) HW.out.2.1
   have ci3 := i64_id (mj + 1) HW.out.2.1
   have cw := wrap_up mj HW.out.1
   have cw2 : wrap64 (((mj + 1 : Nat) : Int) + 1) = ((mj + 2 : Nat) : Int) := wrap_up (mj + 1) HW.out.2.1
   obtain ⟨m1, hm1⟩ : ∃ m1, mj + 1 = m1 := ⟨_, rfl⟩
   obtain ⟨m2, hm2⟩ : ∃ m2, mj + 2 = m2 := ⟨_, rfl⟩
   rw [hm1] at ci2 ci3 cw cw2 HM
   rw [hm2] at cw2 HM
   have HME := Aside0.mk (And.intro hm1 hm2)
   clear hm1 hm2
   go_wp2_with fail
   clear cu ci2 ci3 cw cw2
   obtain ⟨gb, gl, hlen, hj0⟩ := HN.out
   obtain ⟨rfl, rfl⟩ := HME.out
   have hB1 := below_set (below_set HB.out (j := j * 3) (v := .int .u64 (mj : Int)) gb) (j := j * 3 + 1) (v := .int .i64 ((mj + 1 : Nat) : Int)) gb
   have hR1 := Kd.S_far (p := ⟨g, j * 3 + 1, none⟩) (Kd.S_far (p := ⟨g, j * 3, none⟩) HO.out (fun k hk => (HG.out k hk).2) (.int .u64 (mj : Int))) (fun k hk => (HG.out k hk).2) (.int .i64 ((mj + 1 : Nat) : Int))
   refine (markEventS_calls (mj + 2) w0 _ oki Aj kj lb hB1 hR1 HL.out).mono ?_
   rintro e w2 ⟨rfl, hr2, hb2, hk2⟩
   have okg : ok g := (Kd.S_R HS.out).1 g rfl
   have hs1 := H_set (g := g) HH.out (by omega) 0 (.int .u64 (mj : Int)) (by show 0 + 1 ≤ 3; omega) rfl (c' := [.int .u64 (mj : Int), _, .slice Aj lb.length kj]) rfl
   have hs1b := H_set (g := g) hs1 (by omega) 1 (.int .i64 ((mj + 1 : Nat) : Int)) (by show 1 + 1 ≤ 3; omega) rfl (c' := [.int .u64 (mj : Int), .int .i64 ((mj + 1 : Nat) : Int), .slice Aj lb.length kj]) rfl
   have hs2 := H_kept hs1b hk2 (fun _ h => h)
   have hM2 := aSe_mk w2 w0.heap.size oki ⟨(mj : Int), ((mj + 1 : Nat) : Int), markL mkEv lnEv lb (mj + 2)⟩ (v2 := .slice Aj lb.length kj) hr2
   have hS2 := Kd.H_back hs2 (x' := ⟨(mj : Int), ((mj + 1 : Nat) : Int), markL mkEv lnEv lb (mj + 2)⟩) hM2 (fun k hk => hk)
   rw [Int.toNat_natCast, HM.out.2.1] at hS2
   have hK2 : Kept w w2 ok := kept_trans (kept_set (kept_set HK.out okg) okg) hk2 (fun k hk => (HG.out k hk).1)
   have HS2 := Aside0.mk hS2
   have HK2 := Aside0.mk hK2
   have HB2 := Aside0.mk hb2
   obtain ⟨k1, rfl⟩ : ∃ k1, gk = k1 + 1 := ⟨gk - 1, by omega⟩
   have HE := Aside0.mk HM.out.2.2
   clear HS HK HB hS2 hK2 hb2 hk2 hs1 hs1b hs2 hM2 hr2 hR1 hB1 okg
   have HJ2 := Aside0.mk hj0
   clear hj0 gb gl hlen
   have cj := wrap_upL j HW.out.2.2
   go_wp2_with fail
   go_roundg k1
   case measure => clear cj; have := HJ2.out; omega
   case rel => exact ⟨j + 1, by rw [HE.out]; exact congrArg (Value.int .i64) (by clear cj; omega), congrArg (Value.int .i64) cj, ⟨by have := HJ2.out; omega⟩, HS2, HK2, HB2⟩
  ·
   have e : j = xs.length := by omega
   subst e
   have c1 : decide ((xs.length : Int) < (xs.length : Int)) = false := decide_eq_false (by omega)
   go_wp2
   go_ret
   exact ⟨by simp [endL, List.take_length], by have := HS.out; rwa [midL_full] at this, HB.out, HK.out⟩
set_option maxHeartbeats 4000000 in
set_option maxRecDepth 100000 in
theorem markNodeS_calls (m : Nat) (w0 w : World) (ok : Nat → Prop) (A : Option Addr) (c : Nat) (xs : List No) (hB : Below w0.heap.size w0 w) (h : Kd.S aNo tNo w w0.heap.size ok (.slice A xs.length c) xs) (hm : m + sumL lnNo xs ≤ 100000000) :
  Calls Tryz.prog 41 #[.slice A xs.length c, .int .i64 m] w fun e w' => e = .returned (.int .i64 ((m + sumL lnNo xs : Nat) : Int)) ∧ Kd.S aNo tNo w' w0.heap.size ok (.slice A xs.length c) (markL mkNo lnNo xs m) ∧ Below w0.heap.size w0 w' ∧ Kept w w' ok := by
 have HS := Aside0.mk h
 have HB := Aside0.mk hB
 clear h hB
 go_enter Tryz.func41, Tryz.ntmps41
 go_wp2
 go_loopg [1, 5] (xs.length + 1) (fun kq v1 v5 w' => ∃ (j : Nat), v1 = .int .i64 ((endL lnNo (xs.take j) m : Nat) : Int) ∧ v5 = .int .i64 (j : Int) ∧ Aside0 (j + kq = xs.length + 1 ∧ j ≤ xs.length) ∧ Aside0 (Kd.S aNo tNo w' w0.heap.size ok (.slice A xs.length c) (midL mkNo lnNo xs m j)) ∧ Aside0 (Kept w w' ok) ∧ Aside0 (Below w0.heap.size w0 w'))
 case atStart => exact ⟨0, by simp [endL, sumL], by simp, ⟨⟨by omega, by omega⟩⟩, ⟨by simp only [midL, List.take_zero, markL, List.nil_append, List.drop_zero]; exact HS.out⟩, ⟨Kept.refl _ _⟩, HB⟩
 case round =>
  clear HS HB
  obtain ⟨j, rfl, rfl, HJ, HS, HK, HB⟩ := hrel
  have hj0 := HJ.out
  by_cases hj : j < xs.length
  ·
   have c1 : decide ((j : Int) < (xs.length : Int)) = true := decide_eq_true (by omega)
   have c2 : decide (j < xs.length) = true := decide_eq_true hj
   have hlen := midL_length mkNo lnNo xs m j (by omega)
   have hat := midL_at mkNo lnNo xs m j hj
   have hes := sumL_succ lnNo xs j hj
   have hed : endL lnNo (xs.take j) m = m + sumL lnNo (xs.take j) := rfl
   have hed2 : endL lnNo (xs.take (j + 1)) m = m + sumL lnNo (xs.take (j + 1)) := rfl
   have hle := sumL_take_le lnNo xs (j + 1)
   have hlx : lnNo xs[j] = xs[j].f0.length + xs[j].f1.length + 4 + xs[j].f4.length + xs[j].f7.length := rfl
   obtain ⟨hmj, hl2⟩ : endL lnNo (xs.take j) m ≤ 100000000 ∧ endL lnNo (xs.take j) m + xs[j].f0.length + xs[j].f1.length + 4 + xs[j].f4.length + xs[j].f7.length ≤ 100000000 := by constructor <;> omega
   have hsucc := midL_succ mkNo lnNo xs m j hj
   have hes2 : endL lnNo (xs.take (j + 1)) m = endL lnNo (xs.take j) m + xs[j].f0.length + xs[j].f1.length + 4 + xs[j].f4.length + xs[j].f7.length := by omega
   rw [← hed] at hsucc
   clear hle hlx hes hed hed2
   generalize endL lnNo (xs.take j) m = mj at *
   generalize midL mkNo lnNo xs m j = ys at *
   have hpos : 0 < ys.length := by omega
   obtain ⟨g, cap, eA, gb, gl, _⟩ := Kd.S_form (by rw [← hlen] at HS; exact HS.out) hpos
   injection eA with eA _ eC
   subst eA
   subst eC
   obtain ⟨oki, cc, hcl, hM, hcc, hfr, hoki, hH⟩ := Kd.S_elem HS.out z93 (j : Int) (by omega) (by omega)
   rw [show ys.getD (j : Int).toNat z93 = xs[j] by rw [Int.toNat_natCast, List.getD_eq_getElem?_getD, hat]; rfl] at hM
   obtain ⟨p0, p1, p4, v0, v1, v4, v7, rfl, hR0, hR1, hR4, hR7⟩ := aNo_open hM
   have hmk : mkNo xs[j] mj = ⟨marksB xs[j].f0.length mj, marksB xs[j].f1.length (mj + xs[j].f0.length), ((mj + xs[j].f0.length + xs[j].f1.length : Nat) : Int), ((mj + xs[j].f0.length + xs[j].f1.length + 1 : Nat) : Int), marksU xs[j].f4.length (mj + xs[j].f0.length + xs[j].f1.length + 2), ((mj + xs[j].f0.length + xs[j].f1.length + 2 + xs[j].f4.length : Nat) : Int), ((mj + xs[j].f0.length + xs[j].f1.length + 3 + xs[j].f4.length : Nat) : Int), marksU xs[j].f7.length (mj + xs[j].f0.length + xs[j].f1.length + 4 + xs[j].f4.length)⟩ := rfl
   rw [hmk] at hsucc
   clear hmk
   obtain ⟨nd, hnd⟩ : ∃ nd, xs[j] = nd := ⟨_, rfl⟩
   rw [hnd] at hR0 hR1 hR4 hR7 hsucc hes2 hl2 hM hH hcc hcl
   obtain ⟨l0, l1, ow, mo, l4, ep, ge, l7⟩ := nd
   simp only at hR0 hR1 hR4 hR7 hsucc hes2 hl2 hH hcc
   clear hnd hM
   obtain ⟨A0, k0, rfl⟩ := Kd.R_slice hR0
   obtain ⟨A1, k1', rfl⟩ := Kd.R_slice hR1
   obtain ⟨A4, k4, rfl⟩ := Kd.R_slice hR4
   obtain ⟨A7, k7, rfl⟩ := Kd.R_slice hR7
   obtain ⟨m1, hm1⟩ : ∃ m1, mj + l0.length = m1 := ⟨_, rfl⟩
   rw [hm1] at hsucc hes2 hl2
   obtain ⟨m2, hm2⟩ : ∃ m2, m1 + l1.length = m2 := ⟨_, rfl⟩
   rw [hm2] at hsucc hes2 hl2
   obtain ⟨m4, hm4⟩ : ∃ m4, m2 + 2 + l4.length = m4 := ⟨_, rfl⟩
   rw [hm4, show m2 + 3 + l4.length = m4 + 1 by omega, show m2 + 4 + l4.length = m4 + 2 by omega] at hsucc
   have hes3 : endL lnNo (xs.take (j + 1)) m = m4 + 2 + l7.length := by omega
   have hjB : j < 9223372036854775807 := by
    have := (Kd.S_reads' HS.out).2.2.2.1
    omega
   have hmB : m2 ≤ 140737488355328 ∧ m2 + 1 ≤ 140737488355328 ∧ m4 ≤ 140737488355328 ∧ m4 + 1 ≤ 140737488355328 := by omega
   have HW := Aside0.mk (And.intro hjB hmB)
   clear hjB hmB
   have hm0 : mj + l0.length ≤ 100000000 ∧ m1 + l1.length ≤ 100000000 ∧ m2 + 2 + l4.length ≤ 100000000 ∧ m4 + 2 + l7.length ≤ 100000000 := by omega
   obtain ⟨n1, hn1⟩ : ∃ n1, m2 + 1 = n1 := ⟨_, rfl⟩
   obtain ⟨n2, hn2⟩ : ∃ n2, m2 + 2 = n2 := ⟨_, rfl⟩
   obtain ⟨n4, hn4⟩ : ∃ n4, m4 + 1 = n4 := ⟨_, rfl⟩
   obtain ⟨n5, hn5⟩ : ∃ n5, m4 + 2 = n5 := ⟨_, rfl⟩
   rw [hn1] at hsucc
   rw [hn2] at hsucc hm0 hm4
   rw [hn4] at hsucc
   rw [hn5] at hsucc hm0 hes3
   have HNN := Aside0.mk (And.intro hn1 (And.intro hn2 (And.intro hn4 hn5)))
   have HO0 := Aside0.mk hR0
   have HO1 := Aside0.mk hR1
   have HO4 := Aside0.mk hR4
   have HO7 := Aside0.mk hR7
   have HH := Aside0.mk hH
   have HM := Aside0.mk (And.intro hsucc hes3)
   have HL := Aside0.mk hm0
   have HE := Aside0.mk (And.intro hm1 (And.intro hm2 hm4))
   have HG := Aside0.mk hoki
   have okg : ok g := (Kd.S_R HS.out).1 g rfl
   have OKG := Aside0.mk okg
   have hji : (0 : Int) ≤ (j : Int) ∧ (j : Int) < xs.length := by omega
   have HJI := Aside0.mk hji
   have HN := Aside0.mk (And.intro gb (And.intro gl (And.intro hlen hj0)))
   obtain ⟨hcc, hfr⟩ := H_at hH hji.1 hji.2
   have x0 := hcc 0 _ rfl
   have f0 := hfr 0
   rw [show (j : Int).toNat * aNo.sz + 0 = j * 8 by rw [Int.toNat_natCast]; rfl] at x0 f0
   have x1 := hcc 1 _ rfl
   have f1 := hfr 1
   rw [show (j : Int).toNat * aNo.sz + 1 = j * 8 + 1 by rw [Int.toNat_natCast]; rfl] at x1 f1
   have x2 := hcc 2 _ rfl
   have f2 := hfr 2
   rw [show (j : Int).toNat * aNo.sz + 2 = j * 8 + 2 by rw [Int.toNat_natCast]; rfl] at x2 f2
   have x3 := hcc 3 _ rfl
   have f3 := hfr 3
   rw [show (j : Int).toNat * aNo.sz + 3 = j * 8 + 3 by rw [Int.toNat_natCast]; rfl] at x3 f3
   have x4 := hcc 4 _ rfl
   have f4 := hfr 4
   rw [show (j : Int).toNat * aNo.sz + 4 = j * 8 + 4 by rw [Int.toNat_natCast]; rfl] at x4 f4
   have x5 := hcc 5 _ rfl
   have f5 := hfr 5
   rw [show (j : Int).toNat * aNo.sz + 5 = j * 8 + 5 by rw [Int.toNat_natCast]; rfl] at x5 f5
   have x6 := hcc 6 _ rfl
   have f6 := hfr 6
   rw [show (j : Int).toNat * aNo.sz + 6 = j * 8 + 6 by rw [Int.toNat_natCast]; rfl] at x6 f6
   have x7 := hcc 7 _ rfl
   have f7 := hfr 7
   rw [show (j : Int).toNat * aNo.sz + 7 = j * 8 + 7 by rw [Int.toNat_natCast]; rfl] at x7 f7
   clear hH hR0 hR1 hR4 hR7 hcc hfr hat hsucc hes2 hes3 hoki hm1 hm2 hm4 hn1 hn2 hn4 hn5 hl2 hm0 okg hji hm hcl hj0 gb gl hlen hpos
   go_wp2_with fail
   have hmf0 : laws_markByteS.f 200000000 l0 (mj : Int) = some ((m1 : Int), marksB l0.length mj) := by
    rw [← HE.out.1]
    exact markByteS_f l0 mj (by have := HL.out; omega) 200000000 (by have := HL.out; omega)
   refine (laws_markByteS.calls 200000000 _ _ l0 _ _ _ w0 _ HB.out HO0.out hmf0).mono ?_
   rintro e w1 ⟨rfl, hr, hb, hk⟩
   replace HO1 := Aside0.mk (R_kept HO1.out hk (fun k h q => h.1.2 q.2))
   replace HO4 := Aside0.mk (R_kept HO4.out hk (fun k h q => h.1.1.2 q.2))
   replace HO7 := Aside0.mk (R_kept HO7.out hk (fun k h q => h.1.1.2 q.2))
   replace HH := Aside0.mk (H_kept HH.out hk (fun k h => h.1))
   replace HK := Aside0.mk (kept_trans HK.out hk (fun k h => (HG.out k (h.1)).1))
   have HO0' := HO0
   replace HO0 := Aside0.mk (R_reok2 rfl hr (fun k e => HO0'.out.1 k e))
   replace HB := Aside0.mk hb
   clear hr hb hk HO0' hmf0 x0 x1 x2 x3 x4 x5 x6 x7 f0 f1 f2 f3 f4 f5 f6 f7
   obtain ⟨hcc, hfr⟩ := H_at HH.out HJI.out.1 HJI.out.2
   have x0 := hcc 0 _ rfl
   have f0 := hfr 0
   rw [show (j : Int).toNat * aNo.sz + 0 = j * 8 by rw [Int.toNat_natCast]; rfl] at x0 f0
   have x1 := hcc 1 _ rfl
   have f1 := hfr 1
   rw [show (j : Int).toNat * aNo.sz + 1 = j * 8 + 1 by rw [Int.toNat_natCast]; rfl] at x1 f1
   have x2 := hcc 2 _ rfl
   have f2 := hfr 2
   rw [show (j : Int).toNat * aNo.sz + 2 = j * 8 + 2 by rw [Int.toNat_natCast]; rfl] at x2 f2
   have x3 := hcc 3 _ rfl
   have f3 := hfr 3
   rw [show (j : Int).toNat * aNo.sz + 3 = j * 8 + 3 by rw [Int.toNat_natCast]; rfl] at x3 f3
   have x4 := hcc 4 _ rfl
   have f4 := hfr 4
   rw [show (j : Int).toNat * aNo.sz + 4 = j * 8 + 4 by rw [Int.toNat_natCast]; rfl] at x4 f4
   have x5 := hcc 5 _ rfl
   have f5 := hfr 5
   rw [show (j : Int).toNat * aNo.sz + 5 = j * 8 + 5 by rw [Int.toNat_natCast]; rfl] at x5 f5
   have x6 := hcc 6 _ rfl
   have f6 := hfr 6
   rw [show (j : Int).toNat * aNo.sz + 6 = j * 8 + 6 by rw [Int.toNat_natCast]; rfl] at x6 f6
   have x7 := hcc 7 _ rfl
   have f7 := hfr 7
   rw [show (j : Int).toNat * aNo.sz + 7 = j * 8 + 7 by rw [Int.toNat_natCast]; rfl] at x7 f7
   clear hcc hfr
   go_wp2_with fail
   have hmf1 : laws_markByteS.f 200000000 l1 (m1 : Int) = some ((m2 : Int), marksB l1.length m1) := by
    rw [← HE.out.2.1]
    exact markByteS_f l1 m1 (by have := HL.out; omega) 200000000 (by have := HL.out; omega)
   refine (laws_markByteS.calls 200000000 _ _ l1 _ _ _ w0 _ HB.out HO1.out hmf1).mono ?_
   rintro e w2 ⟨rfl, hr, hb, hk⟩
   replace HO0 := Aside0.mk (R_kept HO0.out hk (fun k h q => q.1.2 h.2))
   replace HO4 := Aside0.mk (R_kept HO4.out hk (fun k h q => h.1.2 q.2))
   replace HO7 := Aside0.mk (R_kept HO7.out hk (fun k h q => h.1.2 q.2))
   replace HH := Aside0.mk (H_kept HH.out hk (fun k h => h.1.1))
   replace HK := Aside0.mk (kept_trans HK.out hk (fun k h => (HG.out k (h.1.1)).1))
   have HO1' := HO1
   replace HO1 := Aside0.mk (R_reok2 rfl hr (fun k e => HO1'.out.1 k e))
   replace HB := Aside0.mk hb
   clear hr hb hk HO1' hmf1 x0 x1 x2 x3 x4 x5 x6 x7 f0 f1 f2 f3 f4 f5 f6 f7
   obtain ⟨hcc, hfr⟩ := H_at HH.out HJI.out.1 HJI.out.2
   have x0 := hcc 0 _ rfl
   have f0 := hfr 0
   rw [show (j : Int).toNat * aNo.sz + 0 = j * 8 by rw [Int.toNat_natCast]; rfl] at x0 f0
   have x1 := hcc 1 _ rfl
   have f1 := hfr 1
   rw [show (j : Int).toNat * aNo.sz + 1 = j * 8 + 1 by rw [Int.toNat_natCast]; rfl] at x1 f1
   have x2 := hcc 2 _ rfl
   have f2 := hfr 2
   rw [show (j : Int).toNat * aNo.sz + 2 = j * 8 + 2 by rw [Int.toNat_natCast]; rfl] at x2 f2
   have x3 := hcc 3 _ rfl
   have f3 := hfr 3
   rw [show (j : Int).toNat * aNo.sz + 3 = j * 8 + 3 by rw [Int.toNat_natCast]; rfl] at x3 f3
   have x4 := hcc 4 _ rfl
   have f4 := hfr 4
   rw [show (j : Int).toNat * aNo.sz + 4 = j * 8 + 4 by rw [Int.toNat_natCast]; rfl] at x4 f4
   have x5 := hcc 5 _ rfl
   have f5 := hfr 5
   rw [show (j : Int).toNat * aNo.sz + 5 = j * 8 + 5 by rw [Int.toNat_natCast]; rfl] at x5 f5
   have x6 := hcc 6 _ rfl
   have f6 := hfr 6
   rw [show (j : Int).toNat * aNo.sz + 6 = j * 8 + 6 by rw [Int.toNat_natCast]; rfl] at x6 f6
   have x7 := hcc 7 _ rfl
   have f7 := hfr 7
   rw [show (j : Int).toNat * aNo.sz + 7 = j * 8 + 7 by rw [Int.toNat_natCast]; rfl] at x7 f7
   clear hcc hfr
   have cu2 := u64_id m2 HW.out.2.1
   have ca2 := wrap_up m2 HW.out.2.1
   have ci2 := w64_id (m2 + 1) HW.out.2.2.1
   have ci3 := i64_id (m2 + 1) HW.out.2.2.1
   have ca3 : wrap64 (((m2 + 1 : Nat) : Int) + 1) = ((m2 + 2 : Nat) : Int) := wrap_up (m2 + 1) HW.out.2.2.1
   rw [HNN.out.1] at ca2 ci2 ci3 ca3
   rw [HNN.out.2.1] at ca3
   go_wp2_with fail
   clear cu2 ca2 ci2 ci3 ca3
   have hB1 := below_set (below_set HB.out (j := j * 8 + 2) (v := .int .u64 (m2 : Int)) HN.out.1) (j := j * 8 + 3) (v := .int .i64 (n1 : Int)) HN.out.1
   have hs1 := H_setN (g := g) HH.out HJI.out.2 2 (.int .u64 (m2 : Int)) (by omega) rfl (c' := [.slice A0 l0.length k0, .slice A1 l1.length k1', .int .u64 (m2 : Int), .int .i64 mo, .slice A4 l4.length k4, .int .u64 ep, .int .u64 ge, .slice A7 l7.length k7]) rfl
   have hs2 := H_setN (g := g) hs1 HJI.out.2 3 (.int .i64 (n1 : Int)) (by omega) rfl (c' := [.slice A0 l0.length k0, .slice A1 l1.length k1', .int .u64 (m2 : Int), .int .i64 (n1 : Int), .slice A4 l4.length k4, .int .u64 ep, .int .u64 ge, .slice A7 l7.length k7]) rfl
   have hK1 := kept_set (kept_set HK.out OKG.out (j := j * 8 + 2) (v := .int .u64 (m2 : Int))) OKG.out (j := j * 8 + 3) (v := .int .i64 (n1 : Int))
   have far := fun {β : Type} {d : Kd β} {e : Nat} {q : Nat → Prop} {v : Value} {l : List β} (h : Kd.R d e w2 w0.heap.size q v l) (hq : ∀ k, q k → oki k) => Kd.R_far (p := ⟨g, j * 8 + 3, none⟩) (Kd.R_far (p := ⟨g, j * 8 + 2, none⟩) h (fun k hk => (HG.out k (hq k hk)).2) (.int .u64 (m2 : Int))) (fun k hk => (HG.out k (hq k hk)).2) (.int .i64 (n1 : Int))
   replace HO0 := Aside0.mk (far HO0.out (fun _ h => h.1))
   replace HO1 := Aside0.mk (far HO1.out (fun _ h => h.1.1))
   replace HO4 := Aside0.mk (far HO4.out (fun _ h => h.1.1.1))
   replace HO7 := Aside0.mk (far HO7.out (fun _ h => h.1.1.1))
   replace HH := Aside0.mk hs2
   replace HK := Aside0.mk hK1
   replace HB := Aside0.mk hB1
   clear far hs1 hs2 hK1 hB1
   generalize (w2.setCell ⟨g, j * 8 + 2, none⟩ (.int .u64 (m2 : Int))).setCell ⟨g, j * 8 + 3, none⟩ (.int .i64 (n1 : Int)) = w2' at *
   have hmf4 : laws_markUint64S.f 200000000 l4 (n2 : Int) = some ((m4 : Int), marksU l4.length n2) := by
    rw [← HE.out.2.2]
    exact markUint64S_f l4 n2 (by have := HL.out; omega) 200000000 (by have := HL.out; omega)
   refine (laws_markUint64S.calls 200000000 _ _ l4 _ _ _ w0 _ HB.out HO4.out hmf4).mono ?_
   rintro e w3 ⟨rfl, hr, hb, hk⟩
   replace HO0 := Aside0.mk (R_kept HO0.out hk (fun k h q => q.1.1.2 h.2))
   replace HO1 := Aside0.mk (R_kept HO1.out hk (fun k h q => q.1.2 h.2))
   replace HO7 := Aside0.mk (R_kept HO7.out hk (fun k h q => h.2 q.2))
   replace HH := Aside0.mk (H_kept HH.out hk (fun k h => h.1.1.1))
   replace HK := Aside0.mk (kept_trans HK.out hk (fun k h => (HG.out k (h.1.1.1)).1))
   have HO4' := HO4
   replace HO4 := Aside0.mk (R_reok2 rfl hr (fun k e => HO4'.out.1 k e))
   replace HB := Aside0.mk hb
   clear hr hb hk HO4' hmf4 x0 x1 x2 x3 x4 x5 x6 x7 f0 f1 f2 f3 f4 f5 f6 f7
   obtain ⟨hcc, hfr⟩ := H_at HH.out HJI.out.1 HJI.out.2
   have x0 := hcc 0 _ rfl
   have f0 := hfr 0
   rw [show (j : Int).toNat * aNo.sz + 0 = j * 8 by rw [Int.toNat_natCast]; rfl] at x0 f0
   have x1 := hcc 1 _ rfl
   have f1 := hfr 1
   rw [show (j : Int).toNat * aNo.sz + 1 = j * 8 + 1 by rw [Int.toNat_natCast]; rfl] at x1 f1
   have x2 := hcc 2 _ rfl
   have f2 := hfr 2
   rw [show (j : Int).toNat * aNo.sz + 2 = j * 8 + 2 by rw [Int.toNat_natCast]; rfl] at x2 f2
   have x3 := hcc 3 _ rfl
   have f3 := hfr 3
   rw [show (j : Int).toNat * aNo.sz + 3 = j * 8 + 3 by rw [Int.toNat_natCast]; rfl] at x3 f3
   have x4 := hcc 4 _ rfl
   have f4 := hfr 4
   rw [show (j : Int).toNat * aNo.sz + 4 = j * 8 + 4 by rw [Int.toNat_natCast]; rfl] at x4 f4
   have x5 := hcc 5 _ rfl
   have f5 := hfr 5
   rw [show (j : Int).toNat * aNo.sz + 5 = j * 8 + 5 by rw [Int.toNat_natCast]; rfl] at x5 f5
   have x6 := hcc 6 _ rfl
   have f6 := hfr 6
   rw [show (j : Int).toNat * aNo.sz + 6 = j * 8 + 6 by rw [Int.toNat_natCast]; rfl] at x6 f6
   have x7 := hcc 7 _ rfl
   have f7 := hfr 7
   rw [show (j : Int).toNat * aNo.sz + 7 = j * 8 + 7 by rw [Int.toNat_natCast]; rfl] at x7 f7
   clear hcc hfr
   have cu4 := u64_id m4 HW.out.2.2.2.1
   have ca4 := wrap_up m4 HW.out.2.2.2.1
   have cu5 := u64_id (m4 + 1) HW.out.2.2.2.2
   have ca5 : wrap64 (((m4 + 1 : Nat) : Int) + 1) = ((m4 + 2 : Nat) : Int) := wrap_up (m4 + 1) HW.out.2.2.2.2
   rw [HNN.out.2.2.1] at ca4 cu5 ca5
   rw [HNN.out.2.2.2] at ca5
   go_wp2_with fail
   clear cu4 ca4 cu5 ca5
   have hB1 := below_set (below_set HB.out (j := j * 8 + 5) (v := .int .u64 (m4 : Int)) HN.out.1) (j := j * 8 + 6) (v := .int .u64 (n4 : Int)) HN.out.1
   have hs1 := H_setN (g := g) HH.out HJI.out.2 5 (.int .u64 (m4 : Int)) (by omega) rfl (c' := [.slice A0 l0.length k0, .slice A1 l1.length k1', .int .u64 (m2 : Int), .int .i64 (n1 : Int), .slice A4 l4.length k4, .int .u64 (m4 : Int), .int .u64 ge, .slice A7 l7.length k7]) rfl
   have hs2 := H_setN (g := g) hs1 HJI.out.2 6 (.int .u64 (n4 : Int)) (by omega) rfl (c' := [.slice A0 l0.length k0, .slice A1 l1.length k1', .int .u64 (m2 : Int), .int .i64 (n1 : Int), .slice A4 l4.length k4, .int .u64 (m4 : Int), .int .u64 (n4 : Int), .slice A7 l7.length k7]) rfl
   have hK1 := kept_set (kept_set HK.out OKG.out (j := j * 8 + 5) (v := .int .u64 (m4 : Int))) OKG.out (j := j * 8 + 6) (v := .int .u64 (n4 : Int))
   have far := fun {β : Type} {d : Kd β} {e : Nat} {q : Nat → Prop} {v : Value} {l : List β} (h : Kd.R d e w3 w0.heap.size q v l) (hq : ∀ k, q k → oki k) => Kd.R_far (p := ⟨g, j * 8 + 6, none⟩) (Kd.R_far (p := ⟨g, j * 8 + 5, none⟩) h (fun k hk => (HG.out k (hq k hk)).2) (.int .u64 (m4 : Int))) (fun k hk => (HG.out k (hq k hk)).2) (.int .u64 (n4 : Int))
   replace HO0 := Aside0.mk (far HO0.out (fun _ h => h.1))
   replace HO1 := Aside0.mk (far HO1.out (fun _ h => h.1.1))
   replace HO4 := Aside0.mk (far HO4.out (fun _ h => h.1.1.1))
   replace HO7 := Aside0.mk (far HO7.out (fun _ h => h.1.1.1))
   replace HH := Aside0.mk hs2
   replace HK := Aside0.mk hK1
   replace HB := Aside0.mk hB1
   clear far hs1 hs2 hK1 hB1
   generalize (w3.setCell ⟨g, j * 8 + 5, none⟩ (.int .u64 (m4 : Int))).setCell ⟨g, j * 8 + 6, none⟩ (.int .u64 (n4 : Int)) = w3' at *
   obtain ⟨m5, hm5⟩ : ∃ m5, n5 + l7.length = m5 := ⟨_, rfl⟩
   have hmf7 : laws_markUint64S.f 200000000 l7 (n5 : Int) = some ((m5 : Int), marksU l7.length n5) := by
    rw [← hm5]
    exact markUint64S_f l7 n5 (by have := HL.out; omega) 200000000 (by have := HL.out; omega)
   refine (laws_markUint64S.calls 200000000 _ _ l7 _ _ _ w0 _ HB.out HO7.out hmf7).mono ?_
   rintro e w4 ⟨rfl, hr, hb, hk⟩
   replace HO0 := Aside0.mk (R_kept HO0.out hk (fun k h q => q.1.1.2 h.2))
   replace HO1 := Aside0.mk (R_kept HO1.out hk (fun k h q => q.1.2 h.2))
   replace HO4 := Aside0.mk (R_kept HO4.out hk (fun k h q => q.2 h.2))
   replace HH := Aside0.mk (H_kept HH.out hk (fun k h => h.1.1.1))
   replace HK := Aside0.mk (kept_trans HK.out hk (fun k h => (HG.out k (h.1.1.1)).1))
   have HO7' := HO7
   replace HO7 := Aside0.mk (R_reok2 rfl hr (fun k e => HO7'.out.1 k e))
   replace HB := Aside0.mk hb
   clear hr hb hk HO7' hmf7 x0 x1 x2 x3 x4 x5 x6 x7 f0 f1 f2 f3 f4 f5 f6 f7
   have hM2 := aNo_mkp w4 w0.heap.size oki ⟨marksB l0.length mj, marksB l1.length m1, (m2 : Int), (n1 : Int), marksU l4.length n2, (m4 : Int), (n4 : Int), marksU l7.length n5⟩ p0 p1 p4 HO0.out HO1.out HO4.out HO7.out
   have hS2 := Kd.H_back HH.out (x' := ⟨marksB l0.length mj, marksB l1.length m1, (m2 : Int), (n1 : Int), marksU l4.length n2, (m4 : Int), (n4 : Int), marksU l7.length n5⟩) hM2 (fun k hk => hk)
   rw [Int.toNat_natCast, HM.out.1] at hS2
   have hE2 := HM.out.2
   rw [hm5] at hE2
   have HS2 := Aside0.mk hS2
   have HE2 := Aside0.mk hE2
   obtain ⟨k1, rfl⟩ : ∃ k1, gk = k1 + 1 := ⟨gk - 1, by have := HN.out; omega⟩
   clear HS hS2 hM2 hE2 hm5 HO0 HO1 HO4 HO7 HH
   have cj := wrap_upL j HW.out.1
   go_wp2_with fail
   go_roundg k1
   case measure => clear cj; have := HN.out; omega
   case rel => exact ⟨j + 1, by first | rw [HE2.out] | (rw [HE2.out]; exact congrArg (Value.int .i64) (by clear cj; omega)), congrArg (Value.int .i64) cj, ⟨by have := HN.out; omega⟩, HS2, HK, HB⟩
  ·
   have e : j = xs.length := by omega
   subst e
   have c1 : decide ((xs.length : Int) < (xs.length : Int)) = false := decide_eq_false (by omega)
   go_wp2
   go_ret
   exact ⟨by simp [endL, List.take_length], by have := HS.out; rwa [midL_full] at this, HB.out, HK.out⟩
theorem markState_sk (m : Nat) (w0 : World) (lo hi : Nat) (e g n t : Int) (As : Option Addr) (cs : Nat) (xs : List Se) (An : Option Addr) (cn : Nat) (ns : List No) (w : World) (hB : Below w0.heap.size w0 w) (h : SK w0 w lo hi As cs xs An cn ns) (hm : m + sumL lnSe xs + sumL lnNo ns ≤ 100000000) :
  Calls Tryz.prog 11 #[.agg #[.int .u64 e, .int .u64 g, .int .u64 n, .int .i64 t, .slice As xs.length cs, .slice An ns.length cn], .int .i64 m] w fun r w' => r = .returned (.int .i64 ((m + sumL lnSe xs + sumL lnNo ns : Nat) : Int)) ∧ SK w0 w' lo hi As cs (markL mkSe lnSe xs m) An cn (markL mkNo lnNo ns (m + sumL lnSe xs)) ∧ Below w0.heap.size w0 w' ∧ Kept w w' (fun k => lo ≤ k ∧ k < hi) := by
 obtain ⟨p, h1, h2⟩ := h.ex
 have H1 := Aside0.mk h1
 have H2 := Aside0.mk h2
 have HB := Aside0.mk hB
 have HM := Aside0.mk hm
 clear h h1 h2 hB hm
 go_enter Tryz.func11, Tryz.ntmps11
 go_wp2_with fail
 have b0 := blk_new w (.cells #[.int .u64 e, .int .u64 g, .int .u64 n, .int .i64 t, .slice As xs.length cs, .slice An ns.length cn] 31)
 have hb0 := below_alloc (Below.refl w.heap.size w) (.cells #[.int .u64 e, .int .u64 g, .int .u64 n, .int .i64 t, .slice As xs.length cs, .slice An ns.length cn] 31)
 generalize w.alloc (.cells #[.int .u64 e, .int .u64 g, .int .u64 n, .int .i64 t, .slice As xs.length cs, .slice An ns.length cn] 31) = W0 at *
 have h1b := Kd.S_bound H1.out
 have h2b := Kd.S_bound H2.out
 have h1c := Kd.S_below h1b hb0
 have h2c := Kd.S_below h2b hb0
 refine (markSessionS_calls m w0 _ _ As cs xs (below_step HB.out hb0) h1c (by have := HM.out; omega)).mono ?_
 rintro r w1 ⟨rfl, hs1, hb1, hk1⟩
 have b1 := blk_kept b0 hk1 (fun h => by have := h.2.2.1; omega)
 have h2d := Kd.S_kept h2c hk1 (fun k hk q => hk.1.2 q.1.2)
 have s5 := blk_cell b1 5
 simp only [List.getElem?_toArray, List.getElem?_cons_zero, List.getElem?_cons_succ] at s5
 have HS1 := Aside0.mk hs1
 have HS2 := Aside0.mk h2d
 have HB1 := Aside0.mk hb1
 have HK1 := Aside0.mk hk1
 have HB0 := Aside0.mk hb0
 clear hs1 h2d h2c h1c h1b h2b hb1 hk1 hb0 b0 b1
 go_wp2_with fail
 refine (markNodeS_calls (m + sumL lnSe xs) w0 _ _ An cn ns HB1.out HS2.out HM.out).mono ?_
 rintro r w2 ⟨rfl, hs2, hb2, hk2⟩
 have HS3 := Aside0.mk hs2
 have HS4 := Aside0.mk (Kd.S_kept HS1.out hk2 (fun k hk q => q.1.2 hk.1.2))
 have HB2 := Aside0.mk hb2
 have HK2 := Aside0.mk hk2
 clear hs2 hb2 hk2 HS1 HS2 HB1 s5
 go_wp2_with fail
 go_ret
 refine ⟨rfl, ⟨p, ?_, ?_⟩, HB2.out, ?_⟩
 ·
  rw [markL_length]
  exact Kd.S_mono HS4.out (fun k hk => hk.1)
 ·
  rw [markL_length]
  exact Kd.S_mono HS3.out (fun k hk => hk.1)
 ·
  refine ⟨Nat.le_trans HB0.out.size (Nat.le_trans HK1.out.1 HK2.out.1), fun i hi hn => ?_⟩
  rw [HK2.out.2 i (by have := HB0.out.size; have := HK1.out.1; omega) (fun q => hn q.1.1), HK1.out.2 i (by have := HB0.out.size; omega) (fun q => hn q.1.1)]
  exact HB0.out.block i hi
end
end Go.Proofs.YtbgbocdohadhoaaGreatDoor.Print
