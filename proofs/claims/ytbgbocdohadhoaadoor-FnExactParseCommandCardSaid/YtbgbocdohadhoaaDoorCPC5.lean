/- Texts of this session, joined by its own program. -/
import Derived.Test.YtbgbocdohadhoaaDoorCards
import Derived.Test.YtbgbocdohadhoaaDoorTie
import Derived.WalkKit
import Derived.Below
import Derived.LaidMore
import Derived.Lay
import Derived.SevenTiedAt
import Derived.Stop.Joined
import Derived.Test.YtbgbocdohadhoaaDoorCPC4
namespace Go.Proofs.YtbgbocdohadhoaaDoor.Print
open Go Go.RowKit Go.Proofs.YtbgbocdohadhoaaDoorW.PrintWords Go.Proofs.YtbgbocdohadhoaaDoorW.PrintLast Go.Proofs.YtbgbocdohadhoaaDoorW.PrintMore
set_option linter.unusedVariables false
set_option linter.unusedSimpArgs false
theorem word_at {W : World} {A : Option Addr} {ws : List (List Int)} (h : (Kd.slice 5 (Kd.int .u8)).C W A ws.length ws) (hp : 0 < ws.length) : ∃ ad, A = some ad ∧ ∀ j (hj : j < ws.length), ∃ B c, W.cell? (ad.add j) = some (.slice B ws[j].length c) ∧ ws[j].length ≤ c ∧ (Kd.int .u8).C W B ws[j].length ws[j] := by
 obtain ⟨ad, e, hc⟩ := h.2.2 hp
 refine ⟨ad, e, fun j hj => ?_⟩
 obtain ⟨c, h1, ⟨B, d, h2, h3, h4⟩, h5⟩ := hc j ws[j] (List.getElem?_eq_getElem hj)
 refine ⟨B, d, ?_, h3, h4⟩
 have := h5 0 _ (by rw [h2]; rfl)
 simpa [Kd.slice] using this
theorem w64 (i : Nat) (h : i ≤ 2000000) : IntKind.wrap .i64 (i : Int) = (i : Int) := by rw [IntKind.wrap_i64]; omega
theorem fillA_cc (C : Cmd) (q : Int) (sh x : List Int) (ws : List (List Int)) : fillA C (q :: sh) (x :: ws) = (fillF C q x).bind fun c' => fillA c' sh ws := rfl
theorem fillA_nil (C : Cmd) (sh : List Int) : fillA C sh [] = some C := by cases sh <;> rfl
theorem shp_facts (q : List Int) : ((shpF q).1 = [63] ∨ ∀ z ∈ (shpF q).1, fltr z) ∧ (∀ z ∈ (shpF q).1, 0 ≤ z ∧ z < 256) ∧ (shpF q).1.length ≤ 4 := by
 unfold shpF
 cases h : shpT.find? (fun x => x.1 == q) with
 | none => exact ⟨Or.inl rfl, by decide, by decide⟩
 | some x =>
  have hm := List.mem_of_find?_eq_some h
  clear h
  simp only [shpT, List.mem_cons, List.mem_nil_iff, or_false] at hm
  unfold fltr
  rcases hm with rfl | rfl | rfl | rfl | rfl | rfl | rfl | rfl | rfl | rfl | rfl | rfl | rfl | rfl | rfl | rfl | rfl | rfl | rfl <;> exact ⟨Or.inr (by decide), by decide, by decide⟩
theorem cmdF_cons (w0 : List Int) (r : List (List Int)) : cmdF (w0 :: r) = if (shpF w0).1 = [63] ∨ r.length < leastF (shpF w0).1 ∨ (shpF w0).1.length < r.length then none else fillA ⟨(shpF w0).2.1, (shpF w0).2.2, 0, [], 0, [], 0, 0, 0, if (shpF w0).2.1 = 5 then 5 else 0⟩ (shpF w0).1 r := rfl
theorem words_calls (A : Option Addr) (c : Nat) (l : List Int) (w : World) (h0 : Kd.C (Kd.int .u8) w A l.length l) (hc : l.length ≤ c) (hl : l.length ≤ 2097152) :
  Calls Tryd.prog 75 #[.slice A l.length c] w fun r w' => ∃ B d, r = .returned (.slice B (wds l).length d) ∧ (wds l).length ≤ d ∧ (Kd.slice 5 (Kd.int .u8)).C w' B (wds l).length (wds l) ∧ Below w.heap.size w w' := by
 refine (spec_l6words.calls 10000000 A c l (wds l) w h0 hc (l6words_f l hl 10000000 (by omega))).mono ?_
 rintro r w' ⟨v, rfl, hS, hb⟩
 obtain ⟨B, d, rfl⟩ := Kd.S_slice hS
 obtain ⟨_, h1, h2⟩ := Kd.S_reads' hS
 exact ⟨B, d, rfl, h1, h2, hb⟩
set_option maxHeartbeats 8000000 in
set_option maxRecDepth 100000 in
theorem spec_ParseCommand_ok (w0 : World) (A : Option Addr) (c : Nat) (l : List Int) (w : World) (hB : Below w0.heap.size w0 w) (h0 : Kd.C (Kd.int .u8) w A l.length l) (hc : l.length ≤ c) (hl : l.length ≤ 1048576) (hbr : ∀ x ∈ l, 0 ≤ x ∧ x < 256) :
    Calls Tryd.prog 31 #[.slice A l.length c] w fun r w' => ∃ A2 d2 A4 d4, r = .returned (.tuple #[.agg #[.int .i64 (ansI l).1.kd, .int .i64 (ansI l).1.ok, .int .u64 (ansI l).1.s, .slice A2 (ansI l).1.p.length d2, .int .i64 (ansI l).1.f, .slice A4 (ansI l).1.v.length d4, .int .u64 (ansI l).1.e, .int .u64 (ansI l).1.g, .int .i64 (ansI l).1.n, .int .i64 (ansI l).1.m], .int .i64 (ansI l).2]) ∧ OPK w0 w' w.heap.size w'.heap.size A2 d2 (ansI l).1.p A4 d4 (ansI l).1.v ∧ Below w.heap.size w w' := by
  have HB0 := Aside0.mk hB
  have HWF := Aside0.mk (show ∀ q ∈ wds l, (∀ x ∈ q, 0 ≤ x ∧ x < 256) ∧ q.length ≤ 0 + l.length ∧ 1 ≤ q.length from wdsG_facts l [] (by simp) hbr)
  have HWC := Aside0.mk (wds_count l)
  have HA := Aside0.mk (show ansI l = ofO (cmdF (wds l)) by unfold ansI; rw [cmdI_eq])
  have hba := below_alloc (Below.refl w.heap.size w) (.cells #[.int .i64 0, .int .i64 0, .int .u64 0, .slice none 0 0, .int .i64 0, .slice none 0 0, .int .u64 0, .int .u64 0, .int .i64 0, .int .i64 0] 52)
  have HW := Aside0.mk (words_calls A c l _ (Kd.C_below h0 hba) hc (by omega))
  have BZ := Aside0.mk (blk_new w (.cells #[.int .i64 0, .int .i64 0, .int .u64 0, .slice none 0 0, .int .i64 0, .slice none 0 0, .int .u64 0, .int .u64 0, .int .i64 0, .int .i64 0] 52))
  have HB := Aside0.mk hba
  clear hB h0 hc hbr hba
  go_enter Tryd.func31, Tryd.ntmps31
  go_upto_region 1 with (fail)
  generalize w.alloc (.cells #[.int .i64 0, .int .i64 0, .int .u64 0, .slice none 0 0, .int .i64 0, .slice none 0 0, .int .u64 0, .int .u64 0, .int .i64 0, .int .i64 0] 52) = W1 at *
  go_wp2_with fail
  refine HW.out.mono ?_
  rintro r W2 ⟨As, cs, rfl, hcs, hC, hb⟩
  replace BZ := Aside0.mk (blk_below BZ.out hb)
  replace HB := Aside0.mk (below_step HB.out hb)
  have HC := Aside0.mk hC
  obtain ⟨ws, hws⟩ : ∃ ws, wds l = ws := ⟨_, rfl⟩
  rw [hws] at HC HA HWF HWC hcs ⊢
  clear hws hb hC HW
  cases ws with
  | nil =>
    have HE := Aside0.mk (show ansI l = (zCmd, 2) from HA.out)
    obtain ⟨z0, z1, z2, z3, z4, z5, z6, z7, z8, z9⟩ := cells10 BZ.out
    have u0 := blk_frozen BZ.out 0
    have u1 := blk_frozen BZ.out 1
    have u2 := blk_frozen BZ.out 2
    have u3 := blk_frozen BZ.out 3
    have u4 := blk_frozen BZ.out 4
    have u5 := blk_frozen BZ.out 5
    have u6 := blk_frozen BZ.out 6
    have u7 := blk_frozen BZ.out 7
    have u8 := blk_frozen BZ.out 8
    have u9 := blk_frozen BZ.out 9
    go_wp2_with fail
    refine bodyPost_ret (results_ct rfl _ _ w.heap.size 52 #[.int .i64 0, .int .i64 0, .int .u64 0, .slice none 0 0, .int .i64 0, .slice none 0 0, .int .u64 0, .int .u64 0, .int .i64 0, .int .i64 0] (0, 0) _ rfl (blk_set10 (BZ.out)) Tryd.underlying52 rfl (by kernel_rfl)) rfl ?_
    rw [HE.out]
    exact ⟨none, 0, none, 0, rfl, OPK.nil _ _ _ _, below_set10 HB.out (Nat.le_refl _)⟩
  | cons w00 r =>
    obtain ⟨ad, rfl, hwd⟩ := word_at HC.out (by simp)
    have HWD := Aside0.mk hwd
    have hq := HWF.out w00 (by simp)
    obtain ⟨A0, c00, x0, k1, k2⟩ := hwd 0 (by simp)
    simp only [Addr.add, if_true, List.getElem_cons_zero] at x0 k1 k2
    have hcv := Kd.C_string (P := Tryd.prog) (A := A0) (c := c00) Tryd.underlying22 Tryd.underlying5 Tryd.underlying9 k2
    have HSH := Aside0.mk (fun W => spec_l6shape.calls (strOfNums w00) _ _ _ W (l6shape_f w00 hq.1))
    obtain ⟨f1, f2, f3⟩ := shp_facts w00
    have HCF := Aside0.mk (cmdF_cons w00 r)
    obtain ⟨⟨sh, kd, op⟩, hsh⟩ : ∃ x, shpF w00 = x := ⟨_, rfl⟩
    rw [hsh] at HSH f1 f2 f3 HCF
    simp only at HSH f1 f2 f3 HCF
    have HF := Aside0.mk (And.intro f1 (And.intro f2 f3))
    rw [show (w00 :: r).length = r.length + 1 from rfl] at hcs ⊢
    have e1 : ((r.length : Int) + 1 == 0) = false := beq_eq_false_iff_ne.2 (by omega)
    have e2 : ¬ ((r.length : Int) + 1 = 0) := by omega
    have e3 : (0 : Int) < (r.length : Int) + 1 := by omega
    have hrn : r.length ≤ 1048577 := by have := HWC.out; simp only [List.length_cons] at this; omega
    clear hwd f1 f2 f3 hsh hq k1 k2 HC
    go_wp2_with fail
    refine (HSH.out W2).mono ?_
    rintro r' W3 ⟨rfl, hd⟩
    have hb := hd.below
    replace BZ := Aside0.mk (blk_below BZ.out hb)
    replace HB := Aside0.mk (below_step HB.out hb)
    have HGZ := Aside0.mk (show w.heap.size < W3.heap.size ∧ W2.heap.size ≤ W3.heap.size from ⟨blk_lt BZ.out, hb.size⟩)
    have HB2 := Aside0.mk hb
    clear hd hb HSH x0 hcv e1 e2 e3
    obtain ⟨fs, hfs⟩ : ∃ fs, strOfNums sh = fs := ⟨_, rfl⟩
    have hss : fs.size = sh.length := by rw [← hfs]; exact strOfNums_size sh
    rw [hfs]
    have HFS := Aside0.mk (And.intro hfs hss)
    clear hfs hss
    go_upto_region 6 with (fail)
    obtain ⟨m0, hm0⟩ : ∃ m0 : Int, (if kd = 5 then (5 : Int) else 0) = m0 := ⟨_, rfl⟩
    have hcf := HCF.out
    rw [hm0] at hcf
    replace HCF := Aside0.mk hcf
    clear hcf
    have bc := blk_new W3 (.cells #[.int .i64 kd, .int .i64 op, .int .u64 0, .slice none 0 0, .int .i64 0, .slice none 0 0, .int .u64 0, .int .u64 0, .int .i64 0, .int .i64 0] 52)
    have hba := below_alloc (Below.refl W3.heap.size W3) (.cells #[.int .i64 kd, .int .i64 op, .int .u64 0, .slice none 0 0, .int .i64 0, .slice none 0 0, .int .u64 0, .int .u64 0, .int .i64 0, .int .i64 0] 52)
    replace BZ := Aside0.mk (blk_below BZ.out hba)
    replace HB := Aside0.mk (below_step HB.out hba)
    replace HB2 := Aside0.mk (below_step HB2.out hba)
    have HG := Aside0.mk (show w.heap.size < W3.heap.size ∧ W2.heap.size ≤ W3.heap.size from HGZ.out)
    obtain ⟨g8, hg8⟩ : ∃ g8, W3.heap.size = g8 := ⟨_, rfl⟩
    generalize W3.alloc (.cells #[.int .i64 kd, .int .i64 op, .int .u64 0, .slice none 0 0, .int .i64 0, .slice none 0 0, .int .u64 0, .int .u64 0, .int .i64 0, .int .i64 0] 52) = W4 at *
    rw [hg8] at bc HG ⊢
    have BC := Aside0.mk bc
    have HM0 := Aside0.mk hm0
    clear bc hba hm0 hg8
    go_upto_if 33 with (fail)
    go_cut [] from 32 to 34 (fun wx => Aside0 (wx.heap[g8]? = some (.cells #[.int .i64 kd, .int .i64 op, .int .u64 0, .slice none 0 0, .int .i64 0, .slice none 0 0, .int .u64 0, .int .u64 0, .int .i64 0, .int .i64 m0] 52 (0, 0))) ∧ Aside0 (wx.heap[w.heap.size]? = some (.cells #[.int .i64 0, .int .i64 0, .int .u64 0, .slice none 0 0, .int .i64 0, .slice none 0 0, .int .u64 0, .int .u64 0, .int .i64 0, .int .i64 0] 52 (0, 0))) ∧ Aside0 (Below w.heap.size w wx) ∧ Aside0 (Below W2.heap.size W2 wx))
    case first =>
      obtain ⟨b0, b1, b2, b3, b4, b5, b6, b7, b8, b9⟩ := cells10 BC.out
      have y9 := blk_frozen BC.out 9
      by_cases h5 : kd = 5
      · have f5 : (kd == 5) = true := by rw [beq_iff_eq]; exact h5
        have hm : m0 = 5 := by rw [← HM0.out, if_pos h5]
        subst hm
        have BC2 := Aside0.mk (blk_put (cs' := #[.int .i64 kd, .int .i64 op, .int .u64 0, .slice none 0 0, .int .i64 0, .slice none 0 0, .int .u64 0, .int .u64 0, .int .i64 0, .int .i64 5]) BC.out 9 (.int .i64 5) rfl)
        have BZ2 := Aside0.mk (blk_far (p := ⟨g8, 9, none⟩) BZ.out (show w.heap.size ≠ g8 from Nat.ne_of_lt HG.out.1) (.int .i64 5))
        have HB3 := Aside0.mk (below_set (j := 9) (v := .int .i64 5) HB.out (Nat.le_of_lt HG.out.1))
        have HB4 := Aside0.mk (below_set (j := 9) (v := .int .i64 5) HB2.out HG.out.2)
        clear h5
        go_wp2_with fail
        go_meet
        exact ⟨BC2, BZ2, HB3, HB4⟩
      have f5 : (kd == 5) = false := beq_eq_false_iff_ne.2 h5
      have hm : m0 = 0 := by rw [← HM0.out, if_neg h5]
      subst hm
      clear h5
      go_wp2_with fail
      go_meet
      exact ⟨BC, BZ, HB, HB2⟩
    case rest =>
      obtain ⟨BC2, BZ2, HB3, HB4⟩ := hcut
      obtain ⟨W5, rfl⟩ : ∃ x, x = wc := ⟨wc, rfl⟩
      clear BC BZ HB HB2
      go_upto_region 9 with (fail)
      obtain ⟨lb, hlb⟩ : ∃ lb, decide (0 < sh.length ∧ (sh.getLastD 0 = 86 ∨ sh.getLastD 0 = 99)) = lb := ⟨_, rfl⟩
      have HLB := Aside0.mk (show leastF sh = if lb = true then sh.length - 1 else sh.length by
        unfold leastF
        rw [← hlb]
        by_cases q : 0 < sh.length ∧ (sh.getLastD 0 = 86 ∨ sh.getLastD 0 = 99)
        · rw [if_pos q, decide_eq_true q, if_pos rfl]
        rw [if_neg q, decide_eq_false q, if_neg (by decide)])
      have HLP := Aside0.mk (show lb = true → 0 < sh.length from fun h => (of_decide_eq_true (hlb.trans h)).1)
      go_cut [52] from 37 to 51 (fun v52 wx => v52 = .bool lb ∧ wx = W5)
      case first =>
        obtain ⟨hfs, hss⟩ := HFS.out
        by_cases hs0 : sh = []
        · have d1 : decide ((0 : Int) < (fs.size : Int)) = false := decide_eq_false (by rw [hss, hs0]; simp)
          have d2 : decide (0 < fs.size) = false := decide_eq_false (by rw [hss, hs0]; simp)
          have hl : lb = false := by rw [← hlb, hs0]; rfl
          clear hs0 hfs hss hlb
          subst hl
          go_wp2_with fail
          go_meet
          exact ⟨rfl, rfl⟩
        have hp : 0 < sh.length := by cases sh with | nil => exact absurd rfl hs0 | cons a b => simp
        have d1 : decide ((0 : Int) < (fs.size : Int)) = true := decide_eq_true (by omega)
        have d2 : decide (0 < fs.size) = true := decide_eq_true (by omega)
        have hlt : sh.length - 1 < sh.length := by omega
        have hz : sh.getLastD 0 = sh[sh.length - 1] := by
          rw [List.getLastD_eq_getLast?, List.getLast?_eq_getElem?, List.getElem?_eq_getElem hlt]; rfl
        have hbt := bt_str sh (sh.length - 1) hlt (HF.out.2.1 _ (List.getElem_mem hlt))
        rw [hfs, ← hz] at hbt
        obtain ⟨z, hzz⟩ : ∃ z, sh.getLastD 0 = z := ⟨_, rfl⟩
        rw [hzz] at hbt hlb
        have hb1 := bt_at fs ((fs.size : Int) - 1)
        rw [show bt fs ((fs.size : Int) - 1) = z by rw [← hbt]; congr 1; omega] at hb1
        have hb2 : ∀ h : fs.size - 1 < fs.size, ((fs[fs.size - 1]'h).toNat : Int) = z := fun h => by
          have h2 := hb1 (by omega)
          simp only [show ((fs.size : Int) - 1).toNat = fs.size - 1 by omega] at h2
          exact h2
        have w1 : wrap64 ((fs.size : Int) - 1) = (fs.size : Int) - 1 := by unfold wrap64; have := HF.out.2.2; omega
        have i0 : (fs.size : Int) ≤ 100 := by have := HF.out.2.2; omega
        have i1 : (0 : Int) ≤ (fs.size : Int) - 1 := by omega
        have i2 : (fs.size : Int) - 1 < (fs.size : Int) := by omega
        have i3 : (1 : Int) ≤ (fs.size : Int) := by omega
        have i4 : fs.size - 1 < fs.size := by omega
        have i5 : 1 ≤ fs.size := by omega
        by_cases c86 : z = 86
        · have q1 : (z == 86) = true := by rw [beq_iff_eq]; exact c86
          have hl : lb = true := by rw [← hlb]; exact decide_eq_true ⟨hp, Or.inl c86⟩
          clear hlb hzz hz hbt hs0 hp hlt hfs hss c86
          subst hl
          go_wp2_with fail
          go_meet
          exact ⟨rfl, rfl⟩
        have q1 : (z == 86) = false := beq_eq_false_iff_ne.2 c86
        by_cases c99 : z = 99
        · have q2 : (z == 99) = true := by rw [beq_iff_eq]; exact c99
          have hl : lb = true := by rw [← hlb]; exact decide_eq_true ⟨hp, Or.inr c99⟩
          clear hlb hzz hz hbt hs0 hp hlt hfs hss c86 c99
          subst hl
          go_wp2_with fail
          go_meet
          exact ⟨rfl, rfl⟩
        have q2 : (z == 99) = false := beq_eq_false_iff_ne.2 c99
        have hl : lb = false := by rw [← hlb]; exact decide_eq_false (fun h => h.2.elim c86 c99)
        clear hlb hzz hz hbt hs0 hp hlt hfs hss c86 c99
        subst hl
        go_wp2_with fail
        go_meet
        exact ⟨rfl, rfl⟩
      case rest =>
       obtain ⟨rfl, hww⟩ := hcut
       obtain rfl : W5 = wc := hww.symm
       clear hww hlb
       go_upto_if 52 with (fail)
       go_cut [9] from 53 to 54 (fun v9 wx => v9 = .int .i64 (leastF sh : Nat) ∧ wx = W5)
       case first =>
        have i0 : (fs.size : Int) ≤ 100 := by have := HF.out.2.2; have := HFS.out.2; omega
        cases lb with
        | true =>
          have i3 : (1 : Int) ≤ (fs.size : Int) := by have := HLP.out rfl; have := HFS.out.2; omega
          have HL := Aside0.mk (show ((leastF sh : Nat) : Int) = (fs.size : Int) - 1 by rw [HLB.out, if_pos rfl, HFS.out.2]; have := HLP.out rfl; omega)
          go_wp2_with fail
          go_meet
          exact ⟨by rw [HL.out], rfl⟩
        | false =>
          have HL := Aside0.mk (show ((leastF sh : Nat) : Int) = (fs.size : Int) by rw [HLB.out, if_neg (by decide), HFS.out.2])
          go_wp2_with fail
          go_meet
          exact ⟨by rw [HL.out], rfl⟩
       case rest =>
        obtain ⟨rfl, hww⟩ := hcut
        obtain rfl : W5 = wc := hww.symm
        clear hww
        obtain ⟨lf, hlf⟩ : ∃ lf, leastF sh = lf := ⟨_, rfl⟩
        rw [hlf] at HCF HLB ⊢
        have HCF := Aside0.mk HCF.out
        clear hlf
        by_cases g1 : sh = [63]
        · have t1 : fs.toList = [63] := by rw [← HFS.out.1]; exact (key_eqS (key := [63]) HF.out.2.1 (by decide) rfl).2 g1
          have G1 := Aside0.mk g1
          clear g1
          have HE := Aside0.mk (show ansI l = (zCmd, 2) from by rw [HA.out, HCF.out, if_pos (Or.inl G1.out)]; rfl)
          obtain ⟨z0, z1, z2, z3, z4, z5, z6, z7, z8, z9⟩ := cells10 BZ2.out
          have u0 := blk_frozen BZ2.out 0
          have u1 := blk_frozen BZ2.out 1
          have u2 := blk_frozen BZ2.out 2
          have u3 := blk_frozen BZ2.out 3
          have u4 := blk_frozen BZ2.out 4
          have u5 := blk_frozen BZ2.out 5
          have u6 := blk_frozen BZ2.out 6
          have u7 := blk_frozen BZ2.out 7
          have u8 := blk_frozen BZ2.out 8
          have u9 := blk_frozen BZ2.out 9
          go_wp2_with fail
          refine bodyPost_ret (results_ct rfl _ _ w.heap.size 52 #[.int .i64 0, .int .i64 0, .int .u64 0, .slice none 0 0, .int .i64 0, .slice none 0 0, .int .u64 0, .int .u64 0, .int .i64 0, .int .i64 0] (0, 0) _ rfl (blk_set10 (BZ2.out)) Tryd.underlying52 rfl (by kernel_rfl)) rfl ?_
          rw [HE.out]
          exact ⟨none, 0, none, 0, rfl, OPK.nil _ _ _ _, below_set10 HB3.out (Nat.le_refl _)⟩
        have t1 : ¬ fs.toList = [63] := fun e => g1 ((key_eqS (key := [63]) HF.out.2.1 (by decide) (by rfl : Lib.bytesOf [63] = [63])).1 (by rw [HFS.out.1]; exact e))
        have t2 : (fs.toList == [63]) = false := beq_eq_false_iff_ne.2 t1
        have G1 := Aside0.mk g1
        clear g1
        by_cases g2 : r.length < lf
        · have d1 : decide ((r.length : Int) < (lf : Int)) = true := decide_eq_true (by omega)
          have d2 : decide (r.length < lf) = true := decide_eq_true g2
          have G2 := Aside0.mk g2
          clear g2
          have HE := Aside0.mk (show ansI l = (zCmd, 2) from by rw [HA.out, HCF.out, if_pos (Or.inr (Or.inl G2.out))]; rfl)
          obtain ⟨z0, z1, z2, z3, z4, z5, z6, z7, z8, z9⟩ := cells10 BZ2.out
          have u0 := blk_frozen BZ2.out 0
          have u1 := blk_frozen BZ2.out 1
          have u2 := blk_frozen BZ2.out 2
          have u3 := blk_frozen BZ2.out 3
          have u4 := blk_frozen BZ2.out 4
          have u5 := blk_frozen BZ2.out 5
          have u6 := blk_frozen BZ2.out 6
          have u7 := blk_frozen BZ2.out 7
          have u8 := blk_frozen BZ2.out 8
          have u9 := blk_frozen BZ2.out 9
          go_wp2_with fail
          refine bodyPost_ret (results_ct rfl _ _ w.heap.size 52 #[.int .i64 0, .int .i64 0, .int .u64 0, .slice none 0 0, .int .i64 0, .slice none 0 0, .int .u64 0, .int .u64 0, .int .i64 0, .int .i64 0] (0, 0) _ rfl (blk_set10 (BZ2.out)) Tryd.underlying52 rfl (by kernel_rfl)) rfl ?_
          rw [HE.out]
          exact ⟨none, 0, none, 0, rfl, OPK.nil _ _ _ _, below_set10 HB3.out (Nat.le_refl _)⟩
        have d1 : decide ((r.length : Int) < (lf : Int)) = false := decide_eq_false (by omega)
        have d2 : decide (r.length < lf) = false := decide_eq_false g2
        have G2 := Aside0.mk g2
        clear g2
        by_cases g3 : sh.length < r.length
        · have d3 : decide ((fs.size : Int) < (r.length : Int)) = true := decide_eq_true (by have := HFS.out.2; omega)
          have d4 : decide (fs.size < r.length) = true := decide_eq_true (by have := HFS.out.2; omega)
          have G3 := Aside0.mk g3
          clear g3
          have HE := Aside0.mk (show ansI l = (zCmd, 2) from by rw [HA.out, HCF.out, if_pos (Or.inr (Or.inr G3.out))]; rfl)
          obtain ⟨z0, z1, z2, z3, z4, z5, z6, z7, z8, z9⟩ := cells10 BZ2.out
          have u0 := blk_frozen BZ2.out 0
          have u1 := blk_frozen BZ2.out 1
          have u2 := blk_frozen BZ2.out 2
          have u3 := blk_frozen BZ2.out 3
          have u4 := blk_frozen BZ2.out 4
          have u5 := blk_frozen BZ2.out 5
          have u6 := blk_frozen BZ2.out 6
          have u7 := blk_frozen BZ2.out 7
          have u8 := blk_frozen BZ2.out 8
          have u9 := blk_frozen BZ2.out 9
          go_wp2_with fail
          refine bodyPost_ret (results_ct rfl _ _ w.heap.size 52 #[.int .i64 0, .int .i64 0, .int .u64 0, .slice none 0 0, .int .i64 0, .slice none 0 0, .int .u64 0, .int .u64 0, .int .i64 0, .int .i64 0] (0, 0) _ rfl (blk_set10 (BZ2.out)) Tryd.underlying52 rfl (by kernel_rfl)) rfl ?_
          rw [HE.out]
          exact ⟨none, 0, none, 0, rfl, OPK.nil _ _ _ _, below_set10 HB3.out (Nat.le_refl _)⟩
        have d3 : decide ((fs.size : Int) < (r.length : Int)) = false := decide_eq_false (by have := HFS.out.2; omega)
        have d4 : decide (fs.size < r.length) = false := decide_eq_false (by have := HFS.out.2; omega)
        have HANS := Aside0.mk (show ansI l = ofO (fillA ⟨kd, op, 0, [], 0, [], 0, 0, 0, m0⟩ sh r) from by rw [HA.out, HCF.out, if_neg (fun h => h.elim G1.out (fun h => h.elim G2.out g3))])
        have G3 := Aside0.mk g3
        have HLT := Aside0.mk (HF.out.1.resolve_left G1.out)
        have HRN := Aside0.mk hrn
        clear g3
        go_wp2_with fail
        clear t1 t2 d1 d2 d3 d4
        go_loopg [10] (r.length + 1) (fun kq v10 w' => ∃ (i : Nat) (kd' : Int) (ok' : Int) (s' : Int) (A2' : Option Addr) (d2' : Nat) (p' : List Int) (f' : Int) (A4' : Option Addr) (d4' : Nat) (v' : List Int) (e' : Int) (g' : Int) (n' : Int) (m' : Int), v10 = .int .i64 ((i : Int) + 1) ∧ Aside0 (kq + i = r.length + 1 ∧ i ≤ r.length) ∧ Aside0 (ansI l = ofO (fillA ⟨kd', ok', s', p', f', v', e', g', n', m'⟩ (sh.drop i) (r.drop i))) ∧ Aside0 (w'.heap[g8]? = some (.cells #[.int .i64 kd', .int .i64 ok', .int .u64 s', .slice A2' p'.length d2', .int .i64 f', .slice A4' v'.length d4', .int .u64 e', .int .u64 g', .int .i64 n', .int .i64 m'] 52 (0, 0))) ∧ Aside0 (w'.heap[w.heap.size]? = some (.cells #[.int .i64 0, .int .i64 0, .int .u64 0, .slice none 0 0, .int .i64 0, .slice none 0 0, .int .u64 0, .int .u64 0, .int .i64 0, .int .i64 0] 52 (0, 0))) ∧ Aside0 (OPK w0 w' w.heap.size w'.heap.size A2' d2' p' A4' d4' v') ∧ Aside0 (Below w.heap.size w w') ∧ Aside0 (Below W2.heap.size W2 w'))
        case atStart => exact ⟨0, kd, op, 0, none, 0, [], 0, none, 0, [], 0, 0, 0, m0, rfl, ⟨⟨rfl, Nat.zero_le _⟩⟩, ⟨by rw [List.drop_zero, List.drop_zero]; exact HANS.out⟩, BC2, BZ2, ⟨OPK.nil _ _ _ _⟩, HB3, HB4⟩
        case round =>
          clear HANS BC2 BZ2 HB3 HB4 HA HCF HLB HLP HM0
          obtain ⟨i, kd', ok', s', A2', d2', p', f', A4', d4', v', e', g', n', m', rfl, HJ, HANS, BC, BZ, HK, HB, HB2⟩ := hrel
          have hj0 := HJ.out
          have hrn := HRN.out
          by_cases hi : i < r.length
          · obtain ⟨gk1, rfl⟩ : ∃ k1, gk = k1 + 1 := ⟨gk - 1, by omega⟩
            have c1 : decide ((i : Int) + 1 < (r.length : Int) + 1) = true := decide_eq_true (by omega)
            have c2 : decide ((i : Int) < (r.length : Int)) = true := decide_eq_true (by omega)
            have c3 : decide (i < r.length) = true := decide_eq_true hi
            have hsh : i < sh.length := by have := G3.out; omega
            obtain ⟨Bx, cx, x0, k1, k2⟩ := HWD.out (i + 1) (by simp; omega)
            simp only [List.getElem_cons_succ] at x0 k1 k2
            rw [show ad.add (i + 1) = (⟨ad.block, ad.off + (i + 1), none⟩ : Addr) from if_neg (Nat.succ_ne_zero i)] at x0
            have hxq := HWF.out r[i] (List.mem_cons_of_mem _ (List.getElem_mem hi))
            have e1 : r.drop i = r[i] :: r.drop (i + 1) := List.drop_eq_getElem_cons hi
            have e2 : sh.drop i = sh[i] :: sh.drop (i + 1) := List.drop_eq_getElem_cons hsh
            have hlet := HLT.out sh[i] (List.getElem_mem hsh)
            have hbt := bt_str sh i hsh (HF.out.2.1 _ (List.getElem_mem hsh))
            rw [HFS.out.1] at hbt
            have hans := HANS.out
            rw [e1, e2] at hans
            replace x0 := (HB2.out.cell (World.block_lt_of_cell? W2 _ x0)).trans x0
            have hcx := Kd.C_below k2 HB2.out
            generalize r[i] = x at *
            generalize sh[i] = q at *
            have HANS2 := Aside0.mk hans
            have hfz : i < fs.size := by have := HFS.out.2; omega
            have hb1 := bt_at fs (i : Int)
            rw [hbt] at hb1
            have hb2 : ∀ h : i < fs.size, ((fs[i]'h).toNat : Int) = q := fun h => hb1 h
            have c4 : (i : Int) < (fs.size : Int) := by omega
            have c5 : (0 : Int) ≤ (i : Int) := by omega
            have c6 : (i : Int) + 1 < (r.length : Int) + 1 := by omega
            have c7 : (0 : Int) ≤ (i : Int) + 1 := by omega
            have c8 : (i : Int) ≤ 2000000 := by omega
            have c9 : ((i : Int) + 1).toNat = i + 1 := by omega
            have w1 : IntKind.wrap .i64 (i : Int) = (i : Int) := w64 i (by omega)
            have w3 : (i : Int) + 1 - 1 = (i : Int) := by omega
            have c10 : (i : Int).toNat = i := rfl
            have HFL := Aside0.mk (fun (W : World) (hW : Below wr.heap.size wr W) => l6fill_calls w0 w.heap.size kd' ok' s' A2' d2' p' f' A4' d4' v' e' g' n' m' q hlet Bx cx x W (below_step (below_step HB0.out HB.out) hW) (Nat.le_trans HB.out.size hW.size) ((HK.out.below hW).wide (Nat.le_refl _) hW.size) (Kd.C_below hcx hW) k1 hxq.1 (by have := hxq.2.1; omega))
            clear hans hlet hbt hxq k1 k2 hcx e1 e2 hj0 HANS
            obtain ⟨b0, b1, b2, b3, b4, b5, b6, b7, b8, b9⟩ := cells10 BC.out
            go_upto_region 16 with (fail)
            go_cut [11, 12] from 79 to 91 (fun v11 v12 wx => ∃ (g11 : Nat) (b : Bool) (kd_ ok_ s_ : Int) (A2_ : Option Addr) (d2_ : Nat) (p_ : List Int) (f_ : Int) (A4_ : Option Addr) (d4_ : Nat) (v_ : List Int) (e_ g_ n_ m_ : Int), v11 = .pointer (some ⟨g11, 0, none⟩) ∧ v12 = .bool b ∧ Aside0 (fillF ⟨kd', ok', s', p', f', v', e', g', n', m'⟩ q x = (if b = true then some ⟨kd_, ok_, s_, p_, f_, v_, e_, g_, n_, m_⟩ else none)) ∧ Aside0 (wx.heap[g11]? = some (.cells #[.int .i64 kd_, .int .i64 ok_, .int .u64 s_, .slice A2_ p_.length d2_, .int .i64 f_, .slice A4_ v_.length d4_, .int .u64 e_, .int .u64 g_, .int .i64 n_, .int .i64 m_] 52 (0, 0))) ∧ Aside0 (OPK w0 wx w.heap.size wx.heap.size A2_ d2_ p_ A4_ d4_ v_) ∧ Aside0 (Below wr.heap.size wr wx))
            case first =>
              have HCS := Aside0.mk (show ∀ w' : World, Below wr.heap.size wr w' → (w'.cell? ⟨g8, 0, none⟩ = some (.int .i64 kd') ∧ w'.cell? ⟨g8, 1, none⟩ = some (.int .i64 ok') ∧ w'.cell? ⟨g8, 2, none⟩ = some (.int .u64 s') ∧ w'.cell? ⟨g8, 3, none⟩ = some (.slice A2' p'.length d2') ∧ w'.cell? ⟨g8, 4, none⟩ = some (.int .i64 f') ∧ w'.cell? ⟨g8, 5, none⟩ = some (.slice A4' v'.length d4') ∧ w'.cell? ⟨g8, 6, none⟩ = some (.int .u64 e') ∧ w'.cell? ⟨g8, 7, none⟩ = some (.int .u64 g') ∧ w'.cell? ⟨g8, 8, none⟩ = some (.int .i64 n') ∧ w'.cell? ⟨g8, 9, none⟩ = some (.int .i64 m') ∧ w'.cell? ⟨ad.block, ad.off + (i + 1), none⟩ = some (.slice Bx x.length cx)) from fun w' h => by
                obtain ⟨q0, q1, q2, q3, q4, q5, q6, q7, q8, q9⟩ := cells10 (blk_below BC.out h)
                exact ⟨q0, q1, q2, q3, q4, q5, q6, q7, q8, q9, (h.cell (World.block_lt_of_cell? wr _ x0)).trans x0⟩)
              go_region_held3 (fun w' => w'.cell? ⟨g8, 0, none⟩ = some (.int .i64 kd') ∧ w'.cell? ⟨g8, 1, none⟩ = some (.int .i64 ok') ∧ w'.cell? ⟨g8, 2, none⟩ = some (.int .u64 s') ∧ w'.cell? ⟨g8, 3, none⟩ = some (.slice A2' p'.length d2') ∧ w'.cell? ⟨g8, 4, none⟩ = some (.int .i64 f') ∧ w'.cell? ⟨g8, 5, none⟩ = some (.slice A4' v'.length d4') ∧ w'.cell? ⟨g8, 6, none⟩ = some (.int .u64 e') ∧ w'.cell? ⟨g8, 7, none⟩ = some (.int .u64 g') ∧ w'.cell? ⟨g8, 8, none⟩ = some (.int .i64 n') ∧ w'.cell? ⟨g8, 9, none⟩ = some (.int .i64 m') ∧ w'.cell? ⟨ad.block, ad.off + (i + 1), none⟩ = some (.slice Bx x.length cx)) (exact HCS.out _ (by with_reducible repeat (first | exact HWn.out | exact Below.refl _ _ | refine below_set ?_ (Nat.le_refl _) | apply below_drew1 | apply below_alloc))) (first | (go_at_call 77; refine (HFL.out _ (by with_reducible repeat (first | exact Below.refl _ _ | apply below_drew1 | apply below_alloc))).mono ?_; rintro r1 wn ⟨b, kd_, ok_, s_, A2_, d2_, p_, f_, A4_, d4_, v_, e_, g_, n_, m_, rfl, hf, hk, hb0⟩; have HWn := Aside0.mk (show Below wr.heap.size wr wn from below_step (by with_reducible repeat (first | exact Below.refl _ _ | apply below_drew1 | apply below_alloc)) hb0); (first | (have HX := Aside0.mk (blk_below (blk_new _ _) hb0)) | (have HX := Aside0.mk (blk_below (blk_drew (blk_new _ _)) hb0)) | skip); (try (obtain ⟨xz0, xz1, xz2, xz3, xz4, xz5, xz6, xz7, xz8, xz9⟩ := cells10 HX.out; have xf0 := blk_frozen HX.out 0; have xf1 := blk_frozen HX.out 1; have xf2 := blk_frozen HX.out 2; have xf3 := blk_frozen HX.out 3; have xf4 := blk_frozen HX.out 4; have xf5 := blk_frozen HX.out 5; have xf6 := blk_frozen HX.out 6; have xf7 := blk_frozen HX.out 7; have xf8 := blk_frozen HX.out 8; have xf9 := blk_frozen HX.out 9)); have HF1 := Aside0.mk hf; have HK1 := Aside0.mk hk; clear hf hk hb0))
              all_goals
                go_wp2_with fail
                go_meet
              all_goals
                refine ⟨_, b, kd_, ok_, s_, A2_, d2_, p_, f_, A4_, d4_, v_, e_, g_, n_, m_, rfl, rfl, HF1, ⟨?_⟩, ⟨?_⟩, ⟨?_⟩⟩
                · first | with_reducible exact blk_set10 HX.out | with_reducible exact blk_new wn (.cells #[.int .i64 kd_, .int .i64 ok_, .int .u64 s_, .slice A2_ p_.length d2_, .int .i64 f_, .slice A4_ v_.length d4_, .int .u64 e_, .int .u64 g_, .int .i64 n_, .int .i64 m_] 52)
                · first | with_reducible exact (HK1.out.set10 HX.out (by decide)).wide (Nat.le_refl _) (by rw [size_set10]; exact Nat.le_refl _) | with_reducible exact (HK1.out.below (below_alloc (Below.refl wn.heap.size wn) (.cells #[.int .i64 kd_, .int .i64 ok_, .int .u64 s_, .slice A2_ p_.length d2_, .int .i64 f_, .slice A4_ v_.length d4_, .int .u64 e_, .int .u64 g_, .int .i64 n_, .int .i64 m_] 52))).wide (Nat.le_refl _) (by rw [World.size_alloc]; exact Nat.le_succ _)
                first | with_reducible exact below_set10 HWn.out (Nat.le_refl _) | with_reducible exact below_alloc HWn.out (.cells #[.int .i64 kd_, .int .i64 ok_, .int .u64 s_, .slice A2_ p_.length d2_, .int .i64 f_, .slice A4_ v_.length d4_, .int .u64 e_, .int .u64 g_, .int .i64 n_, .int .i64 m_] 52)
            case rest =>
              obtain ⟨g11, b, kd_, ok_, s_, A2_, d2_, p_, f_, A4_, d4_, v_, e_, g_, n_, m_, rfl, rfl, HFF, B11, HK1, HW1⟩ := hcut
              have BZ1 := Aside0.mk (blk_below BZ.out HW1.out)
              have BC1 := Aside0.mk (blk_below BC.out HW1.out)
              have HB1 := Aside0.mk (below_step HB.out HW1.out)
              have HB21 := Aside0.mk (below_step HB2.out HW1.out)
              have HG2 := Aside0.mk (And.intro HG.out.1 (And.intro HG.out.2 (And.intro (blk_lt BZ.out) (blk_lt BC.out))))
              clear BZ BC HB HB2 HK HW1 HFL x0 b0 b1 b2 b3 b4 b5 b6 b7 b8 b9
              cases b with
              | false =>
                have HE := Aside0.mk (show ansI l = (zCmd, 2) from by rw [HANS2.out, fillA_cc, HFF.out]; rfl)
                obtain ⟨z0, z1, z2, z3, z4, z5, z6, z7, z8, z9⟩ := cells10 BZ1.out
                have u0 := blk_frozen BZ1.out 0
                have u1 := blk_frozen BZ1.out 1
                have u2 := blk_frozen BZ1.out 2
                have u3 := blk_frozen BZ1.out 3
                have u4 := blk_frozen BZ1.out 4
                have u5 := blk_frozen BZ1.out 5
                have u6 := blk_frozen BZ1.out 6
                have u7 := blk_frozen BZ1.out 7
                have u8 := blk_frozen BZ1.out 8
                have u9 := blk_frozen BZ1.out 9
                go_wp2_with fail
                refine bodyPost_ret (results_ct rfl _ _ w.heap.size 52 #[.int .i64 0, .int .i64 0, .int .u64 0, .slice none 0 0, .int .i64 0, .slice none 0 0, .int .u64 0, .int .u64 0, .int .i64 0, .int .i64 0] (0, 0) _ rfl (blk_set10 (BZ1.out)) Tryd.underlying52 rfl (by kernel_rfl)) rfl ?_
                rw [HE.out]
                exact ⟨none, 0, none, 0, rfl, OPK.nil _ _ _ _, below_set10 HB1.out (Nat.le_refl _)⟩
              | true =>
                have HE := Aside0.mk (show ansI l = ofO (fillA ⟨kd_, ok_, s_, p_, f_, v_, e_, g_, n_, m_⟩ (sh.drop (i + 1)) (r.drop (i + 1))) from by rw [HANS2.out, fillA_cc, HFF.out]; rfl)
                obtain ⟨z0, z1, z2, z3, z4, z5, z6, z7, z8, z9⟩ := cells10 B11.out
                obtain ⟨b0, b1, b2, b3, b4, b5, b6, b7, b8, b9⟩ := cells10 BC1.out
                have u0 := blk_frozen BC1.out 0
                have u1 := blk_frozen BC1.out 1
                have u2 := blk_frozen BC1.out 2
                have u3 := blk_frozen BC1.out 3
                have u4 := blk_frozen BC1.out 4
                have u5 := blk_frozen BC1.out 5
                have u6 := blk_frozen BC1.out 6
                have u7 := blk_frozen BC1.out 7
                have u8 := blk_frozen BC1.out 8
                have u9 := blk_frozen BC1.out 9
                go_wp2_with fail
                go_roundg gk1
                case measure => have := HJ.out; omega
                case rel => exact ⟨i + 1, kd_, ok_, s_, A2_, d2_, p_, f_, A4_, d4_, v_, e_, g_, n_, m_, by go_num, ⟨by have := HJ.out; omega⟩, HE, ⟨blk_set10 BC1.out⟩, ⟨far10 BZ1.out (Nat.ne_of_lt HG2.out.1)⟩, ⟨(HK1.out.set10 BC1.out (by decide)).wide (Nat.le_refl _) (by rw [size_set10]; exact Nat.le_refl _)⟩, ⟨below_set10 HB1.out (Nat.le_of_lt HG2.out.1)⟩, ⟨below_set10 HB21.out HG2.out.2.1⟩⟩
          obtain rfl : i = r.length := by omega
          have c1 : decide ((r.length : Int) + 1 < (r.length : Int) + 1) = false := decide_eq_false (by omega)
          have c2 : decide ((r.length : Int) < (r.length : Int)) = false := decide_eq_false (by omega)
          have c3 : decide (r.length < r.length) = false := decide_eq_false (by omega)
          have HE := Aside0.mk (show ansI l = (⟨kd', ok', s', p', f', v', e', g', n', m'⟩, 0) from by rw [HANS.out, List.drop_length, fillA_nil]; rfl)
          obtain ⟨z0, z1, z2, z3, z4, z5, z6, z7, z8, z9⟩ := cells10 BZ.out
          have u0 := blk_frozen BZ.out 0
          have u1 := blk_frozen BZ.out 1
          have u2 := blk_frozen BZ.out 2
          have u3 := blk_frozen BZ.out 3
          have u4 := blk_frozen BZ.out 4
          have u5 := blk_frozen BZ.out 5
          have u6 := blk_frozen BZ.out 6
          have u7 := blk_frozen BZ.out 7
          have u8 := blk_frozen BZ.out 8
          have u9 := blk_frozen BZ.out 9
          obtain ⟨b0, b1, b2, b3, b4, b5, b6, b7, b8, b9⟩ := cells10 BC.out
          clear hi hj0 hrn HFS HF
          go_wp2_with fail
          refine bodyPost_ret (results_ct rfl _ _ w.heap.size 52 #[.int .i64 kd', .int .i64 ok', .int .u64 s', .slice A2' p'.length d2', .int .i64 f', .slice A4' v'.length d4', .int .u64 e', .int .u64 g', .int .i64 n', .int .i64 m'] (0, 0) _ rfl (blk_set10 (BZ.out)) Tryd.underlying52 rfl (by kernel_rfl)) rfl ?_
          rw [HE.out]
          exact ⟨A2', d2', A4', d4', rfl, (HK.out.set10 BZ.out (by decide)).wide (Nat.le_refl _) (by rw [size_set10]; exact Nat.le_refl _), below_set10 HB.out (Nat.le_refl _)⟩
theorem fillF_len (c : Cmd) (q : Int) (x : List Int) (c' : Cmd) (n : Nat) (h : fillF c q x = some c') (h1 : c.p.length ≤ n) (h2 : c.v.length ≤ n) (h3 : x.length ≤ n) : c'.p.length ≤ n ∧ c'.v.length ≤ n := by
 unfold fillF at h
 repeat' (split at h)
 all_goals first | (cases h; done) | (cases h; exact ⟨by assumption, by assumption⟩)
theorem fillA_len (n : Nat) : ∀ (sh : List Int) (ws : List (List Int)) (c c' : Cmd), fillA c sh ws = some c' → c.p.length ≤ n → c.v.length ≤ n → (∀ w ∈ ws, w.length ≤ n) → c'.p.length ≤ n ∧ c'.v.length ≤ n
 | sh, [], c, c', h, h1, h2, h3 => by
  rw [fillA_nil] at h
  cases h
  exact ⟨h1, h2⟩
 | [], w :: ws, c, c', h, h1, h2, h3 => by cases h
 | q :: sh, w :: ws, c, c', h, h1, h2, h3 => by
  rw [fillA_cc] at h
  cases hf : fillF c q w with
  | none => rw [hf] at h; cases h
  | some d =>
   rw [hf, Option.bind_some] at h
   obtain ⟨g1, g2⟩ := fillF_len c q w d n hf h1 h2 (h3 w (by simp))
   exact fillA_len n sh ws d c' h g1 g2 (fun x hx => h3 x (by simp [hx]))
theorem ansI_len (l : List Int) (hbr : ∀ x ∈ l, 0 ≤ x ∧ x < 256) : (ansI l).1.p.length ≤ l.length ∧ (ansI l).1.v.length ≤ l.length := by
 have hw := wdsG_facts l [] (by simp) hbr
 have ha : ansI l = ofO (cmdF (wds l)) := by unfold ansI; rw [cmdI_eq]
 rw [ha]
 cases hc : cmdF (wds l) with
 | none => exact ⟨Nat.zero_le _, Nat.zero_le _⟩
 | some C =>
  unfold wds at hc
  cases hl : wdsG [] l with
  | nil => rw [hl] at hc; cases hc
  | cons w0 r =>
   rw [hl] at hc hw
   rw [cmdF_cons] at hc
   split at hc
   ·
    cases hc
   exact fillA_len l.length _ _ _ _ hc (Nat.zero_le _) (Nat.zero_le _) (fun w hm => by have := (hw w (by simp [hm])).2.1; simpa using this)
set_option maxHeartbeats 4000000 in
set_option maxRecDepth 100000 in
theorem FnExactParseCommand_walk (A : Option Addr) (c : Nat) (l : List Int) (w : World) (h0 : Kd.C (Kd.int .u8) w A l.length l) (hc : l.length ≤ c) (g : l.length ≤ 140737488351232) (hbr : ∀ x ∈ l, 0 ≤ x ∧ x < 256) :
  Calls Tryd.prog 8 #[.slice A l.length c] w fun e w' => e = .returned (.bool true) ∧ Below w.heap.size w w' := by
 have R0 := Aside0.mk h0
 have BR := Aside0.mk hbr
 clear h0 hbr
 go_enter Tryd.func8, Tryd.ntmps8
 by_cases hbl : l.length ≤ 1048576
 case neg =>
  go_wp2_with fail
  go_ret
  exact ⟨rfl, by repeat (first | exact Below.refl _ _ | apply below_alloc)⟩
 have SP := fun A c W hB h0 hc => spec_ParseCommand_ok w A c l W hB h0 hc (by omega) BR.out
 have IM := fun A c W hB h0 hc => impl_ParseCommand_ok w A c l W hB h0 hc (by omega) BR.out
 obtain ⟨hlp, hlq⟩ := ansI_len l BR.out
 generalize ansI l = y at SP IM hlp hlq
 obtain ⟨⟨KD, K, n, p, F, q, e, g, N, M⟩, d⟩ := y
 simp only at SP IM hlp hlq
 have SP := Aside0.mk SP
 have IM := Aside0.mk IM
 have HB := Aside0.mk (Below.refl w.heap.size w)
 go_wp2_with fail
 refine (toByteS_bk 3000000 w A c l _ HB.out (Kd.C_below R0.out HB.out) hc (by omega) (by omega)).mono ?_
 rintro e w1 ⟨T, tc, rfl, hd, hb⟩
 replace HB := Aside0.mk (below_step HB.out hb)
 have s1 := hb.size
 clear hb
 (try simp only [World.size_alloc] at hd)
 have DT := Aside0.mk hd
 clear hd
 go_wp2_with fail
 refine (SP.out T tc _ HB.out DT.out.reads.1 DT.out.reads.2).mono ?_
 rintro e w2 ⟨W2, W2c, W4, W4c, rfl, hd, hb⟩
 clear DT
 replace HB := Aside0.mk (below_step HB.out hb)
 have s2 := hb.size
 clear hb
 (try simp only [World.size_alloc] at hd)
 have DW := Aside0.mk hd
 clear hd
 go_wp2_with fail
 have hba := below_alloc (Below.refl w2.heap.size w2) (.cells #[.int .i64 KD, .int .i64 K, .int .u64 n, (.slice W2 p.length W2c), .int .i64 F, (.slice W4 q.length W4c), .int .u64 e, .int .u64 g, .int .i64 N, .int .i64 M] 52)
 have NB := Aside0.mk (blk_new w2 (.cells #[.int .i64 KD, .int .i64 K, .int .u64 n, (.slice W2 p.length W2c), .int .i64 F, (.slice W4 q.length W4c), .int .u64 e, .int .u64 g, .int .i64 N, .int .i64 M] 52))
 refine (toByteS_bk 3000000 w A c l _ (below_step HB.out hba) (Kd.C_below R0.out (below_step HB.out hba)) hc (by omega) (by omega)).mono ?_
 rintro e w3 ⟨X0, xc, rfl, hd, hb⟩
 replace DW := Aside0.mk ((DW.out.below hba).below hb)
 replace HB := Aside0.mk (below_step (below_step HB.out hba) hb)
 have BW := Aside0.mk (blk_below NB.out hb)
 clear NB
 have s3 := hb.size
 simp only [World.size_alloc] at s3
 clear hb hba
 (try simp only [World.size_alloc] at hd)
 have DX := Aside0.mk hd
 clear hd
 go_wp2_with fail
 refine (IM.out X0 xc _ HB.out.size DX.out.reads.1 DX.out.reads.2).mono ?_
 rintro e w4 ⟨G2, G2c, G4, G4c, rfl, hd, hb⟩
 replace BW := Aside0.mk (blk_below BW.out hb)
 replace DW := Aside0.mk (DW.out.below hb)
 replace DX := Aside0.mk (DX.out.below hb)
 replace HB := Aside0.mk (below_step HB.out hb)
 have s4 := hb.size
 clear hb
 (try simp only [World.size_alloc] at hd)
 have DG := Aside0.mk hd
 clear hd
 have z1_l := blk_lt BW.out
 have z1_0 := blk_cell BW.out 0
 have z1_1 := blk_cell BW.out 1
 have z1_2 := blk_cell BW.out 2
 have z1_3 := blk_cell BW.out 3
 have z1_4 := blk_cell BW.out 4
 have z1_5 := blk_cell BW.out 5
 have z1_6 := blk_cell BW.out 6
 have z1_7 := blk_cell BW.out 7
 have z1_8 := blk_cell BW.out 8
 have z1_9 := blk_cell BW.out 9
 simp only [List.getElem?_toArray, List.getElem?_cons_zero, List.getElem?_cons_succ] at z1_0 z1_1 z1_2 z1_3 z1_4 z1_5 z1_6 z1_7 z1_8 z1_9
 go_wp2_with fail
 have hba := below_alloc (Below.refl w4.heap.size w4) (.cells #[.int .i64 KD, .int .i64 K, .int .u64 n, (.slice G2 p.length G2c), .int .i64 F, (.slice G4 q.length G4c), .int .u64 e, .int .u64 g, .int .i64 N, .int .i64 M] 52)
 have NB := Aside0.mk (blk_new w4 (.cells #[.int .i64 KD, .int .i64 K, .int .u64 n, (.slice G2 p.length G2c), .int .i64 F, (.slice G4 q.length G4c), .int .u64 e, .int .u64 g, .int .i64 N, .int .i64 M] 52))
 refine (eqCmd_m 3000000 w w _ _ _ _ KD K n G2 G2c p F G4 G4c q e g N M W2 W2c W4 W4c _ (DG.out.below hba) (DW.out.below hba) (by omega) (by omega) (by omega)).mono ?_
 rintro e w5 ⟨rfl, hb⟩
 replace BW := Aside0.mk (blk_below (blk_below BW.out hba) hb)
 replace DW := Aside0.mk ((DW.out.below hba).below hb)
 replace DX := Aside0.mk ((DX.out.below hba).below hb)
 replace DG := Aside0.mk ((DG.out.below hba).below hb)
 replace HB := Aside0.mk (below_step (below_step HB.out hba) hb)
 have BG := Aside0.mk (blk_below NB.out hb)
 clear NB
 have s5 := hb.size
 simp only [World.size_alloc] at s5
 clear hb hba
 clear z1_l z1_0 z1_1 z1_2 z1_3 z1_4 z1_5 z1_6 z1_7 z1_8 z1_9
 go_wp2_with fail
 refine (toByteS_bk 3000000 w A c l _ HB.out (Kd.C_below R0.out HB.out) hc (by omega) (by omega)).mono ?_
 rintro e w6 ⟨V0, vc, rfl, hd, hb⟩
 replace BW := Aside0.mk (blk_below BW.out hb)
 replace BG := Aside0.mk (blk_below BG.out hb)
 replace DW := Aside0.mk (DW.out.below hb)
 replace DX := Aside0.mk (DX.out.below hb)
 replace DG := Aside0.mk (DG.out.below hb)
 replace HB := Aside0.mk (below_step HB.out hb)
 have s6 := hb.size
 clear hb
 (try simp only [World.size_alloc] at hd)
 have DV := Aside0.mk hd
 clear hd
 go_wp2_with fail
 refine (eqByteS_bk 200000000 w w _ _ _ _ X0 xc l V0 vc _ DX.out DV.out (by omega) (by omega)).mono ?_
 rintro e w7 ⟨rfl, hb⟩
 clear DV
 replace BW := Aside0.mk (blk_below BW.out hb)
 replace BG := Aside0.mk (blk_below BG.out hb)
 replace DW := Aside0.mk (DW.out.below hb)
 replace DX := Aside0.mk (DX.out.below hb)
 replace DG := Aside0.mk (DG.out.below hb)
 replace HB := Aside0.mk (below_step HB.out hb)
 have s7 := hb.size
 clear hb
 have bw_ := blk_lt BW.out
 have bg_ := blk_lt BG.out
 go_wp2_with fail
 refine (markByteS_bk 200000000 1 w _ _ X0 xc l _ HB.out DX.out (by omega) (by omega) (by omega)).mono ?_
 rintro e w8 ⟨rfl, hd, hb, hk⟩
 replace BW := Aside0.mk (blk_kept BW.out hk (by intro h; omega))
 replace BG := Aside0.mk (blk_kept BG.out hk (by intro h; omega))
 replace DW := Aside0.mk (DW.out.kept hk (by intro k h1 h2 h3; omega))
 replace DG := Aside0.mk (DG.out.kept hk (by intro k h1 h2 h3; omega))
 replace HB := Aside0.mk hb
 have s8 := hk.1
 replace DX := Aside0.mk hd
 clear hb hk hd
 generalize hm2 : 1 + l.length = m2
 have hneg : decide ((m2 : Int) < 0) = false := decide_eq_false (by omega)
 clear DX bw_ bg_
 have z2_l := blk_lt BW.out
 have z2_0 := blk_cell BW.out 0
 have z2_1 := blk_cell BW.out 1
 have z2_2 := blk_cell BW.out 2
 have z2_3 := blk_cell BW.out 3
 have z2_4 := blk_cell BW.out 4
 have z2_5 := blk_cell BW.out 5
 have z2_6 := blk_cell BW.out 6
 have z2_7 := blk_cell BW.out 7
 have z2_8 := blk_cell BW.out 8
 have z2_9 := blk_cell BW.out 9
 have z3_l := blk_lt BG.out
 have z3_0 := blk_cell BG.out 0
 have z3_1 := blk_cell BG.out 1
 have z3_2 := blk_cell BG.out 2
 have z3_3 := blk_cell BG.out 3
 have z3_4 := blk_cell BG.out 4
 have z3_5 := blk_cell BG.out 5
 have z3_6 := blk_cell BG.out 6
 have z3_7 := blk_cell BG.out 7
 have z3_8 := blk_cell BG.out 8
 have z3_9 := blk_cell BG.out 9
 simp only [List.getElem?_toArray, List.getElem?_cons_zero, List.getElem?_cons_succ] at z2_0 z2_1 z2_2 z2_3 z2_4 z2_5 z2_6 z2_7 z2_8 z2_9 z3_0 z3_1 z3_2 z3_3 z3_4 z3_5 z3_6 z3_7 z3_8 z3_9
 go_wp2_with fail
 refine (eqCmd_m 3000000 w w _ _ _ _ KD K n G2 G2c p F G4 G4c q e g N M W2 W2c W4 W4c _ (DG.out) (DW.out) (by omega) (by omega) (by omega)).mono ?_
 rintro e w9 ⟨rfl, hb⟩
 replace BW := Aside0.mk (blk_below BW.out hb)
 replace BG := Aside0.mk (blk_below BG.out hb)
 replace DW := Aside0.mk (DW.out.below hb)
 replace DG := Aside0.mk (DG.out.below hb)
 replace HB := Aside0.mk (below_step HB.out hb)
 have s9 := hb.size
 clear hb
 clear z2_l z2_0 z2_1 z2_2 z2_3 z2_4 z2_5 z2_6 z2_7 z2_8 z2_9 z3_l z3_0 z3_1 z3_2 z3_3 z3_4 z3_5 z3_6 z3_7 z3_8 z3_9
 have bw_ := blk_lt BW.out
 have bg_ := blk_lt BG.out
 have z4_l := blk_lt BG.out
 have z4_0 := blk_cell BG.out 0
 have z4_1 := blk_cell BG.out 1
 have z4_2 := blk_cell BG.out 2
 have z4_3 := blk_cell BG.out 3
 have z4_4 := blk_cell BG.out 4
 have z4_5 := blk_cell BG.out 5
 have z4_6 := blk_cell BG.out 6
 have z4_7 := blk_cell BG.out 7
 have z4_8 := blk_cell BG.out 8
 have z4_9 := blk_cell BG.out 9
 simp only [List.getElem?_toArray, List.getElem?_cons_zero, List.getElem?_cons_succ] at z4_0 z4_1 z4_2 z4_3 z4_4 z4_5 z4_6 z4_7 z4_8 z4_9
 go_wp2_with fail
 refine (markCmd_m 1 w _ _ KD K n G2 G2c p F G4 G4c q e g N M _ HB.out DG.out (by omega) (by omega) (by omega) (by omega)).mono ?_
 rintro e w10 ⟨rfl, hd, hb, hk⟩
 replace BW := Aside0.mk (blk_kept BW.out hk (by intro h; omega))
 replace BG := Aside0.mk (blk_kept BG.out hk (by intro h; omega))
 replace DW := Aside0.mk (DW.out.kept hk (by intro k h1 h2 h3; omega))
 replace HB := Aside0.mk hb
 have s10 := hk.1
 replace DG := Aside0.mk hd
 clear hb hk hd
 clear z4_l z4_0 z4_1 z4_2 z4_3 z4_4 z4_5 z4_6 z4_7 z4_8 z4_9
 generalize hm3 : 1 + p.length + q.length = m3
 clear bw_ bg_
 have z5_l := blk_lt BG.out
 have z5_0 := blk_cell BG.out 0
 have z5_1 := blk_cell BG.out 1
 have z5_2 := blk_cell BG.out 2
 have z5_3 := blk_cell BG.out 3
 have z5_4 := blk_cell BG.out 4
 have z5_5 := blk_cell BG.out 5
 have z5_6 := blk_cell BG.out 6
 have z5_7 := blk_cell BG.out 7
 have z5_8 := blk_cell BG.out 8
 have z5_9 := blk_cell BG.out 9
 simp only [List.getElem?_toArray, List.getElem?_cons_zero, List.getElem?_cons_succ] at z5_0 z5_1 z5_2 z5_3 z5_4 z5_5 z5_6 z5_7 z5_8 z5_9
 go_wp2_with fail
 refine (heldCmd_m 3000000 1 p.length q.length w _ _ KD K n G2 G2c F G4 G4c e g N M _ DG.out (by omega) (by omega) (by omega) (by omega)).mono ?_
 rintro e w11 ⟨rfl, hb⟩
 replace BW := Aside0.mk (blk_below BW.out hb)
 replace BG := Aside0.mk (blk_below BG.out hb)
 replace DW := Aside0.mk (DW.out.below hb)
 replace DG := Aside0.mk (DG.out.below hb)
 replace HB := Aside0.mk (below_step HB.out hb)
 have s11 := hb.size
 clear hb
 clear z5_l z5_0 z5_1 z5_2 z5_3 z5_4 z5_5 z5_6 z5_7 z5_8 z5_9
 rw [hm3]
 have hneg3 : decide ((m3 : Int) < 0) = false := decide_eq_false (by omega)
 go_wp2_with fail
 refine (toByteS_bk 3000000 w A c l _ HB.out (Kd.C_below R0.out HB.out) hc (by omega) (by omega)).mono ?_
 rintro e w12 ⟨T, tc, rfl, hd, hb⟩
 replace BW := Aside0.mk (blk_below BW.out hb)
 replace BG := Aside0.mk (blk_below BG.out hb)
 replace DW := Aside0.mk (DW.out.below hb)
 replace DG := Aside0.mk (DG.out.below hb)
 replace HB := Aside0.mk (below_step HB.out hb)
 have s12 := hb.size
 clear hb
 (try simp only [World.size_alloc] at hd)
 have DT := Aside0.mk hd
 clear hd
 go_wp2_with fail
 refine (IM.out T tc _ HB.out.size DT.out.reads.1 DT.out.reads.2).mono ?_
 rintro e w13 ⟨H2, H2c, H4, H4c, rfl, hd, hb⟩
 clear DT
 replace BW := Aside0.mk (blk_below BW.out hb)
 replace BG := Aside0.mk (blk_below BG.out hb)
 replace DW := Aside0.mk (DW.out.below hb)
 replace DG := Aside0.mk (DG.out.below hb)
 replace HB := Aside0.mk (below_step HB.out hb)
 have s13 := hb.size
 clear hb
 (try simp only [World.size_alloc] at hd)
 have DH := Aside0.mk hd
 clear hd
 have z6_l := blk_lt BW.out
 have z6_0 := blk_cell BW.out 0
 have z6_1 := blk_cell BW.out 1
 have z6_2 := blk_cell BW.out 2
 have z6_3 := blk_cell BW.out 3
 have z6_4 := blk_cell BW.out 4
 have z6_5 := blk_cell BW.out 5
 have z6_6 := blk_cell BW.out 6
 have z6_7 := blk_cell BW.out 7
 have z6_8 := blk_cell BW.out 8
 have z6_9 := blk_cell BW.out 9
 simp only [List.getElem?_toArray, List.getElem?_cons_zero, List.getElem?_cons_succ] at z6_0 z6_1 z6_2 z6_3 z6_4 z6_5 z6_6 z6_7 z6_8 z6_9
 go_wp2_with fail
 have hba := below_alloc (Below.refl w13.heap.size w13) (.cells #[.int .i64 KD, .int .i64 K, .int .u64 n, (.slice H2 p.length H2c), .int .i64 F, (.slice H4 q.length H4c), .int .u64 e, .int .u64 g, .int .i64 N, .int .i64 M] 52)
 have NB := Aside0.mk (blk_new w13 (.cells #[.int .i64 KD, .int .i64 K, .int .u64 n, (.slice H2 p.length H2c), .int .i64 F, (.slice H4 q.length H4c), .int .u64 e, .int .u64 g, .int .i64 N, .int .i64 M] 52))
 refine (eqCmd_m 3000000 w w _ _ _ _ KD K n H2 H2c p F H4 H4c q e g N M W2 W2c W4 W4c _ (DH.out.below hba) (DW.out.below hba) (by omega) (by omega) (by omega)).mono ?_
 rintro e w14 ⟨rfl, hb⟩
 replace BW := Aside0.mk (blk_below (blk_below BW.out hba) hb)
 replace BG := Aside0.mk (blk_below (blk_below BG.out hba) hb)
 replace DW := Aside0.mk ((DW.out.below hba).below hb)
 replace DG := Aside0.mk ((DG.out.below hba).below hb)
 replace DH := Aside0.mk ((DH.out.below hba).below hb)
 replace HB := Aside0.mk (below_step (below_step HB.out hba) hb)
 have BH := Aside0.mk (blk_below NB.out hb)
 clear NB
 have s14 := hb.size
 simp only [World.size_alloc] at s14
 clear hb hba
 clear z6_l z6_0 z6_1 z6_2 z6_3 z6_4 z6_5 z6_6 z6_7 z6_8 z6_9
 have z7_l := blk_lt BG.out
 have z7_0 := blk_cell BG.out 0
 have z7_1 := blk_cell BG.out 1
 have z7_2 := blk_cell BG.out 2
 have z7_3 := blk_cell BG.out 3
 have z7_4 := blk_cell BG.out 4
 have z7_5 := blk_cell BG.out 5
 have z7_6 := blk_cell BG.out 6
 have z7_7 := blk_cell BG.out 7
 have z7_8 := blk_cell BG.out 8
 have z7_9 := blk_cell BG.out 9
 simp only [List.getElem?_toArray, List.getElem?_cons_zero, List.getElem?_cons_succ] at z7_0 z7_1 z7_2 z7_3 z7_4 z7_5 z7_6 z7_7 z7_8 z7_9
 go_wp2_with fail
 refine (heldCmd_m 3000000 1 p.length q.length w _ _ KD K n G2 G2c F G4 G4c e g N M _ DG.out (by omega) (by omega) (by omega) (by omega)).mono ?_
 rintro e w15 ⟨rfl, hb⟩
 replace BW := Aside0.mk (blk_below BW.out hb)
 replace BG := Aside0.mk (blk_below BG.out hb)
 replace BH := Aside0.mk (blk_below BH.out hb)
 replace DW := Aside0.mk (DW.out.below hb)
 replace DG := Aside0.mk (DG.out.below hb)
 replace DH := Aside0.mk (DH.out.below hb)
 replace HB := Aside0.mk (below_step HB.out hb)
 have s15 := hb.size
 clear hb
 clear z7_l z7_0 z7_1 z7_2 z7_3 z7_4 z7_5 z7_6 z7_7 z7_8 z7_9
 rw [hm3]
 go_wp2_with fail
 go_ret
 exact ⟨rfl, HB.out⟩
end Go.Proofs.YtbgbocdohadhoaaDoor.Print
namespace Go.Proofs.YtbgbocdohadhoaaDoor.fnExactParseCommand
open Go.ChangeShapes Go.WideShapes Go.ChangeAt Go.RowKit Print
open Go.ChangeMaps (open_string shut_string)
open Go.Proofs.YtbgbocdohadhoaaDoorW.PrintWords Go.Proofs.YtbgbocdohadhoaaDoorW.PrintLast Go.Proofs.YtbgbocdohadhoaaDoorW.PrintMore
set_option linter.unusedVariables false
theorem own : ownKnob Tryd.prog.godebug = none := by kernel_rfl
theorem laidOut : laidOutB Tryd.prog = true := by kernel_rfl
set_option maxRecDepth 100000 in
theorem lifted (os : Os) (started : os.Started) (H : Type) (enc : TypeId × Value → H) :
  ReturnsInHanded {} Tryd.checked os 8 .any (fun w args => (Rows.fnExactParseCommandSpec.pre enc Tryd.prog Tryd.f8 Rows.fnExactParseCommandRow.domain false w args ∧ laidMetH Tryd.prog Rows.fnExactParseCommandRow.laid w) ∧ sizedMet enc Tryd.prog Tryd.f8 (OpenSpec.ofChange Rows.fnExactParseCommandSpec) false w args) (Rows.fnExactParseCommandSpec.post enc Tryd.prog Tryd.f8 false true false false) := by
 refine returnsInHanded_of_change_and (C := Tryd.checked) (X := fun w _ => laidMetH Tryd.prog Rows.fnExactParseCommandRow.laid w) (fun _ _ _ hh h => h.of_heap hh) own started (by kernel_rfl) Tryd.func8
  (ChangeSpec.witness_shaped (enc := enc) (C := Tryd.checked) (os := os) (X := fun w _ => laidMetH Tryd.prog Rows.fnExactParseCommandRow.laid w) false (World.laidAll Tryd.prog os Rows.fnExactParseCommandRow.laid) #[.slice none 0 0] 8 (World.laidAll_os _ _ _)
   (World.shaped_of_ZipB (by kernel_rfl) (by kernel_rfl)) (by kernel_rfl) (by kernel_rfl) (by kernel_rfl)
   (by rw [MakeChecks.laidMetH_plain _ _ _ (by kernel_rfl)]; exact laidMet_laidAll _ (by kernel_rfl) (by kernel_rfl))) ?_
 intro W base args ds gs before hval0 hW hcnd hsz0 hL _
 have hsz : (DataW.weightsEach Tryd.prog (Tryd.f8.params.toList ++ Rows.fnExactParseCommandSpec.plain.varTypes Tryd.prog) (ds ++ gs)).all (· ≤ reachBytes) = true := hsz0
 have hval : ∀ (j : Nat) t v, Tryd.f8.params[j]? = some t → args[j]? = some v → Value.okWide Tryd.prog W .any base t v := hval0
 have hW' := hW
 obtain ⟨p, q, hA0, hV, rfl, hfz, hnd⟩ := hW
 have hA : DataW.TrodAll enc Tryd.prog W 0 (fun _ => true) true Tryd.f8.params.toList args.toList ds p := hA0
 rw [Tryd.params8] at hA hval hsz
 obtain ⟨v0, vs0, d0, ds0, p0, q0, hargs, rfl, rfl, h0, r0⟩ := trodAll_cons hA
 obtain ⟨rfl, rfl, rfl⟩ := trodAll_nil r0
 obtain rfl : args = #[v0] := by cases args; simp_all
 obtain ⟨rfl, rfl⟩ := trodVars_none hV
 have k0 := h0
 have lt0 : ∀ x ∈ p0, x.block < W.heap.size := by obtain ⟨m, hm⟩ := k0; exact DataW.trod_lt m _ _ _ hm
 obtain ⟨A0, c0, l0, rfl, hd0, hc0, g0, w0⟩ := bytes_open hsz (j := 0) rfl rfl (hval 0 22 v0 rfl rfl) h0
 clear hA0 hval0 hsz0 hsz
 refine (FnExactParseCommand_walk A0 c0 l0 W hd0 hc0 g0 (byte_range w0)).mono fun e W' ⟨he, bel⟩ => ?_
 subst he
 exact ⟨_, rfl, _, _, _, [], _, [], hW', trodAll_mk1 (shut_bool Tryd.underlying4 _), (trodAll_cons_mk (Below.trod laidOut (by kernel_rfl) (of_decide_eq_true (by kernel_rfl)) k0 bel lt0) trodAll_mk0), rfl, bel.frame _, fun h => by cases h⟩
theorem over : Rows.fnExactParseCommandRow.holds Tryd.pinned (OpenSpec.ofChange Rows.fnExactParseCommandSpec) :=
 OpenClaim.holds_of_wide 8 Tryd.f8 rfl rfl rfl rfl rfl rfl rfl ⟨rfl, rfl, rfl, rfl, rfl⟩ rfl rfl rfl rfl rfl (by kernel_rfl) Tryd.func8 (by kernel_rfl)
  (of_decide_eq_true (by kernel_rfl)) (by unfold Func.isWrapper; first | (rw [if_pos (by decide +kernel)]; kernel_rfl) | (rw [if_neg (by decide +kernel)]; exact ⟨rfl, rfl⟩))
  (fun os started H enc _ => lifted os started H enc)
theorem card : Rows.FnExactParseCommandCardSaid :=
 Claim7.holds_tied_plain_at .later [] [.data, .data, .data, .data, .sentinel, .sentinel, .pinned] true (true, "315b13090ccdb0a690506cc700d9df368a48c098d999642fff85f69f6bfec662") true over (fun _ h => by cases h) (by kernel_rfl) (fun _ h => by cases h) fnExactParseCommand_row_tie rfl ⟨rfl, rfl⟩ (by kernel_rfl) rfl
  (fun f fn hf hfn => by
   obtain rfl : f = 8 := Option.some.inj ((show Tryd.prog.funcNamed "loop.example/s02132/laws.FnExactParseCommand" = some 8 by kernel_rfl).symm.trans hf) |>.symm
   obtain rfl : fn = Tryd.f8 := (Option.some.inj (Tryd.func8.symm.trans hfn)).symm
   exact ⟨by kernel_rfl, fun j t ht => by
    rw [Tryd.params8] at ht
    have hm : t ∈ [22] := by simpa using Array.mem_of_getElem? ht
    have hall : ([22].all fun u => !Tryd.prog.wantsStandIn u) = true := by kernel_rfl
    exact (show Tryd.prog.wantsStandIn t = false by simpa using List.all_eq_true.1 hall t hm)⟩)
  (by kernel_rfl)
end Go.Proofs.YtbgbocdohadhoaaDoor.fnExactParseCommand
namespace Go.Proofs.YtbgbocdohadhoaaDoor
theorem fnExactParseCommand_holds : Rows.FnExactParseCommandCardSaid := fnExactParseCommand.card
end Go.Proofs.YtbgbocdohadhoaaDoor
