/- Texts of this session, joined by its own program. -/
import Derived.Test.YtbapokpkgonjkaaCFD6
import Derived.Deep.RegionLaw
import Derived.Test.YtbapokpkgonjkaaCFD0
import Derived.WalkKit
import Derived.Below
/- The law FnDisk: the walk, at a disk whose file is 2. -/
namespace Go.Proofs.Ytbapokpkgonjkaa.Print
open Go.RowKit Go.Proofs.YtbapokpkgonjkaaW.PrintWords Go.Proofs.YtbapokpkgonjkaaW.PrintLast Go.Proofs.YtbapokpkgonjkaaW.PrintMore
set_option linter.unusedVariables false
set_option linter.unusedSimpArgs false
set_option maxHeartbeats 4000000 in
set_option maxRecDepth 100000 in
theorem FnDisk_walk2 (A : Option Addr) (c : Nat) (code : List Int) (Am : Option Addr) (cm : Nat) (more : List Int) (w : World) (h0 : Kd.C (Kd.int .u8) w A code.length code) (hc : code.length ≤ c) (h1 : Kd.C (Kd.int .u8) w Am more.length more) (hcm : more.length ≤ cm) (hbm : Bytes more) (gc : code.length ≤ 1048576) (gm : more.length ≤ 1048576) (l0 : List Int) (a1 : Int) (l2 : List Int) (a3 : Int) (l4 : List Int) (a5 : Int) (b : List Int) (hD : spec_DrawDiskAppend.f 400000 code = some (l0, a1, l2, a3, l4, a5, 2, b)) (hv : okDisk l0 a1 l2 a3 l4 a5 = true) (gb : b.length ≤ 20) :
    Calls Try.prog 13 #[.slice A code.length c, .slice Am more.length cm] w fun e w' => e = .returned (.bool true) ∧ Below w.heap.size w w' := by
  have R0 := Aside0.mk h0
  have RM := Aside0.mk h1
  have HC := Aside0.mk hc
  have HCM := Aside0.mk hcm
  have DRAW := Aside0.mk hD
  have HV := Aside0.mk hv
  obtain ⟨⟨x0, -, -⟩, ⟨x2, -, -⟩, ⟨x4, -, -⟩⟩ := okDisk_iff hv
  obtain ⟨t, ht, hf⟩ := take_f more hbm
  have TF := Aside0.mk hf
  have HB := Aside0.mk (Below.refl w.heap.size w)
  obtain ⟨m2, m3, m4, v2, v3, v4, hm4⟩ : ∃ m2 m3 m4 : Int, wrap64 (2 * (b.length : Int)) = m2 ∧ wrap64 ((l4.length : Int) + m2) = m3 ∧ wrap64 (m3 + 1) = m4 ∧ m4 = (l4.length : Int) + 2 * (b.length : Int) + 1 := ⟨2 * (b.length : Int), (l4.length : Int) + 2 * (b.length : Int), (l4.length : Int) + 2 * (b.length : Int) + 1, wrap_ok _ (by omega) (by omega), wrap_ok _ (by omega) (by omega), wrap_ok _ (by omega) (by omega), rfl⟩
  have WR := Aside0.mk (And.intro v2 (And.intro v3 v4))
  have lc : decide (1048576 < (code.length : Int)) = false := decide_eq_false (by omega)
  have lm : decide (1048576 < (more.length : Int)) = false := decide_eq_false (by omega)
  clear h0 h1 hD hv hf hc hcm v2 v3 v4 gc gm
  by_cases hroom : l4.length + 2 * b.length + 1 ≤ 200000
  case neg =>
    have hr : decide (200000 < m4) = true := decide_eq_true (by omega)
    clear hroom x0 x2 x4 gb ht hm4
    go_enter Try.func13, Try.ntmps13
    go_wp2_with fail
    refine (spec_DrawDiskAppend.calls 400000 A c code l0 a1 l2 a3 l4 a5 2 b _ (Kd.C_below R0.out HB.out) HC.out DRAW.out).mono ?_
    rintro e w1 ⟨v0, v2, v4, v7, rfl, o0, o2, o4, o7, hb⟩
    obtain ⟨D0, Dc0, D2, Dc2, D4, Dc4, Bb, Bbc, rfl, rfl, rfl, rfl, hd, hdb⟩ := DK.ofDraw o0 o2 o4 o7 HB.out
    clear o0 o2 o4 o7
    replace HB := Aside0.mk (below_step HB.out hb)
    have s1 := hb.size
    clear hb
    (try simp only [World.size_alloc] at hd)
    have DD := Aside0.mk hd
    clear hd
    (try simp only [World.size_alloc] at hdb)
    have BB := Aside0.mk hdb
    clear hdb
    go_wp2_with fail
    have hba := below_alloc (Below.refl w1.heap.size w1) (.cells #[(.slice D0 l0.length Dc0), .int .i64 a1, (.slice D2 l2.length Dc2), .int .i64 a3, (.slice D4 l4.length Dc4), .int .i64 a5] 31)
    have NB := Aside0.mk (blk_new w1 (.cells #[(.slice D0 l0.length Dc0), .int .i64 a1, (.slice D2 l2.length Dc2), .int .i64 a3, (.slice D4 l4.length Dc4), .int .i64 a5] 31))
    refine (spec_ValidDisk.calls D0 Dc0 l0 a1 D2 Dc2 l2 a3 D4 Dc4 l4 a5 (okDisk l0 a1 l2 a3 l4 a5) _ (DD.out.below hba).k0.reads.1 (DD.out.below hba).k0.reads.2 (DD.out.below hba).k2.reads.1 (DD.out.below hba).k2.reads.2 (DD.out.below hba).k4.reads.1 (DD.out.below hba).k4.reads.2 (spec_ValidDisk_eq l0 l2 l4 a1 a3 a5)).mono ?_
    rintro e w2 ⟨rfl, hb⟩
    replace DD := Aside0.mk ((DD.out.below hba).below hb)
    replace BB := Aside0.mk ((BB.out.below hba).below hb)
    replace HB := Aside0.mk (below_step (below_step HB.out hba) hb)
    have D := Aside0.mk (blk_below NB.out hb)
    clear NB
    have s2 := hb.size
    simp only [World.size_alloc] at s2
    clear hb hba
    have hv := HV.out
    rw [hv]
    clear hv
    obtain ⟨v2, v3, v4⟩ := WR.out
    have z1_l := blk_lt D.out
    have z1_0 := blk_cell D.out 0
    have z1_1 := blk_cell D.out 1
    have z1_2 := blk_cell D.out 2
    have z1_3 := blk_cell D.out 3
    have z1_4 := blk_cell D.out 4
    have z1_5 := blk_cell D.out 5
    simp only [List.getElem?_toArray, List.getElem?_cons_zero, List.getElem?_cons_succ] at z1_0 z1_1 z1_2 z1_3 z1_4 z1_5
    go_wp2_with fail
    go_ret
    exact ⟨rfl, HB.out⟩
  have hr : decide (200000 < m4) = false := decide_eq_false (by omega)
  obtain ⟨p0, p2, p4, t1, t3, t5, q0, q2, q4, y0, y2, y4, ya, yc, ye, z0, z2, z4, za, zc, ze, bb, kk, f1, f2, f3, f4, f5, f6, ez, ey, hbb, hkk, hkl, ⟨n0, n2, n4⟩, nz⟩ := FnDisk_plain_2 l0 l2 l4 b a1 a3 a5 t ht HV.out hroom
  have F1 := Aside0.mk f1
  have F2 := Aside0.mk f2
  have F3 := Aside0.mk f3
  have F4 := Aside0.mk f4
  have F5 := Aside0.mk f5
  have F6 := Aside0.mk f6
  have EZ := Aside0.mk ez
  have EY := Aside0.mk ey
  have KK := Aside0.mk hkk
  have HBB := Aside0.mk hbb
  have NN := Aside0.mk (And.intro hkl (And.intro n0 (And.intro n2 (And.intro n4 (And.intro nz (And.intro x0 (And.intro x2 (And.intro x4 (And.intro gb hroom)))))))))
  have HW4 := Aside0.mk (show wrap64 ((b.length : Int) + 3) = (b.length : Int) + 3 ∧ ((b.length : Int) + 3 == 0) = false ∧ ¬ ((b.length : Int) + 3 = 0) from ⟨wrap_ok _ (by omega) (by omega), by simp; omega, by omega⟩)
  clear f1 f2 f3 f4 f5 f6 ez ey hkk hbb hkl n0 n2 n4 nz x0 x2 x4 gb hroom ht hm4
  go_enter Try.func13, Try.ntmps13
  go_wp2_with fail
  refine (spec_DrawDiskAppend.calls 400000 A c code l0 a1 l2 a3 l4 a5 2 b _ (Kd.C_below R0.out HB.out) HC.out DRAW.out).mono ?_
  rintro e w1 ⟨v0, v2, v4, v7, rfl, o0, o2, o4, o7, hb⟩
  obtain ⟨D0, Dc0, D2, Dc2, D4, Dc4, Bb, Bbc, rfl, rfl, rfl, rfl, hd, hdb⟩ := DK.ofDraw o0 o2 o4 o7 HB.out
  clear o0 o2 o4 o7
  replace HB := Aside0.mk (below_step HB.out hb)
  have s1 := hb.size
  clear hb
  (try simp only [World.size_alloc] at hd)
  have DD := Aside0.mk hd
  clear hd
  (try simp only [World.size_alloc] at hdb)
  have BB := Aside0.mk hdb
  clear hdb
  go_wp2_with fail
  have hba := below_alloc (Below.refl w1.heap.size w1) (.cells #[(.slice D0 l0.length Dc0), .int .i64 a1, (.slice D2 l2.length Dc2), .int .i64 a3, (.slice D4 l4.length Dc4), .int .i64 a5] 31)
  have NB := Aside0.mk (blk_new w1 (.cells #[(.slice D0 l0.length Dc0), .int .i64 a1, (.slice D2 l2.length Dc2), .int .i64 a3, (.slice D4 l4.length Dc4), .int .i64 a5] 31))
  refine (spec_ValidDisk.calls D0 Dc0 l0 a1 D2 Dc2 l2 a3 D4 Dc4 l4 a5 (okDisk l0 a1 l2 a3 l4 a5) _ (DD.out.below hba).k0.reads.1 (DD.out.below hba).k0.reads.2 (DD.out.below hba).k2.reads.1 (DD.out.below hba).k2.reads.2 (DD.out.below hba).k4.reads.1 (DD.out.below hba).k4.reads.2 (spec_ValidDisk_eq l0 l2 l4 a1 a3 a5)).mono ?_
  rintro e w2 ⟨rfl, hb⟩
  replace DD := Aside0.mk ((DD.out.below hba).below hb)
  replace BB := Aside0.mk ((BB.out.below hba).below hb)
  replace HB := Aside0.mk (below_step (below_step HB.out hba) hb)
  have D := Aside0.mk (blk_below NB.out hb)
  clear NB
  have s2 := hb.size
  simp only [World.size_alloc] at s2
  clear hb hba
  have hv := HV.out
  rw [hv]
  clear hv
  --@b
  obtain ⟨v2, v3, v4⟩ := WR.out
  have z2_l := blk_lt D.out
  have z2_0 := blk_cell D.out 0
  have z2_1 := blk_cell D.out 1
  have z2_2 := blk_cell D.out 2
  have z2_3 := blk_cell D.out 3
  have z2_4 := blk_cell D.out 4
  have z2_5 := blk_cell D.out 5
  simp only [List.getElem?_toArray, List.getElem?_cons_zero, List.getElem?_cons_succ] at z2_0 z2_1 z2_2 z2_3 z2_4 z2_5
  go_wp2_with fail
  clear v2 v3 v4 hr WR
  clear z2_l z2_0 z2_1 z2_2 z2_3 z2_4 z2_5
  refine (spec_DrawDiskAppend.calls 400000 A c code l0 a1 l2 a3 l4 a5 2 b _ (Kd.C_below R0.out HB.out) HC.out DRAW.out).mono ?_
  rintro e w3 ⟨v0, v2, v4, v7, rfl, o0, o2, o4, o7, hb⟩
  obtain ⟨X0, Xc0, X2, Xc2, X4, Xc4, Xb, Xbc, rfl, rfl, rfl, rfl, hd, hdb⟩ := DK.ofDraw o0 o2 o4 o7 HB.out
  clear o0 o2 o4 o7
  replace D := Aside0.mk (blk_below D.out hb)
  replace DD := Aside0.mk (DD.out.below hb)
  replace BB := Aside0.mk (BB.out.below hb)
  replace HB := Aside0.mk (below_step HB.out hb)
  have s3 := hb.size
  clear hb
  --@c
  (try simp only [World.size_alloc] at hd)
  have DX := Aside0.mk hd
  clear hd
  clear hdb
  go_wp2_with fail
  have hba := below_alloc (Below.refl w3.heap.size w3) (.cells #[(.slice X0 l0.length Xc0), .int .i64 a1, (.slice X2 l2.length Xc2), .int .i64 a3, (.slice X4 l4.length Xc4), .int .i64 a5] 31)
  have NB := Aside0.mk (blk_new w3 (.cells #[(.slice X0 l0.length Xc0), .int .i64 a1, (.slice X2 l2.length Xc2), .int .i64 a3, (.slice X4 l4.length Xc4), .int .i64 a5] 31))
  refine (impl_DiskAppend.calls X0 Xc0 l0 a1 X2 Xc2 l2 a3 X4 Xc4 l4 a5 2 Bb Bbc b p0 a1 p2 a3 p4 a5 0 _ (DX.out.below hba).k0.reads.1 (DX.out.below hba).k0.reads.2 (DX.out.below hba).k2.reads.1 (DX.out.below hba).k2.reads.2 (DX.out.below hba).k4.reads.1 (DX.out.below hba).k4.reads.2 (BB.out.below hba).reads.1 (BB.out.below hba).reads.2 F1.out).mono ?_
  rintro e w4 ⟨v0, v2, v4, rfl, o0, o2, o4, hb⟩
  obtain ⟨G0, Gc0, G2, Gc2, G4, Gc4, rfl, rfl, rfl, hd⟩ := DK.of o0 o2 o4 (below_step HB.out hba)
  clear o0 o2 o4
  replace D := Aside0.mk (blk_below (blk_below D.out hba) hb)
  replace DD := Aside0.mk ((DD.out.below hba).below hb)
  replace BB := Aside0.mk ((BB.out.below hba).below hb)
  replace DX := Aside0.mk ((DX.out.below hba).below hb)
  replace HB := Aside0.mk (below_step (below_step HB.out hba) hb)
  have X := Aside0.mk (blk_below NB.out hb)
  clear NB
  have s4 := hb.size
  simp only [World.size_alloc] at s4
  clear hb hba
  (try simp only [World.size_alloc] at hd)
  have DG := Aside0.mk hd
  clear hd
  clear DX
  --@d
  have z3_l := blk_lt X.out
  have z3_0 := blk_cell X.out 0
  have z3_1 := blk_cell X.out 1
  have z3_2 := blk_cell X.out 2
  have z3_3 := blk_cell X.out 3
  have z3_4 := blk_cell X.out 4
  have z3_5 := blk_cell X.out 5
  simp only [List.getElem?_toArray, List.getElem?_cons_zero, List.getElem?_cons_succ] at z3_0 z3_1 z3_2 z3_3 z3_4 z3_5
  have zf0 := blk_frozen X.out 0
  have zf1 := blk_frozen X.out 1
  have zf2 := blk_frozen X.out 2
  have zf3 := blk_frozen X.out 3
  have zf4 := blk_frozen X.out 4
  have zf5 := blk_frozen X.out 5
  go_upto_region 15 with fail
  clear zf0 zf1 zf2 zf3 zf4 zf5
  clear z3_l z3_0 z3_1 z3_2 z3_3 z3_4 z3_5
  have hkc := put6_kept w4 (w3.heap.size) ((.slice G0 p0.length Gc0)) (.int .i64 a1) ((.slice G2 p2.length Gc2)) (.int .i64 a3) ((.slice G4 p4.length Gc4)) (.int .i64 a5)
  have hNB := put6_blk (a' := (.slice G0 p0.length Gc0)) (b' := .int .i64 a1) (c' := (.slice G2 p2.length Gc2)) (d' := .int .i64 a3) (e' := (.slice G4 p4.length Gc4)) (f' := .int .i64 a5) X.out
  have hbc := put6_below (a := (.slice G0 p0.length Gc0)) (b := .int .i64 a1) (c := (.slice G2 p2.length Gc2)) (d := .int .i64 a3) (e := (.slice G4 p4.length Gc4)) (f := .int .i64 a5) HB.out (g := w3.heap.size) (by omega)
  have hsz := put6_size w4 (w3.heap.size) ((.slice G0 p0.length Gc0)) (.int .i64 a1) ((.slice G2 p2.length Gc2)) (.int .i64 a3) ((.slice G4 p4.length Gc4)) (.int .i64 a5)
  unfold put6 at hkc hNB hbc hsz
  generalize ((((((w4).setCell ⟨w3.heap.size, 0, none⟩ ((.slice G0 p0.length Gc0))).setCell ⟨w3.heap.size, 1, none⟩ (.int .i64 a1)).setCell ⟨w3.heap.size, 2, none⟩ ((.slice G2 p2.length Gc2))).setCell ⟨w3.heap.size, 3, none⟩ (.int .i64 a3)).setCell ⟨w3.heap.size, 4, none⟩ ((.slice G4 p4.length Gc4))).setCell ⟨w3.heap.size, 5, none⟩ (.int .i64 a5) = u1 at hkc hNB hbc hsz ⊢
  replace D := Aside0.mk (blk_kept D.out hkc (by intro h; omega))
  replace DD := Aside0.mk (DD.out.kept hkc (by intro k h1 h2 h3; omega))
  replace BB := Aside0.mk (BB.out.kept hkc (by intro k h1 h2 h3; omega))
  replace DG := Aside0.mk (DG.out.kept hkc (by intro k h1 h2 h3; omega))
  replace X := Aside0.mk hNB
  replace HB := Aside0.mk hbc
  clear hkc hNB hbc
  --@e
  have z4_l := blk_lt X.out
  have z4_0 := blk_cell X.out 0
  have z4_1 := blk_cell X.out 1
  have z4_2 := blk_cell X.out 2
  have z4_3 := blk_cell X.out 3
  have z4_4 := blk_cell X.out 4
  have z4_5 := blk_cell X.out 5
  simp only [List.getElem?_toArray, List.getElem?_cons_zero, List.getElem?_cons_succ] at z4_0 z4_1 z4_2 z4_3 z4_4 z4_5
  go_wp2_with fail
  refine (impl_DiskSync.calls G0 Gc0 p0 a1 G2 Gc2 p2 a3 G4 Gc4 p4 a5 2 p0 t1 p2 t3 p4 t5 0 _ (DG.out).k0.reads.1 (DG.out).k0.reads.2 (DG.out).k2.reads.1 (DG.out).k2.reads.2 (DG.out).k4.reads.1 (DG.out).k4.reads.2 F2.out).mono ?_
  rintro e w5 ⟨v0, v2, v4, rfl, o0, o2, o4, hb⟩
  obtain ⟨H0, Hc0, H2, Hc2, H4, Hc4, rfl, rfl, rfl, hd⟩ := DK.of o0 o2 o4 HB.out
  clear o0 o2 o4
  replace D := Aside0.mk (blk_below D.out hb)
  replace X := Aside0.mk (blk_below X.out hb)
  replace DD := Aside0.mk (DD.out.below hb)
  replace BB := Aside0.mk (BB.out.below hb)
  replace DG := Aside0.mk (DG.out.below hb)
  replace HB := Aside0.mk (below_step HB.out hb)
  have s5 := hb.size
  clear hb
  clear z4_l z4_0 z4_1 z4_2 z4_3 z4_4 z4_5
  (try simp only [World.size_alloc] at hd)
  have DH := Aside0.mk hd
  clear hd
  clear DG
  --@f
  have z5_l := blk_lt X.out
  have z5_0 := blk_cell X.out 0
  have z5_1 := blk_cell X.out 1
  have z5_2 := blk_cell X.out 2
  have z5_3 := blk_cell X.out 3
  have z5_4 := blk_cell X.out 4
  have z5_5 := blk_cell X.out 5
  simp only [List.getElem?_toArray, List.getElem?_cons_zero, List.getElem?_cons_succ] at z5_0 z5_1 z5_2 z5_3 z5_4 z5_5
  have zf0 := blk_frozen X.out 0
  have zf1 := blk_frozen X.out 1
  have zf2 := blk_frozen X.out 2
  have zf3 := blk_frozen X.out 3
  have zf4 := blk_frozen X.out 4
  have zf5 := blk_frozen X.out 5
  go_upto_region 16 with fail
  clear zf0 zf1 zf2 zf3 zf4 zf5
  clear z5_l z5_0 z5_1 z5_2 z5_3 z5_4 z5_5
  have hkc := put6_kept w5 (w3.heap.size) ((.slice H0 p0.length Hc0)) (.int .i64 t1) ((.slice H2 p2.length Hc2)) (.int .i64 t3) ((.slice H4 p4.length Hc4)) (.int .i64 t5)
  have hNB := put6_blk (a' := (.slice H0 p0.length Hc0)) (b' := .int .i64 t1) (c' := (.slice H2 p2.length Hc2)) (d' := .int .i64 t3) (e' := (.slice H4 p4.length Hc4)) (f' := .int .i64 t5) X.out
  have hbc := put6_below (a := (.slice H0 p0.length Hc0)) (b := .int .i64 t1) (c := (.slice H2 p2.length Hc2)) (d := .int .i64 t3) (e := (.slice H4 p4.length Hc4)) (f := .int .i64 t5) HB.out (g := w3.heap.size) (by omega)
  have hsz := put6_size w5 (w3.heap.size) ((.slice H0 p0.length Hc0)) (.int .i64 t1) ((.slice H2 p2.length Hc2)) (.int .i64 t3) ((.slice H4 p4.length Hc4)) (.int .i64 t5)
  unfold put6 at hkc hNB hbc hsz
  generalize ((((((w5).setCell ⟨w3.heap.size, 0, none⟩ ((.slice H0 p0.length Hc0))).setCell ⟨w3.heap.size, 1, none⟩ (.int .i64 t1)).setCell ⟨w3.heap.size, 2, none⟩ ((.slice H2 p2.length Hc2))).setCell ⟨w3.heap.size, 3, none⟩ (.int .i64 t3)).setCell ⟨w3.heap.size, 4, none⟩ ((.slice H4 p4.length Hc4))).setCell ⟨w3.heap.size, 5, none⟩ (.int .i64 t5) = u2 at hkc hNB hbc hsz ⊢
  replace D := Aside0.mk (blk_kept D.out hkc (by intro h; omega))
  replace DD := Aside0.mk (DD.out.kept hkc (by intro k h1 h2 h3; omega))
  replace BB := Aside0.mk (BB.out.kept hkc (by intro k h1 h2 h3; omega))
  replace DH := Aside0.mk (DH.out.kept hkc (by intro k h1 h2 h3; omega))
  replace X := Aside0.mk hNB
  replace HB := Aside0.mk hbc
  clear hkc hNB hbc
  have z6_l := blk_lt X.out
  have z6_0 := blk_cell X.out 0
  have z6_1 := blk_cell X.out 1
  have z6_2 := blk_cell X.out 2
  have z6_3 := blk_cell X.out 3
  have z6_4 := blk_cell X.out 4
  have z6_5 := blk_cell X.out 5
  simp only [List.getElem?_toArray, List.getElem?_cons_zero, List.getElem?_cons_succ] at z6_0 z6_1 z6_2 z6_3 z6_4 z6_5
  --@g
  go_cut [14] from 89 to 97 (fun v14 wx => v14 = .int .i64 0 ∧ ∃ Q0 Qc0 Q2 Qc2 Q4 Qc4, wx.heap[w3.heap.size]? = some (.cells #[(.slice Q0 q0.length Qc0), .int .i64 t1, (.slice Q2 q2.length Qc2), .int .i64 t3, (.slice Q4 q4.length Qc4), .int .i64 t5] 31 (0, 0)) ∧ (∃ lo hi, u2.heap.size ≤ lo ∧ hi ≤ wx.heap.size ∧ DK w wx lo hi Q0 Qc0 q0 Q2 Qc2 q2 Q4 Qc4 q4) ∧ Below w.heap.size w wx ∧ Kept u2 wx (fun k => k = w3.heap.size))
  case first =>
    have zf0 := blk_frozen X.out 0
    have zf1 := blk_frozen X.out 1
    have zf2 := blk_frozen X.out 2
    have zf3 := blk_frozen X.out 3
    have zf4 := blk_frozen X.out 4
    have zf5 := blk_frozen X.out 5
    have hszw := HB.out.size
    have hXl := blk_lt X.out
    have ya_0 := blk_cell (blk_alloc X.out (.cells #[.int .u8 9] 5)) 0
    have ya_1 := blk_cell (blk_alloc X.out (.cells #[.int .u8 9] 5)) 1
    have ya_2 := blk_cell (blk_alloc X.out (.cells #[.int .u8 9] 5)) 2
    have ya_3 := blk_cell (blk_alloc X.out (.cells #[.int .u8 9] 5)) 3
    have ya_4 := blk_cell (blk_alloc X.out (.cells #[.int .u8 9] 5)) 4
    have ya_5 := blk_cell (blk_alloc X.out (.cells #[.int .u8 9] 5)) 5
    simp only [List.getElem?_toArray, List.getElem?_cons_zero, List.getElem?_cons_succ] at ya_0 ya_1 ya_2 ya_3 ya_4 ya_5
    go_region_law (first | (refine bk_append_step (w0 := w) (lo := u2.heap.size) (hi := u2.heap.size + 1) (by rfl) (.tmp 92) (.tmp 93) 22 rfl Try.underlying22 info5 (some ⟨u2.heap.size, 0, none⟩) 1 [9] (by simp [Act.eval, Act.put]) Bb Bbc b (by simp [Act.eval, Act.put]) ?aB ?aD (by omega) (by simp) (by simp) ?aR (by have := NN.out; simp only [List.length_cons, List.length_nil]; omega) ?_; (case aB => repeat (first | exact HB.out | apply below_drew1 | apply below_alloc)); (case aD => repeat (first | exact bk_lit1 9 hszw | exact BK.below (bk_lit1 9 hszw) (below_drew1 (Below.refl _ _)))); (case aR => repeat (first | exact BB.out.reads.1 | refine Kd.C_drew ?_ | refine Kd.C_alloc ?_ _)); intro A1 c1 w7 l1 hl1 hd7 hb7 hk7; have HD7 := Aside0.mk hd7; have HB7 := Aside0.mk hb7; have HL1 := Aside0.mk hl1; have HK7 := Aside0.mk (show Kept u2 w7 (fun k => u2.heap.size ≤ k) from (Kept.of_below (by repeat (first | exact Below.refl _ _ | apply below_drew1 | apply below_alloc)) _).then_ hk7 (fun k hk => .inl hk.1)); have hs7 := HK7.out.1; have X7 := Aside0.mk (blk_kept X.out HK7.out (by omega)); have y1_0 := blk_cell X7.out 0; have y1_1 := blk_cell X7.out 1; have y1_2 := blk_cell X7.out 2; have y1_3 := blk_cell X7.out 3; have y1_4 := blk_cell X7.out 4; have y1_5 := blk_cell X7.out 5; simp only [List.getElem?_toArray, List.getElem?_cons_zero, List.getElem?_cons_succ] at y1_0 y1_1 y1_2 y1_3 y1_4 y1_5; clear hd7 hb7 hk7 hl1) | (go_simp; go_at_call 50; refine (impl_DiskAppend.calls H0 Hc0 p0 t1 H2 Hc2 p2 t3 H4 Hc4 p4 t5 2 A1 c1 l1 q0 t1 q2 t3 q4 t5 0 _ ?s1 ?s2 ?s3 ?s4 ?s5 ?s6 ?s7 ?s8 ?s9).mono ?_; (case s1 => exact (DH.out.kept HK7.out (by intro k h1 h2 h3; omega)).k0.reads.1); (case s2 => exact DH.out.k0.reads.2); (case s3 => exact (DH.out.kept HK7.out (by intro k h1 h2 h3; omega)).k2.reads.1); (case s4 => exact DH.out.k2.reads.2); (case s5 => exact (DH.out.kept HK7.out (by intro k h1 h2 h3; omega)).k4.reads.1); (case s6 => exact DH.out.k4.reads.2); (case s7 => exact HD7.out.reads.1); (case s8 => exact HD7.out.reads.2); (case s9 => rw [HL1.out]; exact F3.out); rintro e w8 ⟨v0, v2, v4, rfl, o0, o2, o4, hb8⟩; have hb8' : Below w7.heap.size w7 w8 := (by first | exact hb8 | exact (below_drew1 (Below.refl w7.heap.size w7)).trans hb8); obtain ⟨Q0, Qc0, Q2, Qc2, Q4, Qc4, rfl, rfl, rfl, hd8⟩ := DK.of o0 o2 o4 (by repeat (first | exact HB7.out | apply below_drew1)); have HD8 := Aside0.mk hd8; have HB8 := Aside0.mk (below_step HB7.out hb8'); have X8 := Aside0.mk (blk_below X7.out hb8'); have HK8 := Aside0.mk (HK7.out.below hb8'); have hs8 := hb8'.size; have yf0 := blk_frozen X8.out 0; have yf1 := blk_frozen X8.out 1; have yf2 := blk_frozen X8.out 2; have yf3 := blk_frozen X8.out 3; have yf4 := blk_frozen X8.out 4; have yf5 := blk_frozen X8.out 5; have y2_0 := blk_cell X8.out 0; have y2_1 := blk_cell X8.out 1; have y2_2 := blk_cell X8.out 2; have y2_3 := blk_cell X8.out 3; have y2_4 := blk_cell X8.out 4; have y2_5 := blk_cell X8.out 5; simp only [List.getElem?_toArray, List.getElem?_cons_zero, List.getElem?_cons_succ] at y2_0 y2_1 y2_2 y2_3 y2_4 y2_5; clear hb8 hb8' o0 o2 o4 hd8 y1_0 y1_1 y1_2 y1_3 y1_4 y1_5))
    all_goals
      go_wp2_with fail
      go_meet
      refine ⟨rfl, Q0, Qc0, Q2, Qc2, Q4, Qc4, put6_blk X8.out, ⟨_, w8.heap.size, ?_, Nat.le_of_eq (put6_size w8 (w3.heap.size) ((.slice Q0 q0.length Qc0)) (.int .i64 t1) ((.slice Q2 q2.length Qc2)) (.int .i64 t3) ((.slice Q4 q4.length Qc4)) (.int .i64 t5)).symm, HD8.out.kept (put6_kept w8 (w3.heap.size) ((.slice Q0 q0.length Qc0)) (.int .i64 t1) ((.slice Q2 q2.length Qc2)) (.int .i64 t3) ((.slice Q4 q4.length Qc4)) (.int .i64 t5)) (by intro k h1 h2 h3; (try simp only [World.drew_heap] at h1); omega)⟩, put6_below HB8.out (by omega), (Kept.then_ (S := fun k => k = w3.heap.size) ⟨HK8.out.1, fun i hi hn => HK8.out.2 i hi (by show ¬ u2.heap.size ≤ i; omega)⟩ (put6_kept w8 (w3.heap.size) ((.slice Q0 q0.length Qc0)) (.int .i64 t1) ((.slice Q2 q2.length Qc2)) (.int .i64 t3) ((.slice Q4 q4.length Qc4)) (.int .i64 t5)) (fun k hk => .inl hk))⟩
      first | exact hs7 | (simp; omega) | omega
  case rest =>
    obtain ⟨rfl, Q0, Qc0, Q2, Qc2, Q4, Qc4, hX, ⟨lo, hi, hlo, hhi, hd⟩, hb, hk⟩ := hcut
    obtain ⟨w6, rfl⟩ : ∃ x, x = wc := ⟨wc, rfl⟩
    clear DH
    replace D := Aside0.mk (blk_kept D.out hk (by intro h; omega))
    replace DD := Aside0.mk (DD.out.kept hk (by intro k h1 h2 h3; omega))
    replace BB := Aside0.mk (BB.out.kept hk (by intro k h1 h2 h3; omega))
    replace X := Aside0.mk hX
    replace HB := Aside0.mk hb
    have DQ := Aside0.mk hd
    have s6 := hk.1
    clear hX hd hb hk
    clear z6_l z6_0 z6_1 z6_2 z6_3 z6_4 z6_5
    --@h
    go_wp2_with fail
    refine (take_calls Am cm more t _ (Kd.C_below RM.out HB.out) HCM.out TF.out).mono ?_
    rintro e w7 ⟨rfl, hb⟩
    replace D := Aside0.mk (blk_below D.out hb)
    replace X := Aside0.mk (blk_below X.out hb)
    replace DD := Aside0.mk (DD.out.below hb)
    replace BB := Aside0.mk (BB.out.below hb)
    replace DQ := Aside0.mk (DQ.out.below hb)
    replace HB := Aside0.mk (below_step HB.out hb)
    have s7 := hb.size
    clear hb
    obtain ⟨hw4, hz4, hn4⟩ := HW4.out
    have z7_l := blk_lt X.out
    have z7_0 := blk_cell X.out 0
    have z7_1 := blk_cell X.out 1
    have z7_2 := blk_cell X.out 2
    have z7_3 := blk_cell X.out 3
    have z7_4 := blk_cell X.out 4
    have z7_5 := blk_cell X.out 5
    simp only [List.getElem?_toArray, List.getElem?_cons_zero, List.getElem?_cons_succ] at z7_0 z7_1 z7_2 z7_3 z7_4 z7_5
    go_wp2_with fail
    clear hw4 hz4 hn4
    clear z7_l z7_0 z7_1 z7_2 z7_3 z7_4 z7_5
    refine (impl_DiskCrash.calls Q0 Qc0 q0 t1 Q2 Qc2 q2 t3 Q4 Qc4 q4 t5 (Int.tmod t ((b.length : Int) + 3)) y0 ya y2 yc y4 ye 0 _ (DQ.out).k0.reads.1 (DQ.out).k0.reads.2 (DQ.out).k2.reads.1 (DQ.out).k2.reads.2 (DQ.out).k4.reads.1 (DQ.out).k4.reads.2 F4.out).mono ?_
    rintro e w8 ⟨v0, v2, v4, rfl, o0, o2, o4, hb⟩
    obtain ⟨Y0, Yc0, Y2, Yc2, Y4, Yc4, rfl, rfl, rfl, hd⟩ := DK.of o0 o2 o4 HB.out
    clear o0 o2 o4
    replace D := Aside0.mk (blk_below D.out hb)
    replace X := Aside0.mk (blk_below X.out hb)
    replace DD := Aside0.mk (DD.out.below hb)
    replace BB := Aside0.mk (BB.out.below hb)
    replace DQ := Aside0.mk (DQ.out.below hb)
    replace HB := Aside0.mk (below_step HB.out hb)
    have s8 := hb.size
    clear hb
    (try simp only [World.size_alloc] at hd)
    have DY := Aside0.mk hd
    clear hd
    --@i
    go_upto_region 22 with fail
    have hba := below_alloc (Below.refl w8.heap.size w8) (.cells #[(.slice Y0 y0.length Yc0), .int .i64 ya, (.slice Y2 y2.length Yc2), .int .i64 yc, (.slice Y4 y4.length Yc4), .int .i64 ye] 31)
    have hNB := blk_new w8 (.cells #[(.slice Y0 y0.length Yc0), .int .i64 ya, (.slice Y2 y2.length Yc2), .int .i64 yc, (.slice Y4 y4.length Yc4), .int .i64 ye] 31)
    have hsa : (w8.alloc (.cells #[(.slice Y0 y0.length Yc0), .int .i64 ya, (.slice Y2 y2.length Yc2), .int .i64 yc, (.slice Y4 y4.length Yc4), .int .i64 ye] 31)).heap.size = w8.heap.size + 1 := by simp only [World.size_alloc]
    generalize w8.alloc (.cells #[(.slice Y0 y0.length Yc0), .int .i64 ya, (.slice Y2 y2.length Yc2), .int .i64 yc, (.slice Y4 y4.length Yc4), .int .i64 ye] 31) = w9 at hba hNB hsa ⊢
    replace D := Aside0.mk (blk_below D.out hba)
    replace X := Aside0.mk (blk_below X.out hba)
    replace DD := Aside0.mk (DD.out.below hba)
    replace BB := Aside0.mk (BB.out.below hba)
    replace DQ := Aside0.mk (DQ.out.below hba)
    replace DY := Aside0.mk (DY.out.below hba)
    replace HB := Aside0.mk (below_step HB.out hba)
    have Y := Aside0.mk hNB
    clear hba hNB
    --@j
    go_upto_region 23 with (((with_reducible refine gate_builtin (b := .append) (xs := #[.tmp 124, .tmp 125]) rfl ?_); at_builtin; refine bk_append (w0 := w) (lo := w9.heap.size) (hi := w9.heap.size) rfl (.tmp 124) (.tmp 125) 22 rfl Try.underlying22 info5 none 0 [] ?eS D4 Dc4 l4 ?eX ?aB ?aD ?aL ?aM ?aH ?aR ?aE ?_; (case eS => first | (simp [Act.eval, Act.put]; done) | rfl); (case eX => first | (simp [Act.eval, Act.put]; done) | rfl); (case aB => repeat (first | exact HB.out | apply below_alloc)); (case aD => exact BK.nil _ _ _); (case aL => have := HB.out.size; omega); (case aM => first | omega | (simp only [World.size_alloc]; omega)); (case aH => first | omega | (simp only [World.size_alloc]; omega)); (case aR => repeat (first | exact DD.out.k4.reads.1 | refine Kd.C_alloc ?_ _)); (case aE => exact (by have := NN.out; simp only [List.length_nil]; omega)); intro A10 c10 w10 l10 hl0 hd hb hk; have HLx := Aside0.mk hl0; clear hl0))
    have hl := HLx.out
    clear HLx
    replace D := Aside0.mk (blk_kept D.out hk (by have := blk_lt D.out; intro h; omega))
    replace X := Aside0.mk (blk_kept X.out hk (by have := blk_lt X.out; intro h; omega))
    replace Y := Aside0.mk (blk_kept Y.out hk (by have := blk_lt Y.out; intro h; omega))
    replace DD := Aside0.mk (DD.out.kept hk (by intro k h1 h2 h3; omega))
    replace BB := Aside0.mk (BB.out.kept hk (by intro k h1 h2 h3; omega))
    replace DQ := Aside0.mk (DQ.out.kept hk (by intro k h1 h2 h3; omega))
    replace DY := Aside0.mk (DY.out.kept hk (by intro k h1 h2 h3; omega))
    replace HB := Aside0.mk hb
    have s10 := hk.1
    have WN := Aside0.mk hd
    clear hb hk hd
    simp only [List.nil_append] at hl
    have hl2 := hl.symm
    clear hl
    subst hl2
    --@k
    go_upto_region 24 with (((with_reducible refine gate_builtin (b := .append) (xs := #[.tmp 127, .tmp 128]) rfl ?_); at_builtin; refine bk_append (w0 := w) (lo := w9.heap.size) (hi := w10.heap.size) rfl (.tmp 127) (.tmp 128) 22 rfl Try.underlying22 info5 A10 c10 l4 ?eS Bb Bbc b ?eX ?aB ?aD ?aL ?aM ?aH ?aR ?aE ?_; (case eS => first | (simp [Act.eval, Act.put]; done) | rfl); (case eX => first | (simp [Act.eval, Act.put]; done) | rfl); (case aB => repeat (first | exact HB.out | apply below_alloc)); (case aD => exact WN.out); (case aL => have := HB.out.size; omega); (case aM => first | omega | (simp only [World.size_alloc]; omega)); (case aH => first | omega | (simp only [World.size_alloc]; omega)); (case aR => repeat (first | exact BB.out.reads.1 | refine Kd.C_alloc ?_ _)); (case aE => exact (by have := NN.out; omega)); intro A11 c11 w11 l11 hl0 hd hb hk; have HLx := Aside0.mk hl0; clear hl0))
    have hl := HLx.out
    clear HLx
    replace D := Aside0.mk (blk_kept D.out hk (by have := blk_lt D.out; intro h; omega))
    replace X := Aside0.mk (blk_kept X.out hk (by have := blk_lt X.out; intro h; omega))
    replace Y := Aside0.mk (blk_kept Y.out hk (by have := blk_lt Y.out; intro h; omega))
    replace DD := Aside0.mk (DD.out.kept hk (by intro k h1 h2 h3; omega))
    replace BB := Aside0.mk (BB.out.kept hk (by intro k h1 h2 h3; omega))
    replace DQ := Aside0.mk (DQ.out.kept hk (by intro k h1 h2 h3; omega))
    replace DY := Aside0.mk (DY.out.kept hk (by intro k h1 h2 h3; omega))
    replace HB := Aside0.mk hb
    have s11 := hk.1
    replace WN := Aside0.mk hd
    clear hb hk hd
    have hl2 : z4 = l11 := (hl.trans EZ.out.symm).symm
    clear hl
    subst hl2
    --@l
    have z8_l := blk_lt X.out
    have z8_0 := blk_cell X.out 0
    have z8_1 := blk_cell X.out 1
    have z8_2 := blk_cell X.out 2
    have z8_3 := blk_cell X.out 3
    have z8_4 := blk_cell X.out 4
    have z8_5 := blk_cell X.out 5
    simp only [List.getElem?_toArray, List.getElem?_cons_zero, List.getElem?_cons_succ] at z8_0 z8_1 z8_2 z8_3 z8_4 z8_5
    go_wp2_with fail
    clear z8_l z8_0 z8_1 z8_2 z8_3 z8_4 z8_5
    refine (impl_DiskCrash.calls Q0 Qc0 q0 t1 Q2 Qc2 q2 t3 Q4 Qc4 q4 t5 0 z0 za z2 zc z4 ze 0 _ (DQ.out).k0.reads.1 (DQ.out).k0.reads.2 (DQ.out).k2.reads.1 (DQ.out).k2.reads.2 (DQ.out).k4.reads.1 (DQ.out).k4.reads.2 F5.out).mono ?_
    rintro e w12 ⟨v0, v2, v4, rfl, o0, o2, o4, hb⟩
    obtain ⟨Z0, Zc0, Z2, Zc2, Z4, Zc4, rfl, rfl, rfl, hd⟩ := DK.of o0 o2 o4 HB.out
    clear o0 o2 o4
    replace D := Aside0.mk (blk_below D.out hb)
    replace X := Aside0.mk (blk_below X.out hb)
    replace Y := Aside0.mk (blk_below Y.out hb)
    replace DD := Aside0.mk (DD.out.below hb)
    replace BB := Aside0.mk (BB.out.below hb)
    replace DQ := Aside0.mk (DQ.out.below hb)
    replace DY := Aside0.mk (DY.out.below hb)
    replace WN := Aside0.mk (WN.out.below hb)
    replace HB := Aside0.mk (below_step HB.out hb)
    have s12 := hb.size
    clear hb
    (try simp only [World.size_alloc] at hd)
    have DZ := Aside0.mk hd
    clear hd
    go_wp2_with fail
    have hba := below_alloc (Below.refl w12.heap.size w12) (.cells #[(.slice Z0 z0.length Zc0), .int .i64 za, (.slice Z2 z2.length Zc2), .int .i64 zc, (.slice Z4 z4.length Zc4), .int .i64 ze] 31)
    have NB := Aside0.mk (blk_new w12 (.cells #[(.slice Z0 z0.length Zc0), .int .i64 za, (.slice Z2 z2.length Zc2), .int .i64 zc, (.slice Z4 z4.length Zc4), .int .i64 ze] 31))
    refine (pick_calls2 ((.slice Z0 z0.length Zc0)) ((.slice Z2 z2.length Zc2)) ((.slice Z4 z4.length Zc4)) za zc ze _).mono ?_
    rintro e w13 ⟨rfl, hb⟩
    replace D := Aside0.mk (blk_below (blk_below D.out hba) hb)
    replace X := Aside0.mk (blk_below (blk_below X.out hba) hb)
    replace Y := Aside0.mk (blk_below (blk_below Y.out hba) hb)
    replace DD := Aside0.mk ((DD.out.below hba).below hb)
    replace BB := Aside0.mk ((BB.out.below hba).below hb)
    replace DQ := Aside0.mk ((DQ.out.below hba).below hb)
    replace DY := Aside0.mk ((DY.out.below hba).below hb)
    replace WN := Aside0.mk ((WN.out.below hba).below hb)
    replace DZ := Aside0.mk ((DZ.out.below hba).below hb)
    replace HB := Aside0.mk (below_step (below_step HB.out hba) hb)
    have Z := Aside0.mk (blk_below NB.out hb)
    clear NB
    have s13 := hb.size
    simp only [World.size_alloc] at s13
    clear hb hba
    --@m
    go_wp2_with fail
    refine (sameB_calls Z4 Zc4 A11 c11 z4 _ DZ.out.k4.reads.1 DZ.out.k4.reads.2 WN.out.reads.1 WN.out.reads.2 (by have := NN.out; omega)).mono ?_
    rintro e w14 ⟨rfl, hb⟩
    replace D := Aside0.mk (blk_below D.out hb)
    replace X := Aside0.mk (blk_below X.out hb)
    replace Y := Aside0.mk (blk_below Y.out hb)
    replace Z := Aside0.mk (blk_below Z.out hb)
    replace DD := Aside0.mk (DD.out.below hb)
    replace BB := Aside0.mk (BB.out.below hb)
    replace DQ := Aside0.mk (DQ.out.below hb)
    replace DY := Aside0.mk (DY.out.below hb)
    replace WN := Aside0.mk (WN.out.below hb)
    replace DZ := Aside0.mk (DZ.out.below hb)
    replace HB := Aside0.mk (below_step HB.out hb)
    have s14 := hb.size
    clear hb
    --@n
    go_upto_region 28 with (((with_reducible refine gate_builtin (b := .append) (xs := #[.tmp 145, .tmp 146]) rfl ?_); at_builtin; refine bk_append (w0 := w) (lo := w14.heap.size) (hi := w14.heap.size + 1) rfl (.tmp 145) (.tmp 146) 22 rfl Try.underlying22 info5 (some ⟨w14.heap.size, 0, none⟩) 1 [9] ?eS Bb Bbc b ?eX ?aB ?aD ?aL ?aM ?aH ?aR ?aE ?_; (case eS => first | (simp [Act.eval, Act.put]; done) | rfl); (case eX => first | (simp [Act.eval, Act.put]; done) | rfl); (case aB => repeat (first | exact HB.out | apply below_alloc)); (case aD => exact bk_lit1 9 HB.out.size); (case aL => have := HB.out.size; omega); (case aM => first | omega | (simp only [World.size_alloc]; omega)); (case aH => first | omega | (simp only [World.size_alloc]; omega)); (case aR => repeat (first | exact BB.out.reads.1 | refine Kd.C_alloc ?_ _)); (case aE => exact (by have := NN.out; simp only [List.length_cons, List.length_nil]; omega)); intro A15 c15 w15 l15 hl0 hd hb hk; have HLx := Aside0.mk hl0; clear hl0))
    have hl := HLx.out
    clear HLx
    replace hk := (Kept.of_below (below_alloc (Below.refl w14.heap.size w14) _) (fun k => w14.heap.size ≤ k)).then_ hk (fun k hk => .inl hk.1)
    replace D := Aside0.mk (blk_kept D.out hk (by have := blk_lt D.out; intro h; omega))
    replace X := Aside0.mk (blk_kept X.out hk (by have := blk_lt X.out; intro h; omega))
    replace Y := Aside0.mk (blk_kept Y.out hk (by have := blk_lt Y.out; intro h; omega))
    replace Z := Aside0.mk (blk_kept Z.out hk (by have := blk_lt Z.out; intro h; omega))
    replace DD := Aside0.mk (DD.out.kept hk (by intro k h1 h2 h3; omega))
    replace BB := Aside0.mk (BB.out.kept hk (by intro k h1 h2 h3; omega))
    replace DQ := Aside0.mk (DQ.out.kept hk (by intro k h1 h2 h3; omega))
    replace DY := Aside0.mk (DY.out.kept hk (by intro k h1 h2 h3; omega))
    replace WN := Aside0.mk (WN.out.kept hk (by intro k h1 h2 h3; omega))
    replace DZ := Aside0.mk (DZ.out.kept hk (by intro k h1 h2 h3; omega))
    replace HB := Aside0.mk hb
    have s15 := hk.1
    have TL := Aside0.mk hd
    clear hb hk hd
    
    have HTL := Aside0.mk hl
    have htl : (l15.length : Int) = (b.length : Int) + 1 := by rw [hl]; simp only [List.length_append, List.length_cons, List.length_nil]; omega
    clear hl
    have hbb : decide ((l15.length : Int) < Int.tmod t ((b.length : Int) + 3)) = bb := by rw [htl]; exact HBB.out
    have HT := Aside0.mk htl
    clear htl
    have hkk := KK.out
    clear KK HBB
    rcases hkk with ⟨rfl, hkk⟩ | ⟨rfl, hkk⟩
    all_goals
      have HKK := Aside0.mk hkk
      clear hkk
      go_upto_region 30 with fail
      have hkk := HKK.out
      clear HKK
      first | rw [hkk] | rw [show (l15.length : Int) = (kk : Int) by have := HT.out; omega]
      clear hkk hbb
      obtain ⟨i0, hi0, _, hsz0, _⟩ := info_parts info5
      obtain ⟨hcut, hA, hC⟩ := print_take_of (P := Try.prog) (Value.int .u8) 0 22 5 .i64 Try.underlying22 hi0 hsz0 A15 c15 l15 (kk : Int) (by omega) (by have := HT.out; have := NN.out; omega) TL.out.reads.2
      have RC := Aside0.mk (Kd.C_of_reads (h1 := fun _ => rfl) (hA _ (Kd.reads_of_C TL.out.reads.1)))
      rw [Int.toNat_natCast] at hcut hC RC
      have hcl : (l15.take kk).length ≤ 21 := by have := NN.out; simp only [List.length_take]; omega
      clear hA hi0 hsz0
      generalize hg : l15.take kk = cl at hcut hC RC hcl
      have HG := Aside0.mk hg
      have HCL := Aside0.mk hcl
      clear hg hcl
      --@o
      go_upto_region 31 with (((with_reducible refine gate_builtin (b := .append) (xs := #[.tmp 154, .tmp 157]) rfl ?_); at_builtin; refine bk_append (w0 := w) (lo := w9.heap.size) (hi := w11.heap.size) rfl (.tmp 154) (.tmp 157) 22 rfl Try.underlying22 info5 A11 c11 z4 ?eS A15 c15 cl ?eX ?aB ?aD ?aL ?aM ?aH ?aR ?aE ?_; (case eS => first | (simp [Act.eval, Act.put]; done) | rfl); (case eX => first | (simp [Act.eval, Act.put]; done) | rfl); (case aB => repeat (first | exact HB.out | apply below_alloc)); (case aD => exact WN.out); (case aL => have := HB.out.size; omega); (case aM => first | omega | (simp only [World.size_alloc]; omega)); (case aH => first | omega | (simp only [World.size_alloc]; omega)); (case aR => repeat (first | exact RC.out | refine Kd.C_alloc ?_ _)); (case aE => exact (by have := NN.out; have := HCL.out; omega)); intro A16 c16 w16 l16 hl0 hd hb hk; have HLx := Aside0.mk hl0; clear hl0))
      have hl := HLx.out
      clear HLx
      replace D := Aside0.mk (blk_kept D.out hk (by have := blk_lt D.out; intro h; omega))
      replace X := Aside0.mk (blk_kept X.out hk (by have := blk_lt X.out; intro h; omega))
      replace Y := Aside0.mk (blk_kept Y.out hk (by have := blk_lt Y.out; intro h; omega))
      replace Z := Aside0.mk (blk_kept Z.out hk (by have := blk_lt Z.out; intro h; omega))
      replace DD := Aside0.mk (DD.out.kept hk (by intro k h1 h2 h3; omega))
      replace BB := Aside0.mk (BB.out.kept hk (by intro k h1 h2 h3; omega))
      replace DQ := Aside0.mk (DQ.out.kept hk (by intro k h1 h2 h3; omega))
      replace DY := Aside0.mk (DY.out.kept hk (by intro k h1 h2 h3; omega))
      replace DZ := Aside0.mk (DZ.out.kept hk (by intro k h1 h2 h3; omega))
      replace TL := Aside0.mk (TL.out.kept hk (by intro k h1 h2 h3; omega))
      replace HB := Aside0.mk hb
      have s16 := hk.1
      replace WN := Aside0.mk hd
      clear hb hk hd
      have hl2 : y4 = l16 := by rw [hl, EY.out, EZ.out, ← HG.out, HTL.out]; rfl
      clear hl hcut hC RC
      subst hl2
      --@p
      have z9_l := blk_lt Y.out
      have z9_0 := blk_cell Y.out 0
      have z9_1 := blk_cell Y.out 1
      have z9_2 := blk_cell Y.out 2
      have z9_3 := blk_cell Y.out 3
      have z9_4 := blk_cell Y.out 4
      have z9_5 := blk_cell Y.out 5
      simp only [List.getElem?_toArray, List.getElem?_cons_zero, List.getElem?_cons_succ] at z9_0 z9_1 z9_2 z9_3 z9_4 z9_5
      go_wp2_with fail
      refine (pick_calls2 ((.slice Y0 y0.length Yc0)) ((.slice Y2 y2.length Yc2)) ((.slice Y4 y4.length Yc4)) ya yc ye _).mono ?_
      rintro e w17 ⟨rfl, hb⟩
      replace D := Aside0.mk (blk_below D.out hb)
      replace X := Aside0.mk (blk_below X.out hb)
      replace Y := Aside0.mk (blk_below Y.out hb)
      replace Z := Aside0.mk (blk_below Z.out hb)
      replace DD := Aside0.mk (DD.out.below hb)
      replace BB := Aside0.mk (BB.out.below hb)
      replace DQ := Aside0.mk (DQ.out.below hb)
      replace DY := Aside0.mk (DY.out.below hb)
      replace WN := Aside0.mk (WN.out.below hb)
      replace DZ := Aside0.mk (DZ.out.below hb)
      replace TL := Aside0.mk (TL.out.below hb)
      replace HB := Aside0.mk (below_step HB.out hb)
      have s17 := hb.size
      clear hb
      clear z9_l z9_0 z9_1 z9_2 z9_3 z9_4 z9_5
      go_wp2_with fail
      refine (sameB_calls Y4 Yc4 A16 c16 y4 _ DY.out.k4.reads.1 DY.out.k4.reads.2 WN.out.reads.1 WN.out.reads.2 (by have := NN.out; omega)).mono ?_
      rintro e w18 ⟨rfl, hb⟩
      replace D := Aside0.mk (blk_below D.out hb)
      replace X := Aside0.mk (blk_below X.out hb)
      replace Y := Aside0.mk (blk_below Y.out hb)
      replace Z := Aside0.mk (blk_below Z.out hb)
      replace DD := Aside0.mk (DD.out.below hb)
      replace BB := Aside0.mk (BB.out.below hb)
      replace DQ := Aside0.mk (DQ.out.below hb)
      replace DY := Aside0.mk (DY.out.below hb)
      replace WN := Aside0.mk (WN.out.below hb)
      replace DZ := Aside0.mk (DZ.out.below hb)
      replace TL := Aside0.mk (TL.out.below hb)
      replace HB := Aside0.mk (below_step HB.out hb)
      have s18 := hb.size
      clear hb
      have z10_l := blk_lt Y.out
      have z10_0 := blk_cell Y.out 0
      have z10_1 := blk_cell Y.out 1
      have z10_2 := blk_cell Y.out 2
      have z10_3 := blk_cell Y.out 3
      have z10_4 := blk_cell Y.out 4
      have z10_5 := blk_cell Y.out 5
      simp only [List.getElem?_toArray, List.getElem?_cons_zero, List.getElem?_cons_succ] at z10_0 z10_1 z10_2 z10_3 z10_4 z10_5
      go_wp2_with fail
      refine (impl_DiskRename.calls Y0 Yc0 y0 ya Y2 Yc2 y2 yc Y4 Yc4 y4 ye y0 ya y4 ye [] 0 0 _ (DY.out).k0.reads.1 (DY.out).k0.reads.2 (DY.out).k2.reads.1 (DY.out).k2.reads.2 (DY.out).k4.reads.1 (DY.out).k4.reads.2 F6.out).mono ?_
      rintro e w19 ⟨v0, v2, v4, rfl, o0, o2, o4, hb⟩
      obtain ⟨V0, Vc0, V2, Vc2, V4, Vc4, rfl, rfl, rfl, hd⟩ := DK.of o0 o2 o4 HB.out
      clear o0 o2 o4
      replace D := Aside0.mk (blk_below D.out hb)
      replace X := Aside0.mk (blk_below X.out hb)
      replace Y := Aside0.mk (blk_below Y.out hb)
      replace Z := Aside0.mk (blk_below Z.out hb)
      replace DD := Aside0.mk (DD.out.below hb)
      replace BB := Aside0.mk (BB.out.below hb)
      replace DQ := Aside0.mk (DQ.out.below hb)
      replace DY := Aside0.mk (DY.out.below hb)
      replace WN := Aside0.mk (WN.out.below hb)
      replace DZ := Aside0.mk (DZ.out.below hb)
      replace TL := Aside0.mk (TL.out.below hb)
      replace HB := Aside0.mk (below_step HB.out hb)
      have s19 := hb.size
      clear hb
      clear z10_l z10_0 z10_1 z10_2 z10_3 z10_4 z10_5
      (try simp only [World.size_alloc] at hd)
      have DV := Aside0.mk hd
      clear hd
      --@q
      simp only [List.length_nil]
      have z11_l := blk_lt Y.out
      have z11_0 := blk_cell Y.out 0
      have z11_1 := blk_cell Y.out 1
      have z11_2 := blk_cell Y.out 2
      have z11_3 := blk_cell Y.out 3
      have z11_4 := blk_cell Y.out 4
      have z11_5 := blk_cell Y.out 5
      simp only [List.getElem?_toArray, List.getElem?_cons_zero, List.getElem?_cons_succ] at z11_0 z11_1 z11_2 z11_3 z11_4 z11_5
      go_wp2_with fail
      have hba := below_alloc (Below.refl w19.heap.size w19) (.cells #[(.slice V0 y0.length Vc0), .int .i64 ya, (.slice V2 y4.length Vc2), .int .i64 ye, .slice V4 0 Vc4, .int .i64 0] 31)
      have NB := Aside0.mk (blk_new w19 (.cells #[(.slice V0 y0.length Vc0), .int .i64 ya, (.slice V2 y4.length Vc2), .int .i64 ye, .slice V4 0 Vc4, .int .i64 0] 31))
      refine (sameB_calls V2 Vc2 Y4 Yc4 y4 _ (DV.out.below hba).k2.reads.1 (DV.out.below hba).k2.reads.2 (DY.out.below hba).k4.reads.1 (DY.out.below hba).k4.reads.2 (by have := NN.out; omega)).mono ?_
      rintro e w20 ⟨rfl, hb⟩
      replace D := Aside0.mk (blk_below (blk_below D.out hba) hb)
      replace X := Aside0.mk (blk_below (blk_below X.out hba) hb)
      replace Y := Aside0.mk (blk_below (blk_below Y.out hba) hb)
      replace Z := Aside0.mk (blk_below (blk_below Z.out hba) hb)
      replace DD := Aside0.mk ((DD.out.below hba).below hb)
      replace BB := Aside0.mk ((BB.out.below hba).below hb)
      replace DQ := Aside0.mk ((DQ.out.below hba).below hb)
      replace DY := Aside0.mk ((DY.out.below hba).below hb)
      replace WN := Aside0.mk ((WN.out.below hba).below hb)
      replace DZ := Aside0.mk ((DZ.out.below hba).below hb)
      replace TL := Aside0.mk ((TL.out.below hba).below hb)
      replace DV := Aside0.mk ((DV.out.below hba).below hb)
      replace HB := Aside0.mk (below_step (below_step HB.out hba) hb)
      have WB := Aside0.mk (blk_below NB.out hb)
      clear NB
      have s20 := hb.size
      simp only [World.size_alloc] at s20
      clear hb hba
      clear z11_l z11_0 z11_1 z11_2 z11_3 z11_4 z11_5
      have z12_l := blk_lt WB.out
      have z12_0 := blk_cell WB.out 0
      have z12_1 := blk_cell WB.out 1
      have z12_2 := blk_cell WB.out 2
      have z12_3 := blk_cell WB.out 3
      have z12_4 := blk_cell WB.out 4
      have z12_5 := blk_cell WB.out 5
      have z13_l := blk_lt Y.out
      have z13_0 := blk_cell Y.out 0
      have z13_1 := blk_cell Y.out 1
      have z13_2 := blk_cell Y.out 2
      have z13_3 := blk_cell Y.out 3
      have z13_4 := blk_cell Y.out 4
      have z13_5 := blk_cell Y.out 5
      simp only [List.getElem?_toArray, List.getElem?_cons_zero, List.getElem?_cons_succ] at z12_0 z12_1 z12_2 z12_3 z12_4 z12_5 z13_0 z13_1 z13_2 z13_3 z13_4 z13_5
      go_wp2_with fail
      refine (sameB_calls V0 Vc0 Y0 Yc0 y0 _ DV.out.k0.reads.1 DV.out.k0.reads.2 DY.out.k0.reads.1 DY.out.k0.reads.2 (by have := NN.out; omega)).mono ?_
      rintro e w21 ⟨rfl, hb⟩
      replace D := Aside0.mk (blk_below D.out hb)
      replace X := Aside0.mk (blk_below X.out hb)
      replace Y := Aside0.mk (blk_below Y.out hb)
      replace Z := Aside0.mk (blk_below Z.out hb)
      replace WB := Aside0.mk (blk_below WB.out hb)
      replace DD := Aside0.mk (DD.out.below hb)
      replace BB := Aside0.mk (BB.out.below hb)
      replace DQ := Aside0.mk (DQ.out.below hb)
      replace DY := Aside0.mk (DY.out.below hb)
      replace WN := Aside0.mk (WN.out.below hb)
      replace DZ := Aside0.mk (DZ.out.below hb)
      replace TL := Aside0.mk (TL.out.below hb)
      replace DV := Aside0.mk (DV.out.below hb)
      replace HB := Aside0.mk (below_step HB.out hb)
      have s21 := hb.size
      clear hb
      clear z12_l z12_0 z12_1 z12_2 z12_3 z12_4 z12_5 z13_l z13_0 z13_1 z13_2 z13_3 z13_4 z13_5
      go_wp2_with fail
      go_ret
      exact ⟨rfl, HB.out⟩
end Go.Proofs.Ytbapokpkgonjkaa.Print

/- The law FnDisk: the walk at whatever arguments. -/
namespace Go.Proofs.Ytbapokpkgonjkaa.Print
open Go.RowKit Go.Proofs.YtbapokpkgonjkaaW.PrintWords Go.Proofs.YtbapokpkgonjkaaW.PrintLast Go.Proofs.YtbapokpkgonjkaaW.PrintMore
set_option linter.unusedVariables false
set_option linter.unusedSimpArgs false
set_option maxHeartbeats 2000000 in
set_option maxRecDepth 100000 in
theorem FnDisk_long (A : Option Addr) (c : Nat) (code : List Int) (Am : Option Addr) (cm : Nat) (more : List Int) (w : World) (bc : Bool) (h1 : decide (1048576 < (code.length : Int)) = bc) (h2 : bc = true ∨ decide (1048576 < (more.length : Int)) = true) :
    Calls Try.prog 13 #[.slice A code.length c, .slice Am more.length cm] w fun e w' => e = .returned (.bool true) ∧ Below w.heap.size w w' := by
  rcases h2 with rfl | h2
  · go_enter Try.func13, Try.ntmps13
    go_wp2_with fail
    go_ret
    exact ⟨rfl, Below.refl _ _⟩
  · cases bc
    all_goals
      go_enter Try.func13, Try.ntmps13
      go_wp2_with fail
      go_ret
      exact ⟨rfl, Below.refl _ _⟩
set_option maxHeartbeats 2000000 in
set_option maxRecDepth 100000 in
theorem FnDisk_bad (A : Option Addr) (c : Nat) (code : List Int) (Am : Option Addr) (cm : Nat) (more : List Int) (w : World) (h0 : Kd.C (Kd.int .u8) w A code.length code) (hc : code.length ≤ c) (gc : code.length ≤ 1048576) (gm : more.length ≤ 1048576) (l0 : List Int) (a1 : Int) (l2 : List Int) (a3 : Int) (l4 : List Int) (a5 : Int) (n : Int) (b : List Int) (hD : spec_DrawDiskAppend.f 400000 code = some (l0, a1, l2, a3, l4, a5, n, b)) (hv : okDisk l0 a1 l2 a3 l4 a5 = false) :
    Calls Try.prog 13 #[.slice A code.length c, .slice Am more.length cm] w fun e w' => e = .returned (.bool true) ∧ Below w.heap.size w w' := by
  have R0 := Aside0.mk h0
  have HC := Aside0.mk hc
  have DRAW := Aside0.mk hD
  have HB := Aside0.mk (Below.refl w.heap.size w)
  have lc : decide (1048576 < (code.length : Int)) = false := decide_eq_false (by omega)
  have lm : decide (1048576 < (more.length : Int)) = false := decide_eq_false (by omega)
  have HV := Aside0.mk hv
  clear h0 hc hD gc gm hv
  go_enter Try.func13, Try.ntmps13
  go_wp2_with fail
  refine (spec_DrawDiskAppend.calls 400000 A c code l0 a1 l2 a3 l4 a5 n b _ (Kd.C_below R0.out HB.out) HC.out DRAW.out).mono ?_
  rintro e w1 ⟨v0, v2, v4, v7, rfl, o0, o2, o4, o7, hb⟩
  obtain ⟨D0, Dc0, D2, Dc2, D4, Dc4, Bb, Bbc, rfl, rfl, rfl, rfl, hd, hdb⟩ := DK.ofDraw o0 o2 o4 o7 HB.out
  replace HB := Aside0.mk (below_step HB.out hb)
  have DD := Aside0.mk hd
  clear o0 o2 o4 o7 hb hd hdb
  go_wp2_with fail
  have hba := below_alloc (Below.refl w1.heap.size w1) (.cells #[(.slice D0 l0.length Dc0), .int .i64 a1, (.slice D2 l2.length Dc2), .int .i64 a3, (.slice D4 l4.length Dc4), .int .i64 a5] 31)
  refine (spec_ValidDisk.calls D0 Dc0 l0 a1 D2 Dc2 l2 a3 D4 Dc4 l4 a5 (okDisk l0 a1 l2 a3 l4 a5) _ (DD.out.below hba).k0.reads.1 (DD.out.below hba).k0.reads.2 (DD.out.below hba).k2.reads.1 (DD.out.below hba).k2.reads.2 (DD.out.below hba).k4.reads.1 (DD.out.below hba).k4.reads.2 (spec_ValidDisk_eq l0 l2 l4 a1 a3 a5)).mono ?_
  rintro e w2 ⟨rfl, hb⟩
  replace HB := Aside0.mk (below_step (below_step HB.out hba) hb)
  have hv := HV.out
  rw [hv]
  clear hv hb hba
  go_wp2_with fail
  go_ret
  exact ⟨rfl, HB.out⟩
set_option maxHeartbeats 2000000 in
set_option maxRecDepth 100000 in
theorem FnDisk_low (A : Option Addr) (c : Nat) (code : List Int) (Am : Option Addr) (cm : Nat) (more : List Int) (w : World) (h0 : Kd.C (Kd.int .u8) w A code.length code) (hc : code.length ≤ c) (gc : code.length ≤ 1048576) (gm : more.length ≤ 1048576) (l0 : List Int) (a1 : Int) (l2 : List Int) (a3 : Int) (l4 : List Int) (a5 : Int) (n : Int) (b : List Int) (hD : spec_DrawDiskAppend.f 400000 code = some (l0, a1, l2, a3, l4, a5, n, b)) (hv : okDisk l0 a1 l2 a3 l4 a5 = true) (hn : decide (n < 0) = true) :
    Calls Try.prog 13 #[.slice A code.length c, .slice Am more.length cm] w fun e w' => e = .returned (.bool true) ∧ Below w.heap.size w w' := by
  have R0 := Aside0.mk h0
  have HC := Aside0.mk hc
  have DRAW := Aside0.mk hD
  have HB := Aside0.mk (Below.refl w.heap.size w)
  have lc : decide (1048576 < (code.length : Int)) = false := decide_eq_false (by omega)
  have lm : decide (1048576 < (more.length : Int)) = false := decide_eq_false (by omega)
  have HV := Aside0.mk hv
  clear h0 hc hD gc gm hv
  go_enter Try.func13, Try.ntmps13
  go_wp2_with fail
  refine (spec_DrawDiskAppend.calls 400000 A c code l0 a1 l2 a3 l4 a5 n b _ (Kd.C_below R0.out HB.out) HC.out DRAW.out).mono ?_
  rintro e w1 ⟨v0, v2, v4, v7, rfl, o0, o2, o4, o7, hb⟩
  obtain ⟨D0, Dc0, D2, Dc2, D4, Dc4, Bb, Bbc, rfl, rfl, rfl, rfl, hd, hdb⟩ := DK.ofDraw o0 o2 o4 o7 HB.out
  replace HB := Aside0.mk (below_step HB.out hb)
  have DD := Aside0.mk hd
  clear o0 o2 o4 o7 hb hd hdb
  go_wp2_with fail
  have hba := below_alloc (Below.refl w1.heap.size w1) (.cells #[(.slice D0 l0.length Dc0), .int .i64 a1, (.slice D2 l2.length Dc2), .int .i64 a3, (.slice D4 l4.length Dc4), .int .i64 a5] 31)
  refine (spec_ValidDisk.calls D0 Dc0 l0 a1 D2 Dc2 l2 a3 D4 Dc4 l4 a5 (okDisk l0 a1 l2 a3 l4 a5) _ (DD.out.below hba).k0.reads.1 (DD.out.below hba).k0.reads.2 (DD.out.below hba).k2.reads.1 (DD.out.below hba).k2.reads.2 (DD.out.below hba).k4.reads.1 (DD.out.below hba).k4.reads.2 (spec_ValidDisk_eq l0 l2 l4 a1 a3 a5)).mono ?_
  rintro e w2 ⟨rfl, hb⟩
  replace HB := Aside0.mk (below_step (below_step HB.out hba) hb)
  have hv := HV.out
  rw [hv]
  clear hv hb hba
  go_wp2_with fail
  go_ret
  exact ⟨rfl, HB.out⟩
set_option maxHeartbeats 2000000 in
set_option maxRecDepth 100000 in
theorem FnDisk_high (A : Option Addr) (c : Nat) (code : List Int) (Am : Option Addr) (cm : Nat) (more : List Int) (w : World) (h0 : Kd.C (Kd.int .u8) w A code.length code) (hc : code.length ≤ c) (gc : code.length ≤ 1048576) (gm : more.length ≤ 1048576) (l0 : List Int) (a1 : Int) (l2 : List Int) (a3 : Int) (l4 : List Int) (a5 : Int) (n : Int) (b : List Int) (hD : spec_DrawDiskAppend.f 400000 code = some (l0, a1, l2, a3, l4, a5, n, b)) (hv : okDisk l0 a1 l2 a3 l4 a5 = true) (hn : decide (n < 0) = false) (hn2 : decide (2 < n) = true) :
    Calls Try.prog 13 #[.slice A code.length c, .slice Am more.length cm] w fun e w' => e = .returned (.bool true) ∧ Below w.heap.size w w' := by
  have R0 := Aside0.mk h0
  have HC := Aside0.mk hc
  have DRAW := Aside0.mk hD
  have HB := Aside0.mk (Below.refl w.heap.size w)
  have lc : decide (1048576 < (code.length : Int)) = false := decide_eq_false (by omega)
  have lm : decide (1048576 < (more.length : Int)) = false := decide_eq_false (by omega)
  have HV := Aside0.mk hv
  clear h0 hc hD gc gm hv
  go_enter Try.func13, Try.ntmps13
  go_wp2_with fail
  refine (spec_DrawDiskAppend.calls 400000 A c code l0 a1 l2 a3 l4 a5 n b _ (Kd.C_below R0.out HB.out) HC.out DRAW.out).mono ?_
  rintro e w1 ⟨v0, v2, v4, v7, rfl, o0, o2, o4, o7, hb⟩
  obtain ⟨D0, Dc0, D2, Dc2, D4, Dc4, Bb, Bbc, rfl, rfl, rfl, rfl, hd, hdb⟩ := DK.ofDraw o0 o2 o4 o7 HB.out
  replace HB := Aside0.mk (below_step HB.out hb)
  have DD := Aside0.mk hd
  clear o0 o2 o4 o7 hb hd hdb
  go_wp2_with fail
  have hba := below_alloc (Below.refl w1.heap.size w1) (.cells #[(.slice D0 l0.length Dc0), .int .i64 a1, (.slice D2 l2.length Dc2), .int .i64 a3, (.slice D4 l4.length Dc4), .int .i64 a5] 31)
  refine (spec_ValidDisk.calls D0 Dc0 l0 a1 D2 Dc2 l2 a3 D4 Dc4 l4 a5 (okDisk l0 a1 l2 a3 l4 a5) _ (DD.out.below hba).k0.reads.1 (DD.out.below hba).k0.reads.2 (DD.out.below hba).k2.reads.1 (DD.out.below hba).k2.reads.2 (DD.out.below hba).k4.reads.1 (DD.out.below hba).k4.reads.2 (spec_ValidDisk_eq l0 l2 l4 a1 a3 a5)).mono ?_
  rintro e w2 ⟨rfl, hb⟩
  replace HB := Aside0.mk (below_step (below_step HB.out hba) hb)
  have hv := HV.out
  rw [hv]
  clear hv hb hba
  go_wp2_with fail
  go_ret
  exact ⟨rfl, HB.out⟩
theorem FnDisk_walk (A : Option Addr) (c : Nat) (code : List Int) (Am : Option Addr) (cm : Nat) (more : List Int) (w : World) (h0 : Kd.C (Kd.int .u8) w A code.length code) (hc : code.length ≤ c) (hbc : Bytes code) (h1 : Kd.C (Kd.int .u8) w Am more.length more) (hcm : more.length ≤ cm) (hbm : Bytes more) :
    Calls Try.prog 13 #[.slice A code.length c, .slice Am more.length cm] w fun e w' => e = .returned (.bool true) ∧ Below w.heap.size w w' := by
  by_cases gc : code.length ≤ 1048576
  case neg => exact FnDisk_long A c code Am cm more w true (decide_eq_true (by omega)) (.inl rfl)
  by_cases gm : more.length ≤ 1048576
  case neg => exact FnDisk_long A c code Am cm more w _ rfl (.inr (decide_eq_true (by omega)))
  obtain ⟨l0, a1, l2, a3, l4, a5, n, b, hD, _, _, _, gb, _, _, _⟩ := DrawDiskAppend_ok code hbc 400000 (by omega)
  rcases hv : okDisk l0 a1 l2 a3 l4 a5 with _ | _
  · exact FnDisk_bad A c code Am cm more w h0 hc gc gm l0 a1 l2 a3 l4 a5 n b hD hv
  by_cases hn : n < 0
  · exact FnDisk_low A c code Am cm more w h0 hc gc gm l0 a1 l2 a3 l4 a5 n b hD hv (decide_eq_true hn)
  by_cases hn2 : 2 < n
  · exact FnDisk_high A c code Am cm more w h0 hc gc gm l0 a1 l2 a3 l4 a5 n b hD hv (decide_eq_false hn) (decide_eq_true hn2)
  have h3 : n = 0 ∨ n = 1 ∨ n = 2 := by omega
  rcases h3 with rfl | rfl | rfl
  · exact FnDisk_walk0 A c code Am cm more w h0 hc h1 hcm hbm gc gm l0 a1 l2 a3 l4 a5 b hD hv gb
  · exact FnDisk_walk1 A c code Am cm more w h0 hc h1 hcm hbm gc gm l0 a1 l2 a3 l4 a5 b hD hv gb
  · exact FnDisk_walk2 A c code Am cm more w h0 hc h1 hcm hbm gc gm l0 a1 l2 a3 l4 a5 b hD hv gb
end Go.Proofs.Ytbapokpkgonjkaa.Print

/- The row of the law FnDisk. No condition. -/
namespace Go.Proofs.Ytbapokpkgonjkaa.fnDisk
open Go.ChangeShapes Go.WideShapes Go.ChangeAt Go.RowKit Print
open Go.ChangeMaps (open_string shut_string)
open Go.Proofs.YtbapokpkgonjkaaW.PrintWords Go.Proofs.YtbapokpkgonjkaaW.PrintLast Go.Proofs.YtbapokpkgonjkaaW.PrintMore
set_option linter.unusedVariables false
theorem own : ownKnob Try.prog.godebug = none := by kernel_rfl
theorem laidOut : laidOutB Try.prog = true := by kernel_rfl
set_option maxRecDepth 100000 in
theorem lifted (os : Os) (started : os.Started) (H : Type) (enc : TypeId × Value → H) :
    ReturnsInHanded {} Try.checked os 13 .any (Rows.fnDiskSpec.pre6 enc Try.prog Try.f13 Rows.fnDiskRow.domain false) (Rows.fnDiskSpec.post enc Try.prog Try.f13 false true false false) := by
  refine returnsInHanded_of_change_sized (C := Try.checked) own started (by kernel_rfl) Try.func13
    (ChangeSpec.witness6 (enc := enc) (C := Try.checked) false ⟨#[], #[.slice none 0 0, .slice none 0 0], []⟩ 8 (by kernel_rfl) (by kernel_rfl) (by kernel_rfl) (by kernel_rfl)) ?_
  intro W base args ds gs before hval0 hW hcnd hsz0 _
  have hsz : (DataW.weightsEach Try.prog (Try.f13.params.toList ++ Rows.fnDiskSpec.plain.varTypes Try.prog) (ds ++ gs)).all (· ≤ reachBytes) = true := hsz0
  have hval : ∀ (j : Nat) t v, Try.f13.params[j]? = some t → args[j]? = some v → Value.okWide Try.prog W .any base t v := hval0
  have hW' := hW
  obtain ⟨p, q, hA0, hV, rfl, hfz, hnd⟩ := hW
  have hA : DataW.TrodAll enc Try.prog W 0 (fun _ => true) true Try.f13.params.toList args.toList ds p := hA0
  rw [Try.params13] at hA hval hsz
  obtain ⟨v0, vs0, d0, ds0, p0, q0, hargs, rfl, rfl, h0, r0⟩ := trodAll_cons hA
  obtain ⟨v1, vs1, d1, ds1, p1, q1, rfl, rfl, rfl, h1, r1⟩ := trodAll_cons r0
  obtain ⟨rfl, rfl, rfl⟩ := trodAll_nil r1
  obtain rfl : args = #[v0, v1] := by cases args; simp_all
  obtain ⟨rfl, rfl⟩ := trodVars_none hV
  have k0 := h0
  have lt0 : ∀ x ∈ p0, x.block < W.heap.size := by obtain ⟨m, hm⟩ := k0; exact DataW.trod_lt m _ _ _ hm
  have k1 := h1
  have lt1 : ∀ x ∈ p1, x.block < W.heap.size := by obtain ⟨m, hm⟩ := k1; exact DataW.trod_lt m _ _ _ hm
  obtain ⟨A0, c0, l0, rfl, hd0, hc0, g0, w0⟩ := bytes_open hsz (j := 0) rfl rfl (hval 0 22 v0 rfl rfl) h0
  obtain ⟨A1, c1, l1, rfl, hd1, hc1, g1, w1⟩ := bytes_open hsz (j := 1) rfl rfl (hval 1 22 v1 rfl rfl) h1
  clear hA0 hval0 hsz0 hsz
  refine (FnDisk_walk A0 c0 l0 A1 c1 l1 W hd0 hc0 (byte_range w0) hd1 hc1 (byte_range w1)).mono fun e W' ⟨he, bel⟩ => ?_
  subst he
  exact ⟨_, rfl, _, _, _, [], _, [], hW', trodAll_mk1 (shut_bool Try.underlying4 _), (trodAll_cons_mk (Below.trod laidOut (by kernel_rfl) (of_decide_eq_true (by kernel_rfl)) k0 bel lt0) (trodAll_cons_mk (Below.trod laidOut (by kernel_rfl) (of_decide_eq_true (by kernel_rfl)) k1 bel lt1) trodAll_mk0)), rfl, bel.frame _, fun h => by cases h⟩
theorem over : Rows.fnDiskRow.holds Try.pinned (OpenSpec.ofChange Rows.fnDiskSpec) :=
  OpenClaim.holds_of_wide 13 Try.f13 rfl rfl rfl rfl rfl rfl rfl ⟨rfl, rfl, rfl, rfl, rfl⟩ rfl rfl rfl rfl rfl (by kernel_rfl) Try.func13 (by kernel_rfl)
    (of_decide_eq_true (by kernel_rfl)) (by unfold Func.isWrapper; first | (rw [if_pos (by decide +kernel)]; kernel_rfl) | (rw [if_neg (by decide +kernel)]; exact ⟨rfl, rfl⟩))
    (fun os started H enc _ => lifted os started H enc)
theorem proved : Rows.FnDiskSaid := over
#print axioms proved
end Go.Proofs.Ytbapokpkgonjkaa.fnDisk
namespace Go.Proofs.Ytbapokpkgonjkaa
/-- The row, under a short name, for the claim. -/
theorem fnDisk_holds : Rows.FnDiskSaid := fnDisk.proved
end Go.Proofs.Ytbapokpkgonjkaa
