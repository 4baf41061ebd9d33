/- Texts of this session, joined by its own program. -/
import Derived.Laws.CopyRow
import Derived.ProofKit
import Derived.Lib.SplitLaws
import Derived.Lib.Bytes
import Derived.Lib.Bytealg
import Derived.Laws.BytesArg
import Derived.Lib.SlBytesConst
import Derived.Deep.QuietTactic
import Derived.BigQuiet
import Derived.Test.YtbgbocdohadhoaaGreatDoorCRG1
namespace Go.Proofs.YtbgbocdohadhoaaGreatDoor.Print
open Go Go.RowKit Go.Proofs.YtbgbocdohadhoaaGreatDoorW.PrintWords Go.Proofs.YtbgbocdohadhoaaGreatDoorW.PrintLast Go.Proofs.YtbgbocdohadhoaaGreatDoorW.PrintMore
set_option linter.unusedVariables false
set_option linter.unusedSimpArgs false
theorem cloneB_ok (A : Option Addr) (c : Nat) (l : List Int) (w : World) (h : Kd.C (Kd.int .u8) w A l.length l) (hc : l.length ≤ c) (hl : l.length ≤ 2097152) :
  Calls Tryz.prog 152 #[.slice A l.length c] w fun e w' => ∃ B d, e = .returned (.slice B l.length d) ∧ Kd.R (Kd.int .u8) 5 w' w.heap.size (fun _ => True) (.slice B l.length d) l ∧ Below w.heap.size w w' := by
 refine (slices_Clone_byte_byte.calls A c l l w h hc (by unfold slices_Clone_byte_byte.f; rw [if_pos (by omega)])).mono ?_
 rintro e w' ⟨v, rfl, hr, hb⟩
 obtain ⟨B, d, rfl⟩ := Kd.R_slice hr
 exact ⟨B, d, rfl, hr, hb⟩
theorem cloneU_ok (A : Option Addr) (c : Nat) (l : List Int) (w : World) (h : Kd.C (Kd.int .u64) w A l.length l) (hc : l.length ≤ c) (hl : l.length ≤ 2097152) :
  Calls Tryz.prog 153 #[.slice A l.length c] w fun e w' => ∃ B d, e = .returned (.slice B l.length d) ∧ Kd.R (Kd.int .u64) 22 w' w.heap.size (fun _ => True) (.slice B l.length d) l ∧ Below w.heap.size w w' := by
 refine (slices_Clone_u64.calls A c l l w h hc (by unfold slices_Clone_u64.f; rw [if_pos (by omega)])).mono ?_
 rintro e w' ⟨v, rfl, hr, hb⟩
 obtain ⟨B, d, rfl⟩ := Kd.R_slice hr
 exact ⟨B, d, rfl, hr, hb⟩
set_option maxHeartbeats 4000000 in
set_option maxRecDepth 100000 in
theorem nodeCopy_ok (A0 : Option Addr) (c0 : Nat) (l0 : List Int) (A1 : Option Addr) (c1 : Nat) (l1 : List Int) (o m : Int) (A4 : Option Addr) (c4 : Nat) (l4 : List Int) (ep ge : Int) (A7 : Option Addr) (c7 : Nat) (l7 : List Int) (w : World)
  (h0 : Kd.C (Kd.int .u8) w A0 l0.length l0) (k0 : l0.length ≤ c0) (h1 : Kd.C (Kd.int .u8) w A1 l1.length l1) (k1 : l1.length ≤ c1) (h4 : Kd.C (Kd.int .u64) w A4 l4.length l4) (k4 : l4.length ≤ c4) (h7 : Kd.C (Kd.int .u64) w A7 l7.length l7) (k7 : l7.length ≤ c7)
  (s0 : l0.length ≤ 2097152) (s1 : l1.length ≤ 2097152) (s4 : l4.length ≤ 2097152) (s7 : l7.length ≤ 2097152) :
  Calls Tryz.prog 116 #[.agg #[.slice A0 l0.length c0, .slice A1 l1.length c1, .int .u64 o, .int .i64 m, .slice A4 l4.length c4, .int .u64 ep, .int .u64 ge, .slice A7 l7.length c7]] w fun r w' => ∃ B0 d0 B1 d1 B4 d4 B7 d7, r = .returned (.agg #[.slice B0 l0.length d0, .slice B1 l1.length d1, .int .u64 o, .int .i64 m, .slice B4 l4.length d4, .int .u64 ep, .int .u64 ge, .slice B7 l7.length d7]) ∧
   aNo.M w' w.heap.size (fun _ => True) ⟨l0, l1, o, m, l4, ep, ge, l7⟩ [.slice B0 l0.length d0, .slice B1 l1.length d1, .int .u64 o, .int .i64 m, .slice B4 l4.length d4, .int .u64 ep, .int .u64 ge, .slice B7 l7.length d7] ∧ Below w.heap.size w w' := by
 have K0 := Aside0.mk (fun (W : World) (hW : Below w.heap.size w W) => cloneB_ok A0 c0 l0 W (Kd.C_below h0 hW) k0 s0)
 have K1 := Aside0.mk (fun (W : World) (hW : Below w.heap.size w W) => cloneB_ok A1 c1 l1 W (Kd.C_below h1 hW) k1 s1)
 have K4 := Aside0.mk (fun (W : World) (hW : Below w.heap.size w W) => cloneU_ok A4 c4 l4 W (Kd.C_below h4 hW) k4 s4)
 have K7 := Aside0.mk (fun (W : World) (hW : Below w.heap.size w W) => cloneU_ok A7 c7 l7 W (Kd.C_below h7 hW) k7 s7)
 clear h0 k0 h1 k1 h4 k4 h7 k7 s0 s1 s4 s7
 go_enter Tryz.func116, Tryz.ntmps116
 go_upto_region 1 with (fail)
 have bx := blk_alloc (blk_new w (.cells #[.slice A0 l0.length c0, .slice A1 l1.length c1, .int .u64 o, .int .i64 m, .slice A4 l4.length c4, .int .u64 ep, .int .u64 ge, .slice A7 l7.length c7] 93)) (.cells #[.slice none 0 0, .slice none 0 0, .int .u64 0, .int .i64 0, .slice none 0 0, .int .u64 0, .int .u64 0, .slice none 0 0] 93)
 have bz := blk_new (w.alloc (.cells #[.slice A0 l0.length c0, .slice A1 l1.length c1, .int .u64 o, .int .i64 m, .slice A4 l4.length c4, .int .u64 ep, .int .u64 ge, .slice A7 l7.length c7] 93)) (.cells #[.slice none 0 0, .slice none 0 0, .int .u64 0, .int .i64 0, .slice none 0 0, .int .u64 0, .int .u64 0, .slice none 0 0] 93)
 simp only [World.size_alloc] at bz
 have hB := below_alloc (below_alloc (Below.refl w.heap.size w) (.cells #[.slice A0 l0.length c0, .slice A1 l1.length c1, .int .u64 o, .int .i64 m, .slice A4 l4.length c4, .int .u64 ep, .int .u64 ge, .slice A7 l7.length c7] 93)) (.cells #[.slice none 0 0, .slice none 0 0, .int .u64 0, .int .i64 0, .slice none 0 0, .int .u64 0, .int .u64 0, .slice none 0 0] 93)
 have hlt := blk_lt bz
 generalize (w.alloc (.cells #[.slice A0 l0.length c0, .slice A1 l1.length c1, .int .u64 o, .int .i64 m, .slice A4 l4.length c4, .int .u64 ep, .int .u64 ge, .slice A7 l7.length c7] 93)).alloc (.cells #[.slice none 0 0, .slice none 0 0, .int .u64 0, .int .i64 0, .slice none 0 0, .int .u64 0, .int .u64 0, .slice none 0 0] 93) = W0 at *
 have BX := Aside0.mk bx
 have BZ := Aside0.mk bz
 have HB := Aside0.mk hB
 have S0 := Aside0.mk hlt
 clear bx bz hB hlt
 obtain ⟨x0, x1, x2, x3, x4, x5, x6, x7⟩ := cells8 BX.out
 clear x2 x3 x4 x5 x6 x7
 go_cut [] (fun wc => ∃ (B0 : Option Addr) (d0 : Nat) (B1 : Option Addr) (d1 : Nat) (s1 s2 : Nat), Aside0 (wc.heap[w.heap.size]? = some (.cells #[.slice B0 l0.length d0, .slice B1 l1.length d1, .int .u64 o, .int .i64 m, .slice A4 l4.length c4, .int .u64 ep, .int .u64 ge, .slice A7 l7.length c7] 93 (0, 0))) ∧ Aside0 (wc.heap[w.heap.size + 1]? = some (.cells #[.slice none 0 0, .slice none 0 0, .int .u64 0, .int .i64 0, .slice none 0 0, .int .u64 0, .int .u64 0, .slice none 0 0] 93 (0, 0))) ∧ Aside0 (Kd.R (Kd.int .u8) 5 wc w.heap.size (fun k => w.heap.size + 2 ≤ k ∧ k < s1) (.slice B0 l0.length d0) l0) ∧ Aside0 (Kd.R (Kd.int .u8) 5 wc w.heap.size (fun k => s1 ≤ k ∧ k < s2) (.slice B1 l1.length d1) l1) ∧ Aside0 (w.heap.size + 2 ≤ s1 ∧ s1 ≤ s2 ∧ s2 ≤ wc.heap.size) ∧ Aside0 (Below w.heap.size w wc))
 case first =>
  go_region_with (first | (go_at_call 152; refine (K0.out _ (by with_reducible repeat (first | exact HB.out | apply below_drew1))).mono ?_; rintro r W0a ⟨B0, d0, rfl, hr, hb0⟩; have hb : Below W0.heap.size W0 W0a := (by first | exact hb0 | exact (below_drew1 (Below.refl W0.heap.size W0)).trans hb0); have HR0 := Aside0.mk (Kd.R_mono (Kd.R_bound hr) (ok' := fun k => W0.heap.size ≤ k ∧ k < W0a.heap.size) (fun k hk => ⟨hk.2.1, hk.2.2.1⟩)); clear hr hb0; replace BX := Aside0.mk (blk_below BX.out hb); replace BZ := Aside0.mk (blk_below BZ.out hb); replace HB := Aside0.mk (below_step HB.out hb); have SW0a := Aside0.mk hb.size; clear hb x0 x1; have x0 := blk_cell BX.out 0; have x1 := blk_cell BX.out 1; have fz := blk_frozen BX.out 0; have fz2 := blk_frozen BX.out 1; simp only [List.getElem?_toArray, List.getElem?_cons_zero, List.getElem?_cons_succ] at x0 x1) | (go_at_call 152; refine (K1.out _ (by with_reducible repeat (first | exact HB.out | apply below_drew1))).mono ?_; rintro r W0b ⟨B1, d1, rfl, hr, hb0⟩; have hb : Below W0a.heap.size W0a W0b := (by first | exact hb0 | exact (below_drew1 (Below.refl W0a.heap.size W0a)).trans hb0); have HR1 := Aside0.mk (Kd.R_mono (Kd.R_bound hr) (ok' := fun k => W0a.heap.size ≤ k ∧ k < W0b.heap.size) (fun k hk => ⟨hk.2.1, hk.2.2.1⟩)); clear hr hb0; replace HR0 := Aside0.mk (Kd.R_below HR0.out hb); replace BX := Aside0.mk (blk_below BX.out hb); replace BZ := Aside0.mk (blk_below BZ.out hb); replace HB := Aside0.mk (below_step HB.out hb); have SW0b := Aside0.mk hb.size; clear hb x0 x1; have x0 := blk_cell BX.out 0; have x1 := blk_cell BX.out 1; have fz := blk_frozen BX.out 0; have fz2 := blk_frozen BX.out 1; simp only [List.getElem?_toArray, List.getElem?_cons_zero, List.getElem?_cons_succ] at x0 x1))
  all_goals
   go_wp2_with fail
   go_meet
  all_goals
   have s0 := S0.out
   have sa := SW0a.out
   have sb := SW0b.out
   have hs := HB.out.size
   exact ⟨B0, d0, B1, d1, W0a.heap.size, W0b.heap.size, ⟨blk_put (cs := #[.slice B0 l0.length d0, .slice A1 l1.length c1, .int .u64 o, .int .i64 m, .slice A4 l4.length c4, .int .u64 ep, .int .u64 ge, .slice A7 l7.length c7]) (blk_put (cs := #[.slice A0 l0.length c0, .slice A1 l1.length c1, .int .u64 o, .int .i64 m, .slice A4 l4.length c4, .int .u64 ep, .int .u64 ge, .slice A7 l7.length c7]) BX.out 0 _ rfl) 1 _ rfl⟩, ⟨blk_far (blk_far BZ.out (show w.heap.size + 1 ≠ w.heap.size by omega) _) (show w.heap.size + 1 ≠ w.heap.size by omega) _⟩, ⟨Kd.R_far (p := ⟨w.heap.size, 1, none⟩) (Kd.R_far (p := ⟨w.heap.size, 0, none⟩) (Kd.R_mono (ok := fun k => W0.heap.size ≤ k ∧ k < W0a.heap.size) (Kd.R_lower (HR0.out) (by first | omega | (show w.heap.size ≤ W0.heap.size; omega))) (fun k hk => ⟨by have := hk.1; omega, hk.2⟩)) (fun k hk => by have := hk.1; skip; show k ≠ w.heap.size; omega) _) (fun k hk => by have := hk.1; skip; show k ≠ w.heap.size; omega) _⟩, ⟨Kd.R_far (p := ⟨w.heap.size, 1, none⟩) (Kd.R_far (p := ⟨w.heap.size, 0, none⟩) (Kd.R_lower (HR1.out) (by first | omega | (show w.heap.size ≤ W0a.heap.size; omega))) (fun k hk => by have := hk.1; skip; show k ≠ w.heap.size; omega) _) (fun k hk => by have := hk.1; skip; show k ≠ w.heap.size; omega) _⟩, ⟨⟨by omega, by omega, by simp [World.setCell]⟩⟩, ⟨by with_reducible repeat (first | exact HB.out | refine below_set ?_ (by omega))⟩⟩
 case rest =>
  clear BX BZ HB S0
  obtain ⟨B0, d0, B1, d1, s1, s2, BX, BZ, HR0, HR1, SS, HB⟩ := hcut
  have S0 := SS
  go_upto_region 2 with (fail)
  obtain ⟨x0, x1, x2, x3, x4, x5, x6, x7⟩ := cells8 BX.out
  clear x0 x1 x2 x3 x5 x6
  go_cut [] (fun wc => ∃ (B4 : Option Addr) (d4 : Nat) (B7 : Option Addr) (d7 : Nat) (s4 s7 : Nat), Aside0 (wc.heap[w.heap.size]? = some (.cells #[.slice B0 l0.length d0, .slice B1 l1.length d1, .int .u64 o, .int .i64 m, .slice B4 l4.length d4, .int .u64 ep, .int .u64 ge, .slice B7 l7.length d7] 93 (0, 0))) ∧ Aside0 (wc.heap[w.heap.size + 1]? = some (.cells #[.slice none 0 0, .slice none 0 0, .int .u64 0, .int .i64 0, .slice none 0 0, .int .u64 0, .int .u64 0, .slice none 0 0] 93 (0, 0))) ∧ Aside0 (Kd.R (Kd.int .u8) 5 wc w.heap.size (fun k => w.heap.size + 2 ≤ k ∧ k < s1) (.slice B0 l0.length d0) l0) ∧ Aside0 (Kd.R (Kd.int .u8) 5 wc w.heap.size (fun k => s1 ≤ k ∧ k < s2) (.slice B1 l1.length d1) l1) ∧ Aside0 (Kd.R (Kd.int .u64) 22 wc w.heap.size (fun k => s2 ≤ k ∧ k < s4) (.slice B4 l4.length d4) l4) ∧ Aside0 (Kd.R (Kd.int .u64) 22 wc w.heap.size (fun k => s4 ≤ k ∧ k < s7) (.slice B7 l7.length d7) l7) ∧ Aside0 (s2 ≤ s4 ∧ s4 ≤ s7 ∧ s7 ≤ wc.heap.size) ∧ Aside0 (Below w.heap.size w wc))
  case first =>
   go_region_with (first | (go_at_call 153; refine (K4.out _ (by with_reducible repeat (first | exact HB.out | apply below_drew1))).mono ?_; rintro r wca ⟨B4, d4, rfl, hr, hb0⟩; have hb : Below wc.heap.size wc wca := (by first | exact hb0 | exact (below_drew1 (Below.refl wc.heap.size wc)).trans hb0); have HR4 := Aside0.mk (Kd.R_mono (Kd.R_bound hr) (ok' := fun k => wc.heap.size ≤ k ∧ k < wca.heap.size) (fun k hk => ⟨hk.2.1, hk.2.2.1⟩)); clear hr hb0; replace HR0 := Aside0.mk (Kd.R_below HR0.out hb); replace HR1 := Aside0.mk (Kd.R_below HR1.out hb); replace BX := Aside0.mk (blk_below BX.out hb); replace BZ := Aside0.mk (blk_below BZ.out hb); replace HB := Aside0.mk (below_step HB.out hb); have Swca := Aside0.mk hb.size; clear hb x4 x7; have x4 := blk_cell BX.out 4; have x7 := blk_cell BX.out 7; have fz := blk_frozen BX.out 4; have fz2 := blk_frozen BX.out 7; simp only [List.getElem?_toArray, List.getElem?_cons_zero, List.getElem?_cons_succ] at x4 x7) | (go_at_call 153; refine (K7.out _ (by with_reducible repeat (first | exact HB.out | apply below_drew1))).mono ?_; rintro r wcb ⟨B7, d7, rfl, hr, hb0⟩; have hb : Below wca.heap.size wca wcb := (by first | exact hb0 | exact (below_drew1 (Below.refl wca.heap.size wca)).trans hb0); have HR7 := Aside0.mk (Kd.R_mono (Kd.R_bound hr) (ok' := fun k => wca.heap.size ≤ k ∧ k < wcb.heap.size) (fun k hk => ⟨hk.2.1, hk.2.2.1⟩)); clear hr hb0; replace HR0 := Aside0.mk (Kd.R_below HR0.out hb); replace HR1 := Aside0.mk (Kd.R_below HR1.out hb); replace HR4 := Aside0.mk (Kd.R_below HR4.out hb); replace BX := Aside0.mk (blk_below BX.out hb); replace BZ := Aside0.mk (blk_below BZ.out hb); replace HB := Aside0.mk (below_step HB.out hb); have Swcb := Aside0.mk hb.size; clear hb x4 x7; have x4 := blk_cell BX.out 4; have x7 := blk_cell BX.out 7; have fz := blk_frozen BX.out 4; have fz2 := blk_frozen BX.out 7; simp only [List.getElem?_toArray, List.getElem?_cons_zero, List.getElem?_cons_succ] at x4 x7))
   all_goals
    go_wp2_with fail
    go_meet
   all_goals
    have s0 := S0.out
    have sa := Swca.out
    have sb := Swcb.out
    have hs := HB.out.size
    exact ⟨B4, d4, B7, d7, wca.heap.size, wcb.heap.size, ⟨blk_put (cs := #[.slice B0 l0.length d0, .slice B1 l1.length d1, .int .u64 o, .int .i64 m, .slice B4 l4.length d4, .int .u64 ep, .int .u64 ge, .slice A7 l7.length c7]) (blk_put (cs := #[.slice B0 l0.length d0, .slice B1 l1.length d1, .int .u64 o, .int .i64 m, .slice A4 l4.length c4, .int .u64 ep, .int .u64 ge, .slice A7 l7.length c7]) BX.out 4 _ rfl) 7 _ rfl⟩, ⟨blk_far (blk_far BZ.out (show w.heap.size + 1 ≠ w.heap.size by omega) _) (show w.heap.size + 1 ≠ w.heap.size by omega) _⟩, ⟨Kd.R_far (p := ⟨w.heap.size, 7, none⟩) (Kd.R_far (p := ⟨w.heap.size, 4, none⟩) (HR0.out) (fun k hk => by have := hk.1; skip; show k ≠ w.heap.size; omega) _) (fun k hk => by have := hk.1; skip; show k ≠ w.heap.size; omega) _⟩, ⟨Kd.R_far (p := ⟨w.heap.size, 7, none⟩) (Kd.R_far (p := ⟨w.heap.size, 4, none⟩) (HR1.out) (fun k hk => by have := hk.1; have := SS.out; show k ≠ w.heap.size; omega) _) (fun k hk => by have := hk.1; have := SS.out; show k ≠ w.heap.size; omega) _⟩, ⟨Kd.R_far (p := ⟨w.heap.size, 7, none⟩) (Kd.R_far (p := ⟨w.heap.size, 4, none⟩) (Kd.R_mono (ok := fun k => wc.heap.size ≤ k ∧ k < wca.heap.size) (Kd.R_lower (HR4.out) (by first | omega | (show w.heap.size ≤ wc.heap.size; omega))) (fun k hk => ⟨by have := hk.1; have := SS.out; omega, hk.2⟩)) (fun k hk => by have := hk.1; have := SS.out; show k ≠ w.heap.size; omega) _) (fun k hk => by have := hk.1; have := SS.out; show k ≠ w.heap.size; omega) _⟩, ⟨Kd.R_far (p := ⟨w.heap.size, 7, none⟩) (Kd.R_far (p := ⟨w.heap.size, 4, none⟩) (Kd.R_lower (HR7.out) (by first | omega | (show w.heap.size ≤ wca.heap.size; omega))) (fun k hk => by have := hk.1; have := SS.out; show k ≠ w.heap.size; omega) _) (fun k hk => by have := hk.1; have := SS.out; show k ≠ w.heap.size; omega) _⟩, ⟨⟨by have := SS.out; omega, by omega, by simp [World.setCell]⟩⟩, ⟨by with_reducible repeat (first | exact HB.out | refine below_set ?_ (by omega))⟩⟩
  case rest =>
   clear BX BZ HB HR0 HR1
   obtain ⟨B4, d4, B7, d7, s4, s7, BX, BZ, HR0, HR1, HR4, HR7, SS2, HB⟩ := hcut
   obtain ⟨y0, y1, y2, y3, y4, y5, y6, y7⟩ := cells8 BX.out
   obtain ⟨z0, z1, z2, z3, z4, z5, z6, z7⟩ := cells8 BZ.out
   have f0 := blk_frozen BZ.out 0
   have f1 := blk_frozen BZ.out 1
   have f2 := blk_frozen BZ.out 2
   have f3 := blk_frozen BZ.out 3
   have f4 := blk_frozen BZ.out 4
   have f5 := blk_frozen BZ.out 5
   have f6 := blk_frozen BZ.out 6
   have f7 := blk_frozen BZ.out 7
   go_wp2_with fail
   refine bodyPost_ret (results_cell_row rfl _ _ (w.heap.size + 1) 93 #[.slice B0 l0.length d0, .slice B1 l1.length d1, .int .u64 o, .int .i64 m, .slice B4 l4.length d4, .int .u64 ep, .int .u64 ge, .slice B7 l7.length d7] (0, 0) _ rfl (by refine blk_put (cs := #[.slice B0 l0.length d0, .slice B1 l1.length d1, .int .u64 o, .int .i64 m, .slice B4 l4.length d4, .int .u64 ep, .int .u64 ge, .slice none 0 0]) ?_ 7 _ rfl; refine blk_put (cs := #[.slice B0 l0.length d0, .slice B1 l1.length d1, .int .u64 o, .int .i64 m, .slice B4 l4.length d4, .int .u64 ep, .int .u64 0, .slice none 0 0]) ?_ 6 _ rfl; refine blk_put (cs := #[.slice B0 l0.length d0, .slice B1 l1.length d1, .int .u64 o, .int .i64 m, .slice B4 l4.length d4, .int .u64 0, .int .u64 0, .slice none 0 0]) ?_ 5 _ rfl; refine blk_put (cs := #[.slice B0 l0.length d0, .slice B1 l1.length d1, .int .u64 o, .int .i64 m, .slice none 0 0, .int .u64 0, .int .u64 0, .slice none 0 0]) ?_ 4 _ rfl; refine blk_put (cs := #[.slice B0 l0.length d0, .slice B1 l1.length d1, .int .u64 o, .int .i64 0, .slice none 0 0, .int .u64 0, .int .u64 0, .slice none 0 0]) ?_ 3 _ rfl; refine blk_put (cs := #[.slice B0 l0.length d0, .slice B1 l1.length d1, .int .u64 0, .int .i64 0, .slice none 0 0, .int .u64 0, .int .u64 0, .slice none 0 0]) ?_ 2 _ rfl; refine blk_put (cs := #[.slice B0 l0.length d0, .slice none 0 0, .int .u64 0, .int .i64 0, .slice none 0 0, .int .u64 0, .int .u64 0, .slice none 0 0]) ?_ 1 _ rfl; refine blk_put (cs := #[.slice none 0 0, .slice none 0 0, .int .u64 0, .int .i64 0, .slice none 0 0, .int .u64 0, .int .u64 0, .slice none 0 0]) ?_ 0 _ rfl; exact BZ.out) Tryz.underlying93 rfl (by kernel_rfl)) rfl ?_
   have h1 := SS.out
   have h2 := SS2.out
   refine ⟨B0, d0, B1, d1, B4, d4, B7, d7, rfl, ?_, by with_reducible repeat (first | exact HB.out | refine below_set ?_ (by omega))⟩
   refine aNo_mkp _ _ _ ⟨l0, l1, o, m, l4, ep, ge, l7⟩ (fun k => k < s1) (fun k => k < s2) (fun k => k < s4) ?_ ?_ ?_ ?_
   ·
    refine Kd.R_mono (ok := fun k => w.heap.size + 2 ≤ k ∧ k < s1) ?_ (fun k hk => by simp only [true_and]; omega)
    repeat (first | with_reducible exact HR0.out | refine Kd.R_far ?_ (fun k hk => by have := hk.1; simp only [ne_eq]; omega) _)
   ·
    refine Kd.R_mono (ok := fun k => s1 ≤ k ∧ k < s2) ?_ (fun k hk => by simp only [true_and]; omega)
    repeat (first | with_reducible exact HR1.out | refine Kd.R_far ?_ (fun k hk => by have := hk.1; simp only [ne_eq]; omega) _)
   ·
    refine Kd.R_mono (ok := fun k => s2 ≤ k ∧ k < s4) ?_ (fun k hk => by simp only [true_and]; omega)
    repeat (first | with_reducible exact HR4.out | refine Kd.R_far ?_ (fun k hk => by have := hk.1; simp only [ne_eq]; omega) _)
   ·
    refine Kd.R_mono (ok := fun k => s4 ≤ k ∧ k < s7) ?_ (fun k hk => by simp only [true_and]; omega)
    repeat (first | with_reducible exact HR7.out | refine Kd.R_far ?_ (fun k hk => by have := hk.1; simp only [ne_eq]; omega) _)
theorem setRow_other (w : World) (g : Nat) (cs : Array Value) (k : Nat) (h : k ≠ g) : (w.setRow g cs).heap[k]? = w.heap[k]? := by
 unfold World.setRow
 simp only [Array.getElem?_modify]
 rw [if_neg (fun e => h e.symm)]
theorem run_clear_u64 {W : World} {base : Nat} {ok : Nat → Prop} {A : Option Addr} {n c : Nat} {l : List Int} (h : (Kd.int .u64).R 22 W base ok (.slice A n c) l) :
  ∃ W', (∀ ty, (Builtin.clear_ #[91] ty #[.slice A n c]).run Tryz.prog W = .ok (.tuple #[]) W') ∧ W.grownBy W' (Value.slice A n c).ownBlock ∧ (Kd.int .u64).R 22 W' base ok (.slice A 0 c) [] := by
 have hu := Tryz.underlying91
 obtain ⟨h0, inner, ⟨hlen, ho⟩, hr⟩ := h
 rcases ho with ⟨ho, hn⟩ | ⟨g, cap, cur, ho, hb, hg, hnc, hcm, hsz, ht⟩
 ·
  injection ho with e1 e2 e3
  subst e1 e2 e3
  exact ⟨W, fun ty => by simp [Builtin.clear_, run_underlying hu], ⟨rfl, rfl, rfl, Nat.le_refl _, fun _ _ _ => rfl⟩, Kd.R_nil _ _ _ _ _⟩
 ·
  injection ho with e1 e2 e3
  subst e1 e3
  have hR : ∀ (W' : World) (cur' : Array Value), W'.heap[g]? = some (.cells cur' 22 (0, 0)) → cur'.size = cur.size → (Kd.int .u64).R 22 W' base ok (.slice (some ⟨g, 0, none⟩) 0 c) [] := fun W' cur' hg' hs' =>
   ⟨fun k hk => h0 k hk, [], ⟨by simp, Or.inr ⟨g, c, cur', rfl, hb, hg', Nat.zero_le _, hcm, by rw [hs']; exact hsz, by simp⟩⟩, ⟨by simp, fun j p hj => by simp at hj⟩⟩
  rcases Nat.eq_zero_or_pos n with hz | hz
  ·
   subst hz
   exact ⟨W, fun ty => by simp [Builtin.clear_, run_underlying hu], ⟨rfl, rfl, rfl, Nat.le_refl _, fun _ _ _ => rfl⟩, hR W cur hg rfl⟩
  ·
   obtain ⟨m, rfl⟩ : ∃ m, n = m + 1 := ⟨n - 1, by omega⟩
   have hsz1 : cur.size = c * 1 := hsz
   have hst := run_storeCells_at Tryz.prog g 0 22 (Builtin.zeroCells #[.int .u64 0] (m + 1)).toList 0 cur W hg (by simp [Builtin.zeroCells]; omega) (by
    intro v hv
    simp only [Builtin.zeroCells, Array.toList_map, List.mem_map] at hv
    obtain ⟨i, _, rfl⟩ := hv
    have e1 : (#[Value.int IntKind.u64 0] : Array Value).size = 1 := rfl
    rw [e1, Nat.mod_one]
    rfl)
   obtain ⟨cs, hcs⟩ : ∃ cs, (cur.toList.take (0 + 0) ++ (Builtin.zeroCells #[.int .u64 0] (m + 1)).toList ++ cur.toList.drop (0 + 0 + (Builtin.zeroCells #[.int .u64 0] (m + 1)).toList.length)).toArray = cs := ⟨_, rfl⟩
   have hcz : cs.size = cur.size := by
    rw [← hcs]
    simp [Builtin.zeroCells]
    omega
   rw [hcs] at hst
   refine ⟨W.setRow g cs, fun ty => ?_, ⟨rfl, rfl, rfl, by rw [size_setRow]; exact Nat.le_refl _, fun k _ hk => setRow_other W g cs k (fun e => hk (by rw [e]; rfl))⟩, hR _ _ (setRow_heap W g cur cs _ _ hg) hcz⟩
   have hzv : (zeroValue 22).run Tryz.prog W = .ok (.int .u64 0) W := by
    have hi := info22
    cases hq : Tryz.prog.info? 22 with
    | none => rw [hq] at hi; cases hi
    | some i =>
     rw [hq] at hi
     have hz1 : i.zero = some (.int .u64 0) := by
      have := Option.some.inj hi
      exact congrArg Prod.fst this
     simp [zeroValue, typeInfo, hq, hz1]
   have hc0 : (Value.int .u64 0).cells = #[.int .u64 0] := rfl
   simp [Builtin.clear_, run_underlying hu, hzv, hst, hc0]
def pieces : List Int → List (List Int)
 | [] => [[]]
 | c :: l => if c = 47 then [] :: pieces l else match pieces l with
  | [] => [[c]]
  | h :: t => (c :: h) :: t
def charB (c : Int) : Bool := decide (97 ≤ c) && decide (c ≤ 122) || decide (48 ≤ c) && decide (c ≤ 57) || c == 45 || c == 95
def nameB (s : List Int) : Bool := decide (1 ≤ s.length) && decide (s.length ≤ 16) && s.all charB
def pathB : List Int → Bool
 | [] => false
 | c :: r => c == 47 && decide ((pieces r).length ≤ 8) && (pieces r).all nameB
theorem pieces_ne (l : List Int) : pieces l ≠ [] := by
 cases l with
 | nil => simp [pieces]
 | cons c l =>
  unfold pieces
  split
  ·
   simp
  ·
   split <;> simp
theorem pieces_slash (l : List Int) : pieces (47 :: l) = [] :: pieces l := by rw [pieces, if_pos rfl]
theorem pieces_char (c : Int) (l : List Int) (h : c ≠ 47) : ∃ a t, pieces l = a :: t ∧ pieces (c :: l) = (c :: a) :: t := by
 obtain ⟨a, t, e⟩ : ∃ a t, pieces l = a :: t := by
  cases hq : pieces l with
  | nil => exact absurd hq (pieces_ne l)
  | cons a t => exact ⟨a, t, rfl⟩
 exact ⟨a, t, e, by rw [pieces, if_neg h, e]⟩
theorem bytesOf_inj : ∀ {a b : List Int}, (∀ x ∈ a, 0 ≤ x ∧ x < 256) → (∀ x ∈ b, 0 ≤ x ∧ x < 256) → Lib.bytesOf a = Lib.bytesOf b → a = b
 | [], [], _, _, _ => rfl
 | [], _ :: _, _, _, h => by simp [Lib.bytesOf] at h
 | _ :: _, [], _, _, h => by simp [Lib.bytesOf] at h
 | x :: a, y :: b, ha, hb, h => by
  simp only [Lib.bytesOf, List.map_cons, List.cons.injEq] at h
  have hx := ha x (by simp)
  have hy := hb y (by simp)
  have e : x = y := by
   have := congrArg UInt8.toNat h.1
   simp only [UInt8.toNat_ofNat'] at this
   omega
  rw [e, bytesOf_inj (fun z hz => ha z (by simp [hz])) (fun z hz => hb z (by simp [hz])) h.2]
theorem byte_eq {c : Int} (h : 0 ≤ c ∧ c < 256) : (UInt8.ofNat c.toNat = 47) ↔ c = 47 := by
 constructor
 ·
  intro e
  have := congrArg UInt8.toNat e
  simp only [UInt8.toNat_ofNat'] at this
  have e2 : (47 : UInt8).toNat = 47 := rfl
  omega
 ·
  rintro rfl
  rfl
theorem pieces_sum : ∀ (l : List Int), ((pieces l).map (fun p => p.length + 1)).sum = l.length + 1
 | [] => by simp [pieces]
 | c :: l => by
  have ih := pieces_sum l
  by_cases h : c = 47
  ·
   subst h
   rw [pieces_slash]
   simp only [List.map_cons, List.sum_cons, List.length_nil, List.length_cons]
   omega
  ·
   obtain ⟨a, t, e, e'⟩ := pieces_char c l h
   rw [e']
   rw [e] at ih
   simp only [List.map_cons, List.sum_cons, List.length_cons] at ih ⊢
   omega
theorem sum_bound : ∀ (ps : List (List Int)), ps.all nameB = true → (ps.map (fun p => p.length + 1)).sum ≤ 17 * ps.length
 | [], _ => by simp
 | p :: ps, h => by
  rw [List.all_cons, Bool.and_eq_true] at h
  have ih := sum_bound ps h.2
  have h1 := h.1
  unfold nameB at h1
  simp only [Bool.and_eq_true, decide_eq_true_eq] at h1
  simp only [List.map_cons, List.sum_cons, List.length_cons]
  omega
theorem pathB_len (l : List Int) (h : pathB l = true) : 2 ≤ l.length ∧ l.length ≤ 136 := by
 cases l with
 | nil => simp [pathB] at h
 | cons c r =>
  unfold pathB at h
  simp only [Bool.and_eq_true, decide_eq_true_eq] at h
  have h1 := sum_bound _ h.2
  rw [pieces_sum] at h1
  have h2 : r ≠ [] := by
   rintro rfl
   simp [pieces, nameB] at h
  have := List.length_pos_iff.2 h2
  simp only [List.length_cons]
  omega
def allI {α : Type} (f : Nat → α → Bool) : Nat → List α → Bool
 | _, [] => true
 | i, x :: r => f i x && allI f (i + 1) r
theorem allI_drop {α : Type} (f : Nat → α → Bool) (l : List α) (i : Nat) (h : i < l.length) : allI f i (l.drop i) = (f i l[i] && allI f (i + 1) (l.drop (i + 1))) := by
 rw [List.drop_eq_getElem_cons h, allI]
theorem allI_end {α : Type} (f : Nat → α → Bool) (l : List α) (i : Nat) (h : l.length ≤ i) : allI f i (l.drop i) = true := by
 rw [List.drop_eq_nil_of_le h, allI]
theorem allI_iff {α : Type} (f : Nat → α → Bool) : ∀ (l : List α) (i : Nat), allI f i l = true ↔ ∀ j (h : j < l.length), f (i + j) l[j] = true
 | [], i => by simp [allI]
 | x :: r, i => by
  rw [allI, Bool.and_eq_true, allI_iff f r (i + 1)]
  constructor
  ·
   rintro ⟨h1, h2⟩ j hj
   cases j with
   | zero => exact h1
   | succ j =>
    have := h2 j (by simpa using hj)
    rw [show i + (j + 1) = i + 1 + j by omega]
    exact this
  ·
   intro h
   refine ⟨h 0 (by simp), fun j hj => ?_⟩
   have := h (j + 1) (by simpa using hj)
   rw [show i + 1 + j = i + (j + 1) by omega]
   exact this
def evB (i : Nat) (e : Ev) : Bool := if i = 7 then e.f0 == 4 && e.f1.length == 0 else e.f0 != 4 && decide (1 ≤ e.f0) && decide (e.f0 ≤ 3) && pathB e.f1
def queueB (q : List Ev) : Bool := decide (q.length ≤ 8) && allI evB 0 q
def zSe : Se := z90
def zNo : No := z93
def sesB (next : Int) (xs : List Se) (i : Nat) (x : Se) : Bool :=
 decide (1 ≤ x.f0) && decide (x.f0 ≤ next) && (i == 0 || decide ((xs.getD (i - 1) zSe).f0 < x.f0)) && decide (0 ≤ x.f1) && decide (x.f1 ≤ 1000015) && queueB x.f2
def liveB (xs : List Se) (id : Int) : Bool := xs.any fun x => x.f0 == id
def idsB (xs : List Se) (l : List Int) : Bool := allI (fun i x => liveB xs x && (i == 0 || decide (l.getD (i - 1) 0 < x))) 0 l
def lastFrom : List Int → Nat → Nat → Nat
 | [], _, a => a
 | c :: r, i, a => lastFrom r (i + 1) (if c = 47 then i else a)
def parentL (p : List Int) : List Int := if lastFrom p 0 0 = 0 then [47] else p.take (lastFrom p 0 0)
def leB (a b : List Int) : Bool := Op.bytesLess (Lib.bytesOf a) (Lib.bytesOf b) || Lib.bytesOf a == Lib.bytesOf b
def canParB (ns : List No) (p : List Int) : Bool := p == [47] || match ns.find? (fun n => n.f0 == p) with
 | none => false
 | some n => n.f2 == 0
def lockB (epoch gen : Int) (n : No) : Bool :=
 if n.f3 = 1 then n.f4.length == 1 && decide (1 ≤ n.f6) && decide (n.f6 ≤ gen) && decide (n.f5 ≤ epoch) else n.f5 == 0 && n.f6 == 0 && (if n.f3 = 0 then n.f4.length == 0 else n.f3 == 2 && decide (1 ≤ n.f4.length))
def nodeB (epoch gen : Int) (xs : List Se) (ns : List No) (i : Nat) (n : No) : Bool :=
 pathB n.f0 && (i == 0 || !leB n.f0 (ns.getD (i - 1) zNo).f0) && canParB ns (parentL n.f0) && decide (n.f1.length ≤ 40) && (n.f2 == 0 || liveB xs n.f2) && idsB xs n.f4 && idsB xs n.f7 && lockB epoch gen n
def headB (epoch gen next now : Int) (nx nn : Nat) : Bool :=
 decide (epoch ≤ 4611686018427387904) && decide (gen ≤ 4611686018427387904) && decide (next ≤ 4611686018427387904) && decide (0 ≤ now) && decide (now ≤ 1000000) && decide (nx ≤ 50) && decide (nn ≤ 200)
def validB (epoch gen next now : Int) (xs : List Se) (ns : List No) : Bool :=
 headB epoch gen next now xs.length ns.length && allI (sesB next xs) 0 xs && allI (nodeB epoch gen xs ns) 0 ns
section
attribute [local go_sem] max2_int max_two
set_option linter.unusedVariables false
set_option linter.unusedSimpArgs false
def spec_l3same.f (l0 : List Int) (l1 : List Int) : Option (Bool) := some ((strOfNums l0).toList == (strOfNums l1).toList)
set_option maxHeartbeats 8000000 in
set_option maxRecDepth 100000 in
theorem spec_l3same.calls (A0 : Option Addr) (c0 : Nat) (l0 : List Int) (A1 : Option Addr) (c1 : Nat) (l1 : List Int) (r : Bool) (w : World) (hr0 : Kd.C (Kd.int .u8) w A0 l0.length l0) (hc0 : l0.length ≤ c0) (hr1 : Kd.C (Kd.int .u8) w A1 l1.length l1) (hc1 : l1.length ≤ c1) (h : spec_l3same.f l0 l1 = some r) :
  Calls Tryz.prog 55 #[.slice A0 l0.length c0, .slice A1 l1.length c1] w fun e w' => e = .returned (.bool r) ∧ Drawn0 w w' := by
 have HR0 := Aside0.mk hr0
 have HC0 := Aside0.mk hc0
 clear hr0 hc0
 have HR1 := Aside0.mk hr1
 have HC1 := Aside0.mk hc1
 clear hr1 hc1
 have H : (some ((strOfNums l0).toList == (strOfNums l1).toList)) = some r := h
 clear h
 obtain rfl := Option.some.inj H
 have hcv3 := Kd.C_string (P := Tryz.prog) (A := A0) (c := c0) Tryz.underlying38 Tryz.underlying5 Tryz.underlying9 HR0.out
 have hcv4 := Kd.C_string (P := Tryz.prog) (A := A1) (c := c1) Tryz.underlying38 Tryz.underlying5 Tryz.underlying9 HR1.out
 go_enter Tryz.func55, Tryz.ntmps55
 go_wp2
 go_ret
 exact ⟨by first | rfl | (simp; done) | (simp [*]; done), by repeat (first | exact Drawn0.refl _ | apply Drawn0.step)⟩
end
section
attribute [local go_sem] max2_int max_two
set_option linter.unusedVariables false
set_option linter.unusedSimpArgs false
def spec_l3node.l0 : Nat → List Int → Int → Int → Int → Int → Int → List (S90) → List (S93) → Option (Int)
 | 0, _, _, _, _, _, _, _, _ => none
 | k + 1, x1, x5, x146000, x146001, x146002, x146003, x146004, x146005 => if x5 < (x146005.length : Int) then (if 0 ≤ x5 then ((spec_l3same.f ((rd_T93 x146005 x5).f0) x1).bind fun t147 => (if t147 = true then (some x5) else (spec_l3node.l0 k x1 (wrap64 (x5 + 1)) x146000 x146001 x146002 x146003 x146004 x146005))) else (none)) else (some (-1))
def spec_l3node.f (k : Nat) (a0_0 : Int) (a0_1 : Int) (a0_2 : Int) (a0_3 : Int) (l0_4 : List (S90)) (l0_5 : List (S93)) (l1 : List Int) : Option (Int) := spec_l3node.l0 k l1 0 a0_0 a0_1 a0_2 a0_3 l0_4 l0_5
set_option maxHeartbeats 8000000 in
set_option maxRecDepth 100000 in
theorem spec_l3node.calls (k : Nat) (a0_0 : Int) (a0_1 : Int) (a0_2 : Int) (a0_3 : Int) (A0_4 : Option Addr) (c0_4 : Nat) (l0_4 : List (S90)) (A0_5 : Option Addr) (c0_5 : Nat) (l0_5 : List (S93)) (A1 : Option Addr) (c1 : Nat) (l1 : List Int) (r : Int) (w : World) (hr0_4 : Kd.C k90 w A0_4 l0_4.length l0_4) (hc0_4 : l0_4.length ≤ c0_4) (hr0_5 : Kd.C k93 w A0_5 l0_5.length l0_5) (hc0_5 : l0_5.length ≤ c0_5) (hr1 : Kd.C (Kd.int .u8) w A1 l1.length l1) (hc1 : l1.length ≤ c1) (h : spec_l3node.f k a0_0 a0_1 a0_2 a0_3 l0_4 l0_5 l1 = some r) :
  Calls Tryz.prog 155 #[.agg #[.int .u64 a0_0, .int .u64 a0_1, .int .u64 a0_2, .int .i64 a0_3, .slice A0_4 l0_4.length c0_4, .slice A0_5 l0_5.length c0_5], .slice A1 l1.length c1] w fun e w' => e = .returned (.int .i64 r) ∧ Below w.heap.size w w' := by
 have hu31 := Tryz.underlying31
 have HR0_4 := Aside0.mk hr0_4
 have HC0_4 := Aside0.mk hc0_4
 clear hr0_4 hc0_4
 have HR0_5 := Aside0.mk hr0_5
 have HC0_5 := Aside0.mk hc0_5
 clear hr0_5 hc0_5
 have HR1 := Aside0.mk hr1
 have HC1 := Aside0.mk hc1
 clear hr1 hc1
 have HB := Aside0.mk (Below.refl w.heap.size w)
 have H : (spec_l3node.l0 k l1 0 a0_0 a0_1 a0_2 a0_3 l0_4 l0_5) = some r := h
 clear h
 have H' := Aside0.mk H
 clear H
 go_enter Tryz.func155, Tryz.ntmps155
 go_wp2_with (first | ((with_reducible refine gate_dst (N := 2) rfl ?_); refine box_event ?hg (N := 2) ?hd (cs := #[.int .u64 a0_0, .int .u64 a0_1, .int .u64 a0_2, .int .i64 a0_3, .slice A0_4 l0_4.length c0_4, .slice A0_5 l0_5.length c0_5]) (t := 31) ?hr ?_; (case hd => rfl); (case hg => rfl); (case hr => first | (go_simp; done) | (go_simp; rfl)); intro gb145 hg w3 hbox hb; have n0_ := Aside0.mk (below_step (by repeat (first | (with_reducible first | exact HB.out | apply below_alloc | apply pw_below_drewN | apply below_drew1) | exact HB.out)) hb); have n1_ := Aside0.mk (hbox); have n2_ := Aside0.mk ((by rw [hg]; exact (below_size (by repeat (first | (with_reducible first | exact HB.out | apply below_alloc | apply pw_below_drewN | apply below_drew1) | exact HB.out))) : w.heap.size ≤ gb145)); have n3_ := Aside0.mk ((by rw [hg]; exact (below_size (by repeat (first | (with_reducible first | exact HB.out | apply below_alloc | apply pw_below_drewN | apply below_drew1) | exact HB.out))) : w.heap.size ≤ gb145)); clear HB; have HB := n0_; have BK145 := n1_; have GW145 := n2_; have GE145 := n3_; clear n0_ n1_ n2_ n3_; clear hb hbox hg))
 go_loopg [5] k (fun kq v5 w' => ∃ (x5_1 : Int), v5 = .int .i64 x5_1 ∧ Aside0 (spec_l3node.l0 kq l1 x5_1 a0_0 a0_1 a0_2 a0_3 l0_4 l0_5 = some r) ∧ Aside0 (kq ≤ k) ∧ Aside0 (w'.heap[gb145]? = some (.cells #[.int .u64 a0_0, .int .u64 a0_1, .int .u64 a0_2, .int .i64 a0_3, (.slice A0_4 l0_4.length c0_4), (.slice A0_5 l0_5.length c0_5)] 31 (0, 0))) ∧ Aside0 (Below w.heap.size w w'))
 case atStart => exact ⟨(0), (by first | rfl | (simp; done) | (simp [*]; done)), H', ⟨Nat.le_refl _⟩, ⟨by (with_reducible repeat (first | refine blk_drewN ?_ _ | refine blk_drew ?_ | refine blk_alloc ?_ _)); exact BK145.out⟩, ⟨by repeat (first | (with_reducible first | exact HB.out | apply below_alloc | apply pw_below_drewN | apply below_drew1 | refine below_set ?_ GE145.out) | exact HB.out)⟩⟩
 case round =>
  clear H'
  try clear c1
  try clear p2
  obtain ⟨x5_1, rfl, HA, HK1, BK145, HB⟩ := hrel
  cases gk with
  | zero => exact absurd HA.out (by simp [spec_l3node.l0])
  | succ k1 =>
   have H := HA.out
   clear HA
   simp only [spec_l3node.l0] at H
   by_cases c4 : x5_1 < (l0_5.length : Int)
   ·
    rw [if_pos c4] at H
    have c4b0 : decide (x5_1 < (l0_5.length : Int)) = true := decide_eq_true c4
    clear c4
    by_cases c5 : 0 ≤ x5_1
    ·
     rw [if_pos c5] at H
     have c5b0 : decide (0 ≤ x5_1) = true := decide_eq_true c5
     clear c5
     replace H := Option.bind_eq_some_iff.mp H
     obtain ⟨t147, A60, H⟩ := H
     replace H : (if t147 = true then (some x5_1) else (spec_l3node.l0 k1 l1 (wrap64 (x5_1 + 1)) a0_0 a0_1 a0_2 a0_3 l0_4 l0_5)) = some r := H
     have A6 := Aside0.mk A60
     clear A60
     by_cases c7 : t147 = true
     ·
      subst c7
      have H1 : (some x5_1) = some r := by first | rfl | (rw [if_pos rfl] at H; exact H)
      clear H
      have H := H1
      clear H1
      obtain rfl := Option.some.inj H
      have hcz8_0 : wr.cell? ⟨gb145, 0, none⟩ = some (.int .u64 a0_0) := (blk_cell BK145.out 0).trans rfl
      have hcz8_1 : wr.cell? ⟨gb145, 1, none⟩ = some (.int .u64 a0_1) := (blk_cell BK145.out 1).trans rfl
      have hcz8_2 : wr.cell? ⟨gb145, 2, none⟩ = some (.int .u64 a0_2) := (blk_cell BK145.out 2).trans rfl
      have hcz8_3 : wr.cell? ⟨gb145, 3, none⟩ = some (.int .i64 a0_3) := (blk_cell BK145.out 3).trans rfl
      have hcz8_4 : wr.cell? ⟨gb145, 4, none⟩ = some (.slice A0_4 l0_4.length c0_4) := (blk_cell BK145.out 4).trans rfl
      have hcz8_5 : wr.cell? ⟨gb145, 5, none⟩ = some (.slice A0_5 l0_5.length c0_5) := (blk_cell BK145.out 5).trans rfl
      have hfz8_0 := blk_frozen BK145.out 0
      have hfz8_1 := blk_frozen BK145.out 1
      have hfz8_2 := blk_frozen BK145.out 2
      have hfz8_3 := blk_frozen BK145.out 3
      have hfz8_4 := blk_frozen BK145.out 4
      have hfz8_5 := blk_frozen BK145.out 5
      have p146 : 0 ≤ (x5_1 : Int) := of_decide_eq_true (by first | (with_reducible assumption) | assumption)
      have q146 : x5_1 < (l0_5.length : Int) := of_decide_eq_true (by first | (with_reducible assumption) | assumption)
      obtain ⟨ad146, A146_0, c146_0, A146_1, c146_1, A146_4, c146_4, A146_7, c146_7, e146, hx146_0, hx146_1, hx146_2, hx146_3, hx146_4, hx146_5, hx146_6, hx146_7, hl146_0, hi146_0, hl146_1, hi146_1, hl146_4, hi146_4, hl146_7, hi146_7⟩ := at_T93 HR0_5.out x5_1 p146 q146
      cases e146
      replace hx146_0 := (HB.out.cell (World.block_lt_of_cell? w _ hx146_0)).trans hx146_0
      replace hx146_1 := (HB.out.cell (World.block_lt_of_cell? w _ hx146_1)).trans hx146_1
      replace hx146_2 := (HB.out.cell (World.block_lt_of_cell? w _ hx146_2)).trans hx146_2
      replace hx146_3 := (HB.out.cell (World.block_lt_of_cell? w _ hx146_3)).trans hx146_3
      replace hx146_4 := (HB.out.cell (World.block_lt_of_cell? w _ hx146_4)).trans hx146_4
      replace hx146_5 := (HB.out.cell (World.block_lt_of_cell? w _ hx146_5)).trans hx146_5
      replace hx146_6 := (HB.out.cell (World.block_lt_of_cell? w _ hx146_6)).trans hx146_6
      replace hx146_7 := (HB.out.cell (World.block_lt_of_cell? w _ hx146_7)).trans hx146_7
      have HR146_0 := Aside0.mk hi146_0
      have HC146_0 := Aside0.mk hl146_0
      clear hi146_0 hl146_0
      have HR146_1 := Aside0.mk hi146_1
      have HC146_1 := Aside0.mk hl146_1
      clear hi146_1 hl146_1
      have HR146_4 := Aside0.mk hi146_4
      have HC146_4 := Aside0.mk hl146_4
      clear hi146_4 hl146_4
      have HR146_7 := Aside0.mk hi146_7
      have HC146_7 := Aside0.mk hl146_7
      clear hi146_7 hl146_7
      replace p146 := eq_true p146
      replace q146 := eq_true q146
      go_wp2_with (first | ((with_reducible refine gate_callee (f := 55) rfl ?_); refine goesL_ (some 20) rfl rfl Tryz.func55 (by kernel_rfl) rfl #[.slice A146_0 ((rd_T93 l0_5 x5_1).f0).length c146_0, .slice A1 l1.length c1] rfl (by (try simp only [List.map_toArray, List.map_cons, List.map_nil]); first | done | rfl | (simp only [List.length_drop, List.length_take]; rfl)) ?_; (with_reducible refine (spec_l3same.calls _ _ ((rd_T93 l0_5 x5_1).f0) _ _ l1 true _ ?side1 ?side2 ?side3 ?side4 A6.out).mono ?_); (case side1 => repeat (first | exact (Kd.C_below HR146_0.out HB.out) | (with_reducible refine Kd.C_alloc ?_ _) | (with_reducible refine Kd.C_drewN ?_ _) | (with_reducible refine Kd.C_drew ?_))); (case side2 => exact HC146_0.out); (case side3 => repeat (first | exact (Kd.C_below HR1.out HB.out) | (with_reducible refine Kd.C_alloc ?_ _) | (with_reducible refine Kd.C_drewN ?_ _) | (with_reducible refine Kd.C_drew ?_))); (case side4 => exact HC1.out); rintro e w' ⟨rfl, ⟨nd, rfl⟩⟩; refine ⟨_, rfl, ?_⟩))
      go_ret
      exact ⟨by first | rfl | (simp [errW_none, errW_some] <;> rfl) | (simp [*, errW_none, errW_some] <;> rfl), by repeat (first | (with_reducible first | exact HB.out | apply below_alloc | apply pw_below_drewN | apply below_drew1 | refine below_set ?_ GE145.out) | exact HB.out)⟩
     ·
      replace c7 := Bool.eq_false_iff.mpr c7
      subst c7
      have H1 : (spec_l3node.l0 k1 l1 (wrap64 (x5_1 + 1)) a0_0 a0_1 a0_2 a0_3 l0_4 l0_5) = some r := by first | rfl | (rw [if_neg (show ¬ (false = true) by decide)] at H; exact H)
      clear H
      have H := H1
      clear H1
      have H' := Aside0.mk H
      clear H
      have hcz9_0 : wr.cell? ⟨gb145, 0, none⟩ = some (.int .u64 a0_0) := (blk_cell BK145.out 0).trans rfl
      have hcz9_1 : wr.cell? ⟨gb145, 1, none⟩ = some (.int .u64 a0_1) := (blk_cell BK145.out 1).trans rfl
      have hcz9_2 : wr.cell? ⟨gb145, 2, none⟩ = some (.int .u64 a0_2) := (blk_cell BK145.out 2).trans rfl
      have hcz9_3 : wr.cell? ⟨gb145, 3, none⟩ = some (.int .i64 a0_3) := (blk_cell BK145.out 3).trans rfl
      have hcz9_4 : wr.cell? ⟨gb145, 4, none⟩ = some (.slice A0_4 l0_4.length c0_4) := (blk_cell BK145.out 4).trans rfl
      have hcz9_5 : wr.cell? ⟨gb145, 5, none⟩ = some (.slice A0_5 l0_5.length c0_5) := (blk_cell BK145.out 5).trans rfl
      have hfz9_0 := blk_frozen BK145.out 0
      have hfz9_1 := blk_frozen BK145.out 1
      have hfz9_2 := blk_frozen BK145.out 2
      have hfz9_3 := blk_frozen BK145.out 3
      have hfz9_4 := blk_frozen BK145.out 4
      have hfz9_5 := blk_frozen BK145.out 5
      have p146 : 0 ≤ (x5_1 : Int) := of_decide_eq_true (by first | (with_reducible assumption) | assumption)
      have q146 : x5_1 < (l0_5.length : Int) := of_decide_eq_true (by first | (with_reducible assumption) | assumption)
      obtain ⟨ad146, A146_0, c146_0, A146_1, c146_1, A146_4, c146_4, A146_7, c146_7, e146, hx146_0, hx146_1, hx146_2, hx146_3, hx146_4, hx146_5, hx146_6, hx146_7, hl146_0, hi146_0, hl146_1, hi146_1, hl146_4, hi146_4, hl146_7, hi146_7⟩ := at_T93 HR0_5.out x5_1 p146 q146
      cases e146
      replace hx146_0 := (HB.out.cell (World.block_lt_of_cell? w _ hx146_0)).trans hx146_0
      replace hx146_1 := (HB.out.cell (World.block_lt_of_cell? w _ hx146_1)).trans hx146_1
      replace hx146_2 := (HB.out.cell (World.block_lt_of_cell? w _ hx146_2)).trans hx146_2
      replace hx146_3 := (HB.out.cell (World.block_lt_of_cell? w _ hx146_3)).trans hx146_3
      replace hx146_4 := (HB.out.cell (World.block_lt_of_cell? w _ hx146_4)).trans hx146_4
      replace hx146_5 := (HB.out.cell (World.block_lt_of_cell? w _ hx146_5)).trans hx146_5
      replace hx146_6 := (HB.out.cell (World.block_lt_of_cell? w _ hx146_6)).trans hx146_6
      replace hx146_7 := (HB.out.cell (World.block_lt_of_cell? w _ hx146_7)).trans hx146_7
      have HR146_0 := Aside0.mk hi146_0
      have HC146_0 := Aside0.mk hl146_0
      clear hi146_0 hl146_0
      have HR146_1 := Aside0.mk hi146_1
      have HC146_1 := Aside0.mk hl146_1
      clear hi146_1 hl146_1
      have HR146_4 := Aside0.mk hi146_4
      have HC146_4 := Aside0.mk hl146_4
      clear hi146_4 hl146_4
      have HR146_7 := Aside0.mk hi146_7
      have HC146_7 := Aside0.mk hl146_7
      clear hi146_7 hl146_7
      replace p146 := eq_true p146
      replace q146 := eq_true q146
      go_wp2_with (first | ((with_reducible refine gate_callee (f := 55) rfl ?_); refine goesL_ (some 20) rfl rfl Tryz.func55 (by kernel_rfl) rfl #[.slice A146_0 ((rd_T93 l0_5 x5_1).f0).length c146_0, .slice A1 l1.length c1] rfl (by (try simp only [List.map_toArray, List.map_cons, List.map_nil]); first | done | rfl | (simp only [List.length_drop, List.length_take]; rfl)) ?_; (with_reducible refine (spec_l3same.calls _ _ ((rd_T93 l0_5 x5_1).f0) _ _ l1 false _ ?side1 ?side2 ?side3 ?side4 A6.out).mono ?_); (case side1 => repeat (first | exact (Kd.C_below HR146_0.out HB.out) | (with_reducible refine Kd.C_alloc ?_ _) | (with_reducible refine Kd.C_drewN ?_ _) | (with_reducible refine Kd.C_drew ?_))); (case side2 => exact HC146_0.out); (case side3 => repeat (first | exact (Kd.C_below HR1.out HB.out) | (with_reducible refine Kd.C_alloc ?_ _) | (with_reducible refine Kd.C_drewN ?_ _) | (with_reducible refine Kd.C_drew ?_))); (case side4 => exact HC1.out); rintro e w' ⟨rfl, ⟨nd, rfl⟩⟩; refine ⟨_, rfl, ?_⟩))
      go_roundg k1
      case measure => have := HK1.out; omega
      case rel => exact ⟨(wrap64 (x5_1 + 1)), (by first | rfl | (simp; done) | (simp [*]; done)), H', ⟨by have := HK1.out; omega⟩, ⟨by (with_reducible repeat (first | refine blk_drewN ?_ _ | refine blk_drew ?_ | refine blk_alloc ?_ _)); exact BK145.out⟩, ⟨by repeat (first | (with_reducible first | exact HB.out | apply below_alloc | apply pw_below_drewN | apply below_drew1 | refine below_set ?_ GE145.out) | exact HB.out)⟩⟩
    ·
     rw [if_neg c5] at H
     exact absurd H (by simp)
   ·
    rw [if_neg c4] at H
    have c4b0 : decide (x5_1 < (l0_5.length : Int)) = false := decide_eq_false c4
    clear c4
    obtain rfl := Option.some.inj H
    have hcz10_0 : wr.cell? ⟨gb145, 0, none⟩ = some (.int .u64 a0_0) := (blk_cell BK145.out 0).trans rfl
    have hcz10_1 : wr.cell? ⟨gb145, 1, none⟩ = some (.int .u64 a0_1) := (blk_cell BK145.out 1).trans rfl
    have hcz10_2 : wr.cell? ⟨gb145, 2, none⟩ = some (.int .u64 a0_2) := (blk_cell BK145.out 2).trans rfl
    have hcz10_3 : wr.cell? ⟨gb145, 3, none⟩ = some (.int .i64 a0_3) := (blk_cell BK145.out 3).trans rfl
    have hcz10_4 : wr.cell? ⟨gb145, 4, none⟩ = some (.slice A0_4 l0_4.length c0_4) := (blk_cell BK145.out 4).trans rfl
    have hcz10_5 : wr.cell? ⟨gb145, 5, none⟩ = some (.slice A0_5 l0_5.length c0_5) := (blk_cell BK145.out 5).trans rfl
    have hfz10_0 := blk_frozen BK145.out 0
    have hfz10_1 := blk_frozen BK145.out 1
    have hfz10_2 := blk_frozen BK145.out 2
    have hfz10_3 := blk_frozen BK145.out 3
    have hfz10_4 := blk_frozen BK145.out 4
    have hfz10_5 := blk_frozen BK145.out 5
    go_wp2
    go_ret
    exact ⟨by first | rfl | (simp [errW_none, errW_some] <;> rfl) | (simp [*, errW_none, errW_some] <;> rfl), by repeat (first | (with_reducible first | exact HB.out | apply below_alloc | apply pw_below_drewN | apply below_drew1 | refine below_set ?_ GE145.out) | exact HB.out)⟩
end
theorem slash_const (w : World) : Kd.C (Kd.int .u8) (w.alloc (.cells #[.int .u8 47] 5 (1, 2))) (some ⟨w.heap.size, 0, none⟩) [(47 : Int)].length [47] :=
 Kd.C_of_reads (d := (0 : Int)) (h1 := fun _ => rfl) ⟨rfl, by simp, fun _ => ⟨⟨w.heap.size, 0, none⟩, rfl, fun j hj => by
  obtain rfl : j = 0 := by simpa using hj
  exact World.cell?_alloc_mark w #[.int .u8 47] 5 (1, 2) 0⟩⟩
set_option maxHeartbeats 4000000 in
set_option maxRecDepth 100000 in
theorem spec_parent_calls (A : Option Addr) (c : Nat) (p : List Int) (w : World) (h : Kd.C (Kd.int .u8) w A p.length p) (hc : p.length ≤ c) (hl : p.length ≤ 2097152) :
  Calls Tryz.prog 120 #[.slice A p.length c] w fun e w' => ∃ B d, e = .returned (.slice B (parentL p).length d) ∧ (parentL p).length ≤ d ∧ Kd.C (Kd.int .u8) w' B (parentL p).length (parentL p) ∧ Below w.heap.size w w' := by
 have HR := Aside0.mk h
 have HL := Aside0.mk (And.intro hc hl)
 have kc := fun (w : World) (C : Array Value) (n c : Nat) => Lib.run_convert_bytes_const (P := Tryz.prog) w 38 5 C n c Tryz.underlying38 Tryz.underlying5
 obtain ⟨i0, hi0, _, hsz0, _⟩ := info_parts info5
 have HCUT := Aside0.mk (fun (j : Int) (h0 : 0 ≤ j) (hm : j ≤ p.length) => print_take_of (P := Tryz.prog) (Value.int .u8) 0 38 5 .i64 Tryz.underlying38 hi0 hsz0 A c p j h0 hm hc)
 clear h hc hi0 hsz0
 go_enter Tryz.func120, Tryz.ntmps120
 go_wp2_with fail
 go_loop [3, 4] (fun v3 v4 => ∃ a i : Nat, v3 = .int .i64 a ∧ v4 = .int .i64 i ∧ Aside0 (i ≤ p.length ∧ a ≤ p.length) ∧ Aside0 (lastFrom p 0 0 = lastFrom (p.drop i) i a)) (fun _ v4 => p.length - (intOf v4).toNat)
 case atStart => exact ⟨0, 0, rfl, rfl, ⟨⟨by omega, by omega⟩⟩, ⟨rfl⟩⟩
 case round =>
  obtain ⟨a, i, rfl, rfl, HJ, HV⟩ := hrel
  have hj0 := HJ.out
  by_cases hj : i < p.length
  ·
   have c1 : decide ((i : Int) < (p.length : Int)) = true := decide_eq_true (by omega)
   have ci : (0 : Int) ≤ (i : Int) := by omega
   have ci2 : (i : Int) < (p.length : Int) := by omega
   obtain ⟨ad, rfl, hx⟩ := Kd.at_int HR.out (i : Int) (by omega) (by omega)
   rw [Int.toNat_natCast, rd_nat, getD_at p i hj] at hx
   have HN := Aside0.mk (show lastFrom p 0 0 = lastFrom (p.drop (i + 1)) (i + 1) (if p[i] = 47 then i else a) by rw [HV.out, List.drop_eq_getElem_cons hj, lastFrom])
   obtain ⟨x, hxx⟩ : ∃ x, p[i] = x := ⟨_, rfl⟩
   rw [hxx] at hx HN
   clear HV hxx HCUT kc
   by_cases h47 : x = 47
   ·
    subst h47
    have HN := Aside0.mk (show lastFrom p 0 0 = lastFrom (p.drop (i + 1)) (i + 1) i by rw [HN.out, if_pos rfl])
    go_wp2_with fail
    go_round
    case rel => exact ⟨i, i + 1, rfl, by go_num, ⟨⟨by omega, by omega⟩⟩, HN⟩
    case measure => simp [intOf]; omega
   ·
    have d2 : decide (x = 47) = false := decide_eq_false h47
    have d3 : (x == 47) = false := by rw [beq_eq_false_iff_ne]; exact h47
    have HN := Aside0.mk (show lastFrom p 0 0 = lastFrom (p.drop (i + 1)) (i + 1) a by rw [HN.out, if_neg h47])
    go_wp2_with fail
    go_round
    case rel => exact ⟨a, i + 1, rfl, by go_num, ⟨⟨by omega, by omega⟩⟩, HN⟩
    case measure => simp [intOf]; omega
  ·
   have c1 : decide ((i : Int) < (p.length : Int)) = false := decide_eq_false (by omega)
   have hi : i = p.length := by omega
   have HA := Aside0.mk (show lastFrom p 0 0 = a by rw [HV.out, hi, List.drop_length, lastFrom])
   have HC := HCUT.out (a : Int) (by omega) (by omega)
   have hcut := HC.1
   have HC2 := Aside0.mk HC.2
   rw [Int.toNat_natCast] at hcut HC2
   clear HC HCUT HV
   by_cases h0 : a = 0
   ·
    have d2 : decide ((a : Int) = 0) = true := decide_eq_true (by omega)
    have d3 : ((a : Int) == 0) = true := by rw [beq_iff_eq]; omega
    have HP := Aside0.mk (show parentL p = [47] by unfold parentL; rw [HA.out, if_pos h0])
    clear h0 hcut hi
    go_wp2_with fail
    go_ret
    rw [HP.out]
    exact ⟨some ⟨w.heap.size, 0, none⟩, 1, rfl, by simp, slash_const w, (Below.refl _ w).alloc (Nat.le_refl _) _⟩
   ·
    have d2 : decide ((a : Int) = 0) = false := decide_eq_false (by omega)
    have d3 : ((a : Int) == 0) = false := by rw [beq_eq_false_iff_ne]; omega
    have HP := Aside0.mk (show parentL p = p.take a by unfold parentL; rw [HA.out, if_neg h0])
    clear h0 hi
    go_wp2_with fail
    go_ret
    rw [HP.out]
    have hta : (p.take a).length = a := by rw [List.length_take]; have := hj0.2; omega
    exact ⟨A, c, by rw [hta]; rfl, HC2.out.2, Kd.C_of_reads (h1 := fun _ => rfl) (HC2.out.1 _ (Kd.reads_of_C HR.out)), Below.refl _ _⟩
theorem bytesOf_beq {a b : List Int} (ha : ∀ x ∈ a, 0 ≤ x ∧ x < 256) (hb : ∀ x ∈ b, 0 ≤ x ∧ x < 256) : (Lib.bytesOf a == Lib.bytesOf b) = (a == b) := by
 by_cases h : a = b
 ·
  rw [h, beq_self_eq_true, beq_self_eq_true]
 ·
  rw [beq_eq_false_iff_ne.2 h, beq_eq_false_iff_ne.2 (fun e => h (bytesOf_inj ha hb e))]
theorem same_f {a b : List Int} (ha : ∀ x ∈ a, 0 ≤ x ∧ x < 256) (hb : ∀ x ∈ b, 0 ≤ x ∧ x < 256) : spec_l3same.f a b = some (a == b) := by
 unfold spec_l3same.f
 rw [Lib.strOfNums_toList, Lib.strOfNums_toList, bytesOf_beq ha hb]
def ixOf (p : List Int) : List No → Nat → Option Nat
 | [], _ => none
 | n :: r, i => if n.f0 == p then some i else ixOf p r (i + 1)
theorem node_loop (p : List Int) (e g n t : Int) (xs : List Se) (ns : List No) (hl : ns.length ≤ 2097152) (hp : ∀ x ∈ p, 0 ≤ x ∧ x < 256) (hn : ∀ m ∈ ns, ∀ x ∈ m.f0, 0 ≤ x ∧ x < 256) : ∀ (d k i : Nat), i + d = ns.length → d < k →
  spec_l3node.l0 k p (i : Int) e g n t xs ns = some (match ixOf p (ns.drop i) i with | none => -1 | some j => (j : Int)) := by
 intro d
 induction d with
 | zero =>
  intro k i hi hk
  obtain ⟨k, rfl⟩ : ∃ m, k = m + 1 := ⟨k - 1, by omega⟩
  rw [spec_l3node.l0, if_neg (by omega), List.drop_eq_nil_of_le (by omega), ixOf]
 | succ d ih =>
  intro k i hi hk
  obtain ⟨k, rfl⟩ : ∃ m, k = m + 1 := ⟨k - 1, by omega⟩
  have hlt : i < ns.length := by omega
  have ex : rd_T93 ns (i : Int) = ns[i] := by unfold rd_T93; rw [Int.toNat_natCast, List.getD_eq_getElem?_getD, List.getElem?_eq_getElem hlt]; rfl
  rw [spec_l3node.l0, if_pos (by omega), if_pos (by omega), ex, same_f (hn _ (List.getElem_mem hlt)) hp, Option.bind_some, List.drop_eq_getElem_cons hlt, ixOf]
  by_cases c : (ns[i].f0 == p) = true
  ·
   rw [if_pos c, if_pos c]
  ·
   rw [if_neg c, if_neg c, wrap_up i (by omega), ih k (i + 1) (by omega) (by omega)]
theorem ixOf_find (p : List Int) : ∀ (ns : List No) (i : Nat), match ixOf p ns i with
  | none => ns.find? (fun n => n.f0 == p) = none
  | some j => i ≤ j ∧ j - i < ns.length ∧ ns.find? (fun n => n.f0 == p) = ns[j - i]?
 | [], i => by simp [ixOf]
 | n :: r, i => by
  rw [ixOf]
  by_cases c : (n.f0 == p) = true
  ·
   rw [if_pos c]
   simp only
   rw [show (n :: r).find? (fun n => n.f0 == p) = some n from by simp [List.find?_cons, c], Nat.sub_self]
   exact ⟨Nat.le_refl _, by simp, rfl⟩
  ·
   rw [if_neg c, show (n :: r).find? (fun n => n.f0 == p) = r.find? (fun n => n.f0 == p) from by simp [List.find?_cons, c]]
   have ih := ixOf_find p r (i + 1)
   cases hx : ixOf p r (i + 1) with
   | none => rw [hx] at ih; exact ih
   | some j =>
    rw [hx] at ih
    simp only at ih ⊢
    obtain ⟨h1, h2, h3⟩ := ih
    refine ⟨by omega, by simp; omega, ?_⟩
    rw [h3, show j - i = (j - (i + 1)) + 1 by omega, List.getElem?_cons_succ]
set_option maxHeartbeats 4000000 in
set_option maxRecDepth 100000 in
theorem spec_canParent_calls (e g n t : Int) (As : Option Addr) (cs : Nat) (xs : List Se) (An : Option Addr) (cn : Nat) (ns : List No) (A : Option Addr) (c : Nat) (p : List Int) (w : World) (h1 : Kd.C kSe w As xs.length xs) (hc1 : xs.length ≤ cs) (h2 : Kd.C kNo w An ns.length ns) (hc2 : ns.length ≤ cn) (h3 : Kd.C (Kd.int .u8) w A p.length p) (hc3 : p.length ≤ c) (hl : ns.length ≤ 2097152) (hp : ∀ x ∈ p, 0 ≤ x ∧ x < 256) (hn : ∀ m ∈ ns, ∀ x ∈ m.f0, 0 ≤ x ∧ x < 256) :
  Calls Tryz.prog 119 #[.agg #[.int .u64 e, .int .u64 g, .int .u64 n, .int .i64 t, .slice As xs.length cs, .slice An ns.length cn], .slice A p.length c] w fun r w' => r = .returned (.bool (canParB ns p)) ∧ Below w.heap.size w w' := by
 have HR := Aside0.mk (And.intro h1 (And.intro h2 h3))
 have HL := Aside0.mk (And.intro hc1 (And.intro hc2 hc3))
 have HN := Aside0.mk (node_loop p e g n t xs ns hl hp hn ns.length 3000000 0 (by omega) (by omega))
 have HF := Aside0.mk (ixOf_find p ns 0)
 have HS := Aside0.mk (same_f hp (show ∀ x ∈ [(47 : Int)], 0 ≤ x ∧ x < 256 by simp))
 have kc := fun (w : World) (C : Array Value) (n c : Nat) => Lib.run_convert_bytes_const (P := Tryz.prog) w 38 5 C n c Tryz.underlying38 Tryz.underlying5
 have kc2 := kc (w.alloc (.cells #[.int .u64 e, .int .u64 g, .int .u64 n, .int .i64 t, .slice As xs.length cs, .slice An ns.length cn] 31)) #[.int .u8 47] 1 1
 simp only [World.size_alloc] at kc2
 clear h1 hc1 h2 hc2 h3 hc3 hp hn kc
 go_enter Tryz.func119, Tryz.ntmps119
 go_wp2_with fail
 have hB := below_alloc (Below.refl w.heap.size w) (.cells #[.int .u64 e, .int .u64 g, .int .u64 n, .int .i64 t, .slice As xs.length cs, .slice An ns.length cn] 31)
 have b0 := blk_new w (.cells #[.int .u64 e, .int .u64 g, .int .u64 n, .int .i64 t, .slice As xs.length cs, .slice An ns.length cn] 31)
 have hWs : (w.alloc (.cells #[.int .u64 e, .int .u64 g, .int .u64 n, .int .i64 t, .slice As xs.length cs, .slice An ns.length cn] 31)).heap.size = w.heap.size + 1 := World.size_alloc _ _
 generalize (w.alloc (.cells #[.int .u64 e, .int .u64 g, .int .u64 n, .int .i64 t, .slice As xs.length cs, .slice An ns.length cn] 31)) = W at *
 have hsl := slash_const W
 rw [hWs] at hsl
 have hB2 : Below W.heap.size W (W.alloc (.cells #[.int .u8 47] 5 (1, 2))) := (Below.refl _ W).alloc (Nat.le_refl _) _
 have hB3 := below_step hB hB2
 obtain ⟨sb, hsb⟩ : ∃ sb, (p == [47]) = sb := ⟨_, rfl⟩
 rw [hsb] at HS
 have HSB := Aside0.mk hsb
 clear hsb
 refine (spec_l3same.calls A c p _ 1 [47] sb _ (Kd.C_below HR.out.2.2 hB3) HL.out.2.2 hsl (Nat.le_refl _) HS.out).mono ?_
 rintro r w2 ⟨rfl, hdr⟩
 have HB := Aside0.mk (below_step hB3 hdr.below)
 have BX := Aside0.mk (blk_below (blk_below b0 hB2) hdr.below)
 clear hdr hB hB2 hB3 b0 hsl hWs kc2
 cases sb with
 | true =>
  go_wp2_with fail
  go_ret
  rw [show canParB ns p = true by unfold canParB; rw [HSB.out]; rfl]
  exact ⟨rfl, HB.out⟩
 | false =>
  have z0 := blk_cell BX.out 0
  have z1 := blk_cell BX.out 1
  have z2 := blk_cell BX.out 2
  have z3 := blk_cell BX.out 3
  have z4 := blk_cell BX.out 4
  have z5 := blk_cell BX.out 5
  simp only [List.getElem?_toArray, List.getElem?_cons_zero, List.getElem?_cons_succ] at z0 z1 z2 z3 z4 z5
  have HC := Aside0.mk (show canParB ns p = match ns.find? (fun n => n.f0 == p) with | none => false | some n => n.f2 == 0 by unfold canParB; rw [HSB.out, Bool.false_or]; try (cases ns.find? (fun n => n.f0 == p) <;> rfl))
  clear HSB
  go_wp2_with fail
  refine (spec_l3node.calls 3000000 e g n t As cs xs An cn ns A c p _ _ (Kd.C_below HR.out.1 HB.out) HL.out.1 (Kd.C_below HR.out.2.1 HB.out) HL.out.2.1 (Kd.C_below HR.out.2.2 HB.out) HL.out.2.2 HN.out).mono ?_
  rintro r w3 ⟨rfl, hb⟩
  have HB2 := Aside0.mk (below_step HB.out hb)
  have BX2 := Aside0.mk (blk_below BX.out hb)
  clear hb HB BX z0 z1 z2 z3 z4 z5
  have z5 := blk_cell BX2.out 5
  simp only [List.getElem?_toArray, List.getElem?_cons_zero, List.getElem?_cons_succ] at z5
  rw [List.drop_zero]
  cases hx : ixOf p ns 0 with
  | none =>
   have hf := HF.out
   rw [hx] at hf
   simp only at hf
   have HC2 := Aside0.mk (show canParB ns p = false by rw [HC.out, hf])
   clear hf HC hx HF HN
   go_wp2_with fail
   go_ret
   rw [HC2.out]
   exact ⟨rfl, HB2.out⟩
  | some j =>
   have hf := HF.out
   rw [hx] at hf
   simp only at hf
   obtain ⟨_, hj, hfj⟩ := hf
   rw [Nat.sub_zero] at hj hfj
   have HC2 := Aside0.mk (show canParB ns p = (ns[j].f2 == 0) by rw [HC.out, hfj, List.getElem?_eq_getElem hj])
   have cj : (0 : Int) ≤ (j : Int) := by omega
   have cj2 : (j : Int) < (ns.length : Int) := by omega
   obtain ⟨ad, A0, c0_, A1, c1_, A4, c4_, A7, c7_, eA, hx0, hx1, hx2, _⟩ := at_T93 HR.out.2.1 (j : Int) (by omega) (by omega)
   have ex : rd_T93 ns (j : Int) = ns[j] := by unfold rd_T93; rw [Int.toNat_natCast, List.getD_eq_getElem?_getD, List.getElem?_eq_getElem hj]; rfl
   rw [ex] at hx2
   cases eA
   replace hx2 := (HB2.out.cell (World.block_lt_of_cell? w _ hx2)).trans hx2
   rw [Int.toNat_natCast] at hx2
   obtain ⟨x, hxx⟩ : ∃ x, ns[j].f2 = x := ⟨_, rfl⟩
   rw [hxx] at hx2 HC2
   clear hxx ex hx0 hx1 HC hx HF HN hfj
   go_wp2_with fail
   go_ret
   rw [HC2.out]
   exact ⟨rfl, HB2.out⟩
section
attribute [local go_sem] max2_int max_two
set_option linter.unusedVariables false
set_option linter.unusedSimpArgs false
theorem info38 : (Tryz.prog.info? 38).map (fun i => (i.zero, i.size, i.bytes)) = some (some (.slice none 0 0), 1, 24) := by kernel_rfl
end
section
attribute [local go_sem] max2_int max_two
set_option linter.unusedVariables false
set_option linter.unusedSimpArgs false
def spec_l3nameByte.f (a0 : Int) : Option (Bool) := if a0 ≥ 97 then (if a0 ≤ 122 then (some true) else (if a0 ≥ 48 then (if a0 ≤ 57 then (some true) else (if a0 = 45 then (some true) else (some (a0 == 95)))) else (if a0 = 45 then (some true) else (some (a0 == 95))))) else (if a0 ≥ 48 then (if a0 ≤ 57 then (some true) else (if a0 = 45 then (some true) else (some (a0 == 95)))) else (if a0 = 45 then (some true) else (some (a0 == 95))))
set_option maxHeartbeats 8000000 in
set_option maxRecDepth 100000 in
theorem spec_l3nameByte.calls (a0 : Int) (r : Bool) (w : World) (h : spec_l3nameByte.f a0 = some r) :
  Calls Tryz.prog 175 #[.int .u8 a0] w fun e w' => e = .returned (.bool r) ∧ Drawn0 w w' := by
 have H : (if a0 ≥ 97 then (if a0 ≤ 122 then (some true) else (if a0 ≥ 48 then (if a0 ≤ 57 then (some true) else (if a0 = 45 then (some true) else (some (a0 == 95)))) else (if a0 = 45 then (some true) else (some (a0 == 95))))) else (if a0 ≥ 48 then (if a0 ≤ 57 then (some true) else (if a0 = 45 then (some true) else (some (a0 == 95)))) else (if a0 = 45 then (some true) else (some (a0 == 95))))) = some r := h
 clear h
 by_cases c2 : a0 ≥ 97
 ·
  rw [if_pos c2] at H
  have c2b0 : decide (97 ≤ a0) = true := decide_eq_true c2
  clear c2
  by_cases c3 : a0 ≤ 122
  ·
   rw [if_pos c3] at H
   have c3b0 : decide (a0 ≤ 122) = true := decide_eq_true c3
   clear c3
   obtain rfl := Option.some.inj H
   go_enter Tryz.func175, Tryz.ntmps175
   go_wp2
   go_ret
   exact ⟨by first | rfl | (simp; done) | (simp [*]; done), by repeat (first | exact Drawn0.refl _ | apply Drawn0.step)⟩
  ·
   rw [if_neg c3] at H
   have c3b0 : decide (a0 ≤ 122) = false := decide_eq_false c3
   clear c3
   by_cases c4 : a0 ≥ 48
   ·
    rw [if_pos c4] at H
    have c4b0 : decide (48 ≤ a0) = true := decide_eq_true c4
    clear c4
    by_cases c5 : a0 ≤ 57
    ·
     rw [if_pos c5] at H
     have c5b0 : decide (a0 ≤ 57) = true := decide_eq_true c5
     clear c5
     obtain rfl := Option.some.inj H
     go_enter Tryz.func175, Tryz.ntmps175
     go_wp2
     go_ret
     exact ⟨by first | rfl | (simp; done) | (simp [*]; done), by repeat (first | exact Drawn0.refl _ | apply Drawn0.step)⟩
    ·
     rw [if_neg c5] at H
     have c5b0 : decide (a0 ≤ 57) = false := decide_eq_false c5
     clear c5
     by_cases c6 : a0 = 45
     ·
      rw [if_pos c6] at H
      have c6b0 : (a0 == 45) = true := beq_iff_eq.mpr c6
      have c6b1 : (a0 != 45) = false := bne_eq_false_iff_eq.mpr c6
      clear c6
      obtain rfl := Option.some.inj H
      go_enter Tryz.func175, Tryz.ntmps175
      go_wp2
      go_ret
      exact ⟨by first | rfl | (simp; done) | (simp [*]; done), by repeat (first | exact Drawn0.refl _ | apply Drawn0.step)⟩
     ·
      rw [if_neg c6] at H
      have c6b0 : (a0 == 45) = false := beq_eq_false_iff_ne.mpr c6
      have c6b1 : (a0 != 45) = true := bne_iff_ne.mpr c6
      obtain rfl := Option.some.inj H
      go_enter Tryz.func175, Tryz.ntmps175
      go_wp2
      go_ret
      exact ⟨by first | rfl | (simp; done) | (simp [*]; done), by repeat (first | exact Drawn0.refl _ | apply Drawn0.step)⟩
   ·
    rw [if_neg c4] at H
    have c4b0 : decide (48 ≤ a0) = false := decide_eq_false c4
    clear c4
    by_cases c7 : a0 = 45
    ·
     rw [if_pos c7] at H
     have c7b0 : (a0 == 45) = true := beq_iff_eq.mpr c7
     have c7b1 : (a0 != 45) = false := bne_eq_false_iff_eq.mpr c7
     clear c7
     obtain rfl := Option.some.inj H
     go_enter Tryz.func175, Tryz.ntmps175
     go_wp2
     go_ret
     exact ⟨by first | rfl | (simp; done) | (simp [*]; done), by repeat (first | exact Drawn0.refl _ | apply Drawn0.step)⟩
    ·
     rw [if_neg c7] at H
     have c7b0 : (a0 == 45) = false := beq_eq_false_iff_ne.mpr c7
     have c7b1 : (a0 != 45) = true := bne_iff_ne.mpr c7
     obtain rfl := Option.some.inj H
     go_enter Tryz.func175, Tryz.ntmps175
     go_wp2
     go_ret
     exact ⟨by first | rfl | (simp; done) | (simp [*]; done), by repeat (first | exact Drawn0.refl _ | apply Drawn0.step)⟩
 ·
  rw [if_neg c2] at H
  have c2b0 : decide (97 ≤ a0) = false := decide_eq_false c2
  clear c2
  by_cases c8 : a0 ≥ 48
  ·
   rw [if_pos c8] at H
   have c8b0 : decide (48 ≤ a0) = true := decide_eq_true c8
   clear c8
   by_cases c9 : a0 ≤ 57
   ·
    rw [if_pos c9] at H
    have c9b0 : decide (a0 ≤ 57) = true := decide_eq_true c9
    clear c9
    obtain rfl := Option.some.inj H
    go_enter Tryz.func175, Tryz.ntmps175
    go_wp2
    go_ret
    exact ⟨by first | rfl | (simp; done) | (simp [*]; done), by repeat (first | exact Drawn0.refl _ | apply Drawn0.step)⟩
   ·
    rw [if_neg c9] at H
    have c9b0 : decide (a0 ≤ 57) = false := decide_eq_false c9
    clear c9
    by_cases c10 : a0 = 45
    ·
     rw [if_pos c10] at H
     have c10b0 : (a0 == 45) = true := beq_iff_eq.mpr c10
     have c10b1 : (a0 != 45) = false := bne_eq_false_iff_eq.mpr c10
     clear c10
     obtain rfl := Option.some.inj H
     go_enter Tryz.func175, Tryz.ntmps175
     go_wp2
     go_ret
     exact ⟨by first | rfl | (simp; done) | (simp [*]; done), by repeat (first | exact Drawn0.refl _ | apply Drawn0.step)⟩
    ·
     rw [if_neg c10] at H
     have c10b0 : (a0 == 45) = false := beq_eq_false_iff_ne.mpr c10
     have c10b1 : (a0 != 45) = true := bne_iff_ne.mpr c10
     obtain rfl := Option.some.inj H
     go_enter Tryz.func175, Tryz.ntmps175
     go_wp2
     go_ret
     exact ⟨by first | rfl | (simp; done) | (simp [*]; done), by repeat (first | exact Drawn0.refl _ | apply Drawn0.step)⟩
  ·
   rw [if_neg c8] at H
   have c8b0 : decide (48 ≤ a0) = false := decide_eq_false c8
   clear c8
   by_cases c11 : a0 = 45
   ·
    rw [if_pos c11] at H
    have c11b0 : (a0 == 45) = true := beq_iff_eq.mpr c11
    have c11b1 : (a0 != 45) = false := bne_eq_false_iff_eq.mpr c11
    clear c11
    obtain rfl := Option.some.inj H
    go_enter Tryz.func175, Tryz.ntmps175
    go_wp2
    go_ret
    exact ⟨by first | rfl | (simp; done) | (simp [*]; done), by repeat (first | exact Drawn0.refl _ | apply Drawn0.step)⟩
   ·
    rw [if_neg c11] at H
    have c11b0 : (a0 == 45) = false := beq_eq_false_iff_ne.mpr c11
    have c11b1 : (a0 != 45) = true := bne_iff_ne.mpr c11
    obtain rfl := Option.some.inj H
    go_enter Tryz.func175, Tryz.ntmps175
    go_wp2
    go_ret
    exact ⟨by first | rfl | (simp; done) | (simp [*]; done), by repeat (first | exact Drawn0.refl _ | apply Drawn0.step)⟩
end
section
attribute [local go_sem] max2_int max_two
set_option linter.unusedVariables false
set_option linter.unusedSimpArgs false
mutual
def spec_l3names.l0 : Nat → List Int → List (List Int) → Int → Option ((List (List Int)) × Bool)
  | 0, _, _, _ => none
  | k + 1, x0, x4, x5 => if x5 < (x0.length : Int) then (if 0 ≤ x5 then (if (rd x0 x5) = 47 then (spec_l3names.l1 k x0 x4 (wrap64 (x5 + 1)) ([] : List Int)) else (some (([] : List (List Int)), false))) else (none)) else (if (x4.length : Int) ≥ 1 then (some (x4, decide ((x4.length : Int) ≤ 8))) else (some (x4, false)))
def spec_l3names.l1 : Nat → List Int → List (List Int) → Int → List Int → Option ((List (List Int)) × Bool)
  | 0, _, _, _, _ => none
  | k + 1, x0, x4, x5, x6 => if x5 < (x0.length : Int) then (if 0 ≤ x5 then (spec_l3names.j2 k x0 x4 x5 x6 ((rd x0 x5) != 47)) else (none)) else (spec_l3names.j2 k x0 x4 x5 x6 false)
def spec_l3names.j2 : Nat → List Int → List (List Int) → Int → List Int → Bool → Option ((List (List Int)) × Bool)
  | 0, _, _, _, _, _ => none
  | k + 1, x0, x4, x5, x6, x28 => if x28 = true then (if 0 ≤ x5 then (if x5 < (x0.length : Int) then ((spec_l3nameByte.f (rd x0 x5)).bind fun t961 => (if t961 = true then (if x6.length < 140737488355328 then (spec_l3names.l1 k x0 x4 (wrap64 (x5 + 1)) (x6 ++ [rd x0 x5])) else (none)) else (some (([] : List (List Int)), false)))) else (none)) else (none)) else (if (x6.length : Int) < 1 then (some (([] : List (List Int)), false)) else (if (x6.length : Int) > 16 then (some (([] : List (List Int)), false)) else (if x4.length < 5864062014805 then (spec_l3names.l0 k x0 (x4 ++ [x6]) x5) else (none))))
end
def spec_l3names.f (k : Nat) (l0 : List Int) : Option ((List (List Int)) × Bool) := spec_l3names.l0 k l0 ([] : List (List Int)) 0
set_option maxHeartbeats 8000000 in
set_option maxRecDepth 100000 in
theorem spec_l3names.calls (k : Nat) (A0 : Option Addr) (c0 : Nat) (l0 : List Int) (r1 : List (List Int)) (r2 : Bool) (w : World) (hr0 : Kd.C (Kd.int .u8) w A0 l0.length l0) (hc0 : l0.length ≤ c0) (h : spec_l3names.f k l0 = some (r1, r2)) :
  Calls Tryz.prog 154 #[.slice A0 l0.length c0] w fun e w' => ∃ v0_ : Value, e = .returned (.tuple #[v0_, .bool r2]) ∧ Kd.S (Kd.slice 5 (Kd.int .u8)) 38 w' w.heap.size (fun _ => True) v0_ r1 ∧ Below w.heap.size w w' := by
 have HR0 := Aside0.mk hr0
 have HC0 := Aside0.mk hc0
 clear hr0 hc0
 have HB := Aside0.mk (Below.refl w.heap.size w)
 have H : (spec_l3names.l0 k l0 ([] : List (List Int)) 0) = some (r1, r2) := h
 clear h
 have H' := Aside0.mk H
 clear H
 go_enter Tryz.func154, Tryz.ntmps154
 go_wp2
 go_loopg [4, 5] k (fun kq v4 v5 w' => ∃ (x4_1 : List (List Int)) (x5_1 : Int), v5 = .int .i64 x5_1 ∧ Aside0 (spec_l3names.l0 kq l0 x4_1 x5_1 = some (r1, r2)) ∧ Aside0 (kq ≤ k) ∧ Aside0 (Kd.S (Kd.slice 5 (Kd.int .u8)) 38 w' w.heap.size (fun _ => True) v4 x4_1) ∧ Aside0 (Below w.heap.size w w'))
 case atStart => exact ⟨(([] : List (List Int))), (0), (by first | rfl | (simp; done) | (simp [*]; done)), H', ⟨Nat.le_refl _⟩, ⟨by first | exact Kd.S_nil _ _ _ _ _ | exact Kd.N_nil _ _ _ _ _ | exact Kd.V_nil _ _ _ _ _ | exact Kd.Q_nil _ _ _ _ _ | exact Kd.R_nil _ _ _ _ _⟩, ⟨by repeat (first | (with_reducible first | exact HB.out | apply below_alloc | apply pw_below_drewN | apply below_drew1) | exact HB.out)⟩⟩
 case round =>
  clear H'
  try clear c1
  obtain ⟨x4_1, x5_1, rfl, HA, HK1, HO_4, HB⟩ := hrel
  cases gk with
  | zero => exact absurd HA.out (by simp [spec_l3names.l0])
  | succ k1 =>
   have H := HA.out
   clear HA
   simp only [spec_l3names.l0] at H
   by_cases c2 : x5_1 < (l0.length : Int)
   ·
    rw [if_pos c2] at H
    have c2b0 : decide (x5_1 < (l0.length : Int)) = true := decide_eq_true c2
    clear c2
    by_cases c3 : 0 ≤ x5_1
    ·
     rw [if_pos c3] at H
     have c3b0 : decide (0 ≤ x5_1) = true := decide_eq_true c3
     clear c3
     by_cases c4 : (rd l0 x5_1) = 47
     ·
      rw [if_pos c4] at H
      have c4b0 : ((rd l0 x5_1) == 47) = true := beq_iff_eq.mpr c4
      have c4b1 : ((rd l0 x5_1) != 47) = false := bne_eq_false_iff_eq.mpr c4
      clear c4
      have H' := Aside0.mk H
      clear H
      have p958 : 0 ≤ (x5_1 : Int) := of_decide_eq_true (by first | (with_reducible assumption) | assumption)
      have q958 : x5_1 < (l0.length : Int) := of_decide_eq_true (by first | (with_reducible assumption) | assumption)
      obtain ⟨ad958, e958, hx958_0⟩ := Kd.at_int HR0.out x5_1 p958 q958
      cases e958
      replace hx958_0 := (HB.out.cell (World.block_lt_of_cell? w _ hx958_0)).trans hx958_0
      replace p958 := eq_true p958
      replace q958 := eq_true q958
      go_wp2
      go_loopg [5, 6] k1 (fun kq v5 v6 w' => ∃ (x5_2 : Int) (x6_2 : List Int), v5 = .int .i64 x5_2 ∧ Aside0 (spec_l3names.l1 kq l0 x4_1 x5_2 x6_2 = some (r1, r2)) ∧ Aside0 (kq ≤ k1) ∧ Aside0 (Kd.S (Kd.slice 5 (Kd.int .u8)) 38 w' w.heap.size (fun k_ => some k_ ≠ (v6 : Value).ownBlock) u4 x4_1) ∧ Aside0 (Kd.R (Kd.int .u8) 5 w' w.heap.size (fun _ => True) v6 x6_2) ∧ Aside0 (Below w.heap.size w w'))
      case atStart => exact ⟨(wrap64 (x5_1 + 1)), (([] : List Int)), (by first | rfl | (simp; done) | (simp [*]; done)), H', ⟨Nat.le_refl _⟩, ⟨by (with_reducible repeat (first | apply Kd.S_alloc | apply Kd.S_drewN | apply Kd.S_drew)); exact Kd.S_mono HO_4.out (fun _ hk => (by simp [Value.ownBlock]))⟩, ⟨by first | exact Kd.R_nil _ _ _ _ _ | exact Kd.N_nil _ _ _ _ _ | exact Kd.V_nil _ _ _ _ _ | exact Kd.Q_nil _ _ _ _ _ | exact Kd.S_nil _ _ _ _ _⟩, ⟨by repeat (first | (with_reducible first | exact HB.out | apply below_alloc | apply pw_below_drewN | apply below_drew1) | exact HB.out)⟩⟩
      case round =>
       clear H'
       try clear c1
       try clear c2
       try clear c2b0
       try clear p2
       try clear c3
       try clear c3b0
       try clear c4
       try clear c4b0
       try clear c4b1
       try clear hx958_0
       try clear p958
       try clear q958
       obtain ⟨x5_2, x6_2, rfl, HA, HK2, HO_4, HO_6, HB⟩ := hrel
       cases gk with
       | zero => exact absurd HA.out (by simp [spec_l3names.l1])
       | succ k2 =>
        have H := HA.out
        clear HA
        simp only [spec_l3names.l1] at H
        have HC5 := Aside0.mk H
        clear H
        go_upto_region 8 with (fail)
        go_cut [28] (fun v28 wc => ∃ (kq : Nat) (x28_4 : Bool), v28 = .bool x28_4 ∧ Aside0 (spec_l3names.j2 kq l0 x4_1 x5_2 x6_2 x28_4 = some (r1, r2)) ∧ Aside0 (kq ≤ k2) ∧ Aside0 (Kd.S (Kd.slice 5 (Kd.int .u8)) 38 wc w.heap.size (fun k_ => some k_ ≠ (u6 : Value).ownBlock) u4 x4_1) ∧ Aside0 (Kd.R (Kd.int .u8) 5 wc w.heap.size (fun _ => True) u6 x6_2) ∧ Aside0 (Below w.heap.size w wc))
        case first =>
         have H := HC5.out
         clear HC5
         by_cases c6 : x5_2 < (l0.length : Int)
         ·
          rw [if_pos c6] at H
          have c6b0 : decide (x5_2 < (l0.length : Int)) = true := decide_eq_true c6
          clear c6
          (first | rw [c6b0] | (simp only [i64_w, i32_w]; rw [c6b0]) | skip)
          by_cases c7 : 0 ≤ x5_2
          ·
           rw [if_pos c7] at H
           have c7b0 : decide (0 ≤ x5_2) = true := decide_eq_true c7
           clear c7
           have H' := Aside0.mk H
           clear H
           have p959 : 0 ≤ (x5_2 : Int) := of_decide_eq_true (by first | (with_reducible assumption) | assumption)
           have q959 : x5_2 < (l0.length : Int) := of_decide_eq_true (by first | (with_reducible assumption) | assumption)
           obtain ⟨ad959, e959, hx959_0⟩ := Kd.at_int HR0.out x5_2 p959 q959
           obtain rfl : ad958 = ad959 := (by injection e959)
           replace hx959_0 := (HB.out.cell (World.block_lt_of_cell? w _ hx959_0)).trans hx959_0
           replace p959 := eq_true p959
           replace q959 := eq_true q959
           go_wp2
           go_meet
           case rel => exact ⟨_, (((rd l0 x5_2) != 47)), (by first | rfl | (simp; done) | (simp [*]; done)), H', ⟨by have := HK1.out; have := HK2.out; first | omega | exact Nat.le_refl _⟩, ⟨by (with_reducible repeat (first | apply Kd.S_alloc | apply Kd.S_drewN | apply Kd.S_drew)); exact HO_4.out⟩, ⟨by (with_reducible repeat (first | apply Kd.R_alloc | apply Kd.R_drewN | apply Kd.R_drew)); exact HO_6.out⟩, ⟨by repeat (first | (with_reducible first | exact HB.out | apply below_alloc | apply pw_below_drewN | apply below_drew1) | exact HB.out)⟩⟩
          ·
           rw [if_neg c7] at H
           exact absurd H (by simp)
         ·
          rw [if_neg c6] at H
          have c6b0 : decide (x5_2 < (l0.length : Int)) = false := decide_eq_false c6
          clear c6
          (first | rw [c6b0] | (simp only [i64_w, i32_w]; rw [c6b0]) | skip)
          have H' := Aside0.mk H
          clear H
          go_wp2
          go_meet
          case rel => exact ⟨_, (false), (by first | rfl | (simp; done) | (simp [*]; done)), H', ⟨by have := HK1.out; have := HK2.out; first | omega | exact Nat.le_refl _⟩, ⟨by (with_reducible repeat (first | apply Kd.S_alloc | apply Kd.S_drewN | apply Kd.S_drew)); exact HO_4.out⟩, ⟨by (with_reducible repeat (first | apply Kd.R_alloc | apply Kd.R_drewN | apply Kd.R_drew)); exact HO_6.out⟩, ⟨by repeat (first | (with_reducible first | exact HB.out | apply below_alloc | apply pw_below_drewN | apply below_drew1) | exact HB.out)⟩⟩
        case rest =>
         clear HC5
         try clear c1
         try clear c2
         try clear c2b0
         try clear p2
         try clear c3
         try clear c3b0
         try clear c4
         try clear c4b0
         try clear c4b1
         try clear c6
         try clear c6b0
         try clear p6
         try clear c7
         try clear c7b0
         try clear hx958_0
         try clear hx959_0
         try clear p2
         try clear p958
         try clear p959
         try clear q958
         try clear q959
         obtain ⟨kq, x28_4, rfl, HA, HJ4, HO_4, HO_6, HB⟩ := hcut
         cases kq with
         | zero => exact absurd HA.out (by simp [spec_l3names.j2])
         | succ kj4 =>
          have H := HA.out
          clear HA
          simp only [spec_l3names.j2] at H
          by_cases c8 : x28_4 = true
          ·
           subst c8
           have H1 : (if 0 ≤ x5_2 then (if x5_2 < (l0.length : Int) then ((spec_l3nameByte.f (rd l0 x5_2)).bind fun t961 => (if t961 = true then (if x6_2.length < 140737488355328 then (spec_l3names.l1 kj4 l0 x4_1 (wrap64 (x5_2 + 1)) (x6_2 ++ [rd l0 x5_2])) else (none)) else (some (([] : List (List Int)), false)))) else (none)) else (none)) = some (r1, r2) := by first | rfl | (rw [if_pos rfl] at H; exact H)
           clear H
           have H := H1
           clear H1
           by_cases c9 : 0 ≤ x5_2
           ·
            rw [if_pos c9] at H
            have c9b0 : decide (0 ≤ x5_2) = true := decide_eq_true c9
            clear c9
            by_cases c10 : x5_2 < (l0.length : Int)
            ·
             rw [if_pos c10] at H
             have c10b0 : decide (x5_2 < (l0.length : Int)) = true := decide_eq_true c10
             clear c10
             replace H := Option.bind_eq_some_iff.mp H
             obtain ⟨t961, A110, H⟩ := H
             replace H : (if t961 = true then (if x6_2.length < 140737488355328 then (spec_l3names.l1 kj4 l0 x4_1 (wrap64 (x5_2 + 1)) (x6_2 ++ [rd l0 x5_2])) else (none)) else (some (([] : List (List Int)), false))) = some (r1, r2) := H
             have A11 := Aside0.mk A110
             clear A110
             by_cases c12 : t961 = true
             ·
              subst c12
              have H1 : (if x6_2.length < 140737488355328 then (spec_l3names.l1 kj4 l0 x4_1 (wrap64 (x5_2 + 1)) (x6_2 ++ [rd l0 x5_2])) else (none)) = some (r1, r2) := by first | rfl | (rw [if_pos rfl] at H; exact H)
              clear H
              have H := H1
              clear H1
              by_cases c13 : x6_2.length < 140737488355328
              ·
               rw [if_pos c13] at H
               have LMc13 := Aside0.mk c13
               clear c13
               obtain ⟨y963, hy963⟩ : ∃ y_ : List Int, y_ = (x6_2 ++ [rd l0 x5_2]) := ⟨_, rfl⟩
               replace H : (spec_l3names.l1 kj4 l0 x4_1 (wrap64 (x5_2 + 1)) y963) = some (r1, r2) := by first | (rw [hy963]; with_reducible exact H) | (have H2_ := (Option.bind_some _ _).symm.trans H; rw [hy963]; with_reducible exact H2_) | (have H2_ := (Option.bind_some _ _).symm.trans H; with_reducible exact H2_) | with_reducible exact H | (rw [hy963]; exact H) | exact H
               have Ny963 := Aside0.mk hy963
               clear hy963
               have H' := Aside0.mk H
               clear H
               have p960 : 0 ≤ (x5_2 : Int) := of_decide_eq_true (by first | (with_reducible assumption) | assumption)
               have q960 : x5_2 < (l0.length : Int) := of_decide_eq_true (by first | (with_reducible assumption) | assumption)
               obtain ⟨ad960, e960, hx960_0⟩ := Kd.at_int HR0.out x5_2 p960 q960
               obtain rfl : ad958 = ad960 := (by injection e960)
               replace hx960_0 := (HB.out.cell (World.block_lt_of_cell? w _ hx960_0)).trans hx960_0
               replace p960 := eq_true p960
               replace q960 := eq_true q960
               go_wp2_with (first | ((with_reducible refine gate_callee (f := 175) rfl ?_); refine goesL_ (some 33) rfl rfl Tryz.func175 (by kernel_rfl) rfl #[.int .u8 (rd l0 x5_2)] rfl (by (try simp only [List.map_toArray, List.map_cons, List.map_nil]); first | done | rfl | (simp only [List.length_drop, List.length_take]; rfl)) ?_; (with_reducible refine (spec_l3nameByte.calls (rd l0 x5_2) true _ A11.out).mono ?_); rintro e w' ⟨rfl, ⟨nd, rfl⟩⟩; refine ⟨_, rfl, ?_⟩; have p962 : 0 ≤ (x5_2 : Int) := of_decide_eq_true (by first | (with_reducible assumption) | assumption); have q962 : x5_2 < (l0.length : Int) := of_decide_eq_true (by first | (with_reducible assumption) | assumption); obtain ⟨ad962, e962, hx962_0⟩ := Kd.at_int HR0.out x5_2 p962 q962; obtain rfl : ad958 = ad962 := (by injection e962); replace hx962_0 := (HB.out.cell (World.block_lt_of_cell? w _ hx962_0)).trans hx962_0; replace p962 := eq_true p962; replace q962 := eq_true q962) | ((with_reducible refine gate_builtin (b := .append) (xs := #[.tmp 35, .tmp 40]) rfl ?_); (try (refine gate_guard (by rfl) ?_; dsimp only)); at_builtin; refine Kd.R_append (Kd.int .u8) (w0 := w) w.heap.size rfl (.tmp 35) (.tmp 40) 38 5 (.int .u8 0) 1 rfl Tryz.underlying38 info5 rfl (by decide) (by omega) u6 x6_2 (rd l0 x5_2) [.int .u8 (rd l0 x5_2)] (fun _ => True) (fun _ => False) rfl rfl ?aP (fun _ hk => hk.elim) ?aF ?aO ?aB ?aS ?aL ?_; (case aP => exact rfl); (case aB => exact (by repeat (first | (with_reducible first | exact HB.out | apply below_alloc | apply pw_below_drewN | apply below_drew1) | exact HB.out))); (case aF => exact (fun _ _ => trivial)); (case aO => exact (by (with_reducible repeat (first | apply Kd.R_alloc | apply Kd.R_drewN | apply Kd.R_drew)); exact HO_6.out)); (case aS => exact (below_size (by repeat (first | (with_reducible first | exact HB.out | apply below_alloc | apply pw_below_drewN | apply below_drew1) | exact HB.out)))); (case aL => have := LMc13.out; omega); intro v964 w14 ho hb hg hat; rw [← Ny963.out] at ho; have n0_ := Aside0.mk (Kd.S_after (ok := (fun _ => True)) (by (with_reducible repeat (first | apply Kd.S_alloc | apply Kd.S_drewN | apply Kd.S_drew)); exact Kd.S_mono HO_4.out (fun _ hk => ⟨trivial, hk⟩)) hg hat); have n1_ := Aside0.mk (hb); have n2_ := Aside0.mk (ho); clear HO_4; clear HB; clear HO_6; have HO_4 := n0_; have HB := n1_; have HO965 := n2_; clear n0_ n1_ n2_; clear ho hb hg hat))
               go_roundg kj4
               case measure => have := HK1.out; have := HK2.out; have := HJ4.out; omega
               case rel => exact ⟨(wrap64 (x5_2 + 1)), (y963), (by first | rfl | (simp; done) | (simp [*]; done)), H', ⟨by have := HK1.out; have := HK2.out; have := HJ4.out; omega⟩, ⟨by (with_reducible repeat (first | apply Kd.S_alloc | apply Kd.S_drewN | apply Kd.S_drew)); exact Kd.S_mono HO_4.out (fun _ hk => hk.2)⟩, ⟨by (with_reducible repeat (first | apply Kd.R_alloc | apply Kd.R_drewN | apply Kd.R_drew)); exact HO965.out⟩, ⟨by repeat (first | (with_reducible first | exact HB.out | apply below_alloc | apply pw_below_drewN | apply below_drew1) | exact HB.out)⟩⟩
              ·
               rw [if_neg c13] at H
               exact absurd H (by simp)
             ·
              replace c12 := Bool.eq_false_iff.mpr c12
              subst c12
              have H1 : (some (([] : List (List Int)), false)) = some (r1, r2) := by first | rfl | (rw [if_neg (show ¬ (false = true) by decide)] at H; exact H)
              clear H
              have H := H1
              clear H1
              simp only [Option.some.injEq, Prod.mk.injEq] at H
              obtain ⟨rfl, rfl⟩ := H
              have p960 : 0 ≤ (x5_2 : Int) := of_decide_eq_true (by first | (with_reducible assumption) | assumption)
              have q960 : x5_2 < (l0.length : Int) := of_decide_eq_true (by first | (with_reducible assumption) | assumption)
              obtain ⟨ad960, e960, hx960_0⟩ := Kd.at_int HR0.out x5_2 p960 q960
              obtain rfl : ad958 = ad960 := (by injection e960)
              replace hx960_0 := (HB.out.cell (World.block_lt_of_cell? w _ hx960_0)).trans hx960_0
              replace p960 := eq_true p960
              replace q960 := eq_true q960
              go_wp2_with (first | ((with_reducible refine gate_callee (f := 175) rfl ?_); refine goesL_ (some 33) rfl rfl Tryz.func175 (by kernel_rfl) rfl #[.int .u8 (rd l0 x5_2)] rfl (by (try simp only [List.map_toArray, List.map_cons, List.map_nil]); first | done | rfl | (simp only [List.length_drop, List.length_take]; rfl)) ?_; (with_reducible refine (spec_l3nameByte.calls (rd l0 x5_2) false _ A11.out).mono ?_); rintro e w' ⟨rfl, ⟨nd, rfl⟩⟩; refine ⟨_, rfl, ?_⟩))
              go_ret2
              exact ⟨_, by first | rfl | (simp [errW_none, errW_some] <;> rfl) | (simp [*, errW_none, errW_some] <;> rfl), by first | exact Kd.S_nil _ _ _ _ _ | exact Kd.N_nil _ _ _ _ _ | exact Kd.V_nil _ _ _ _ _ | exact Kd.Q_nil _ _ _ _ _ | exact Kd.R_nil _ _ _ _ _, by repeat (first | (with_reducible first | exact HB.out | apply below_alloc | apply pw_below_drewN | apply below_drew1) | exact HB.out)⟩
            ·
             rw [if_neg c10] at H
             exact absurd H (by simp)
           ·
            rw [if_neg c9] at H
            exact absurd H (by simp)
          ·
           replace c8 := Bool.eq_false_iff.mpr c8
           subst c8
           have H1 : (if (x6_2.length : Int) < 1 then (some (([] : List (List Int)), false)) else (if (x6_2.length : Int) > 16 then (some (([] : List (List Int)), false)) else (if x4_1.length < 5864062014805 then (spec_l3names.l0 kj4 l0 (x4_1 ++ [x6_2]) x5_2) else (none)))) = some (r1, r2) := by first | rfl | (rw [if_neg (show ¬ (false = true) by decide)] at H; exact H)
           clear H
           have H := H1
           clear H1
           by_cases c15 : (x6_2.length : Int) < 1
           ·
            rw [if_pos c15] at H
            have c15b0 : decide ((x6_2.length : Int) < 1) = true := decide_eq_true c15
            have c15b1 : decide (x6_2.length < 1) = true := decide_eq_true (by omega)
            clear c15
            simp only [Option.some.injEq, Prod.mk.injEq] at H
            obtain ⟨rfl, rfl⟩ := H
            obtain ⟨Ao16, co16, eo16⟩ := Kd.R_slice HO_6.out
            subst eo16
            go_wp2
            go_ret2
            exact ⟨_, by first | rfl | (simp [errW_none, errW_some] <;> rfl) | (simp [*, errW_none, errW_some] <;> rfl), by first | exact Kd.S_nil _ _ _ _ _ | exact Kd.N_nil _ _ _ _ _ | exact Kd.V_nil _ _ _ _ _ | exact Kd.Q_nil _ _ _ _ _ | exact Kd.R_nil _ _ _ _ _, by repeat (first | (with_reducible first | exact HB.out | apply below_alloc | apply pw_below_drewN | apply below_drew1) | exact HB.out)⟩
           ·
            rw [if_neg c15] at H
            have c15b0 : decide ((x6_2.length : Int) < 1) = false := decide_eq_false c15
            have c15b1 : decide (x6_2.length < 1) = false := decide_eq_false (by omega)
            clear c15
            by_cases c17 : (x6_2.length : Int) > 16
            ·
             rw [if_pos c17] at H
             have c17b0 : decide (16 < (x6_2.length : Int)) = true := decide_eq_true c17
             have c17b1 : decide (16 < x6_2.length) = true := decide_eq_true (by omega)
             clear c17
             simp only [Option.some.injEq, Prod.mk.injEq] at H
             obtain ⟨rfl, rfl⟩ := H
             obtain ⟨Ao18, co18, eo18⟩ := Kd.R_slice HO_6.out
             subst eo18
             go_wp2
             go_ret2
             exact ⟨_, by first | rfl | (simp [errW_none, errW_some] <;> rfl) | (simp [*, errW_none, errW_some] <;> rfl), by first | exact Kd.S_nil _ _ _ _ _ | exact Kd.N_nil _ _ _ _ _ | exact Kd.V_nil _ _ _ _ _ | exact Kd.Q_nil _ _ _ _ _ | exact Kd.R_nil _ _ _ _ _, by repeat (first | (with_reducible first | exact HB.out | apply below_alloc | apply pw_below_drewN | apply below_drew1) | exact HB.out)⟩
            ·
             rw [if_neg c17] at H
             have c17b0 : decide (16 < (x6_2.length : Int)) = false := decide_eq_false c17
             have c17b1 : decide (16 < x6_2.length) = false := decide_eq_false (by omega)
             clear c17
             by_cases c19 : x4_1.length < 5864062014805
             ·
              rw [if_pos c19] at H
              have LMc19 := Aside0.mk c19
              clear c19
              obtain ⟨y966, hy966⟩ : ∃ y_ : List (List Int), y_ = (x4_1 ++ [x6_2]) := ⟨_, rfl⟩
              replace H : (spec_l3names.l0 kj4 l0 y966 x5_2) = some (r1, r2) := by first | (rw [hy966]; with_reducible exact H) | (have H2_ := (Option.bind_some _ _).symm.trans H; rw [hy966]; with_reducible exact H2_) | (have H2_ := (Option.bind_some _ _).symm.trans H; with_reducible exact H2_) | with_reducible exact H | (rw [hy966]; exact H) | exact H
              have Ny966 := Aside0.mk hy966
              clear hy966
              have H' := Aside0.mk H
              clear H
              obtain ⟨Ao20, co20, eo20⟩ := Kd.R_slice HO_6.out
              subst eo20
              go_wp2_with (first | ((with_reducible refine gate_builtin (b := .append) (xs := #[.tmp 52, .tmp 54]) rfl ?_); (try (refine gate_guard (by rfl) ?_; dsimp only)); at_builtin; refine Kd.S_append (Kd.slice 5 (Kd.int .u8)) (w0 := w) w.heap.size rfl (.tmp 52) (.tmp 54) 149 38 (.slice none 0 0) 24 rfl Tryz.underlying149 info38 rfl (by decide) (by omega) u4 x4_1 x6_2 [.slice Ao20 x6_2.length co20] (fun _ => True) (fun k_ => some k_ = (.slice Ao20 x6_2.length co20 : Value).ownBlock) rfl rfl ?aP (fun k_ hk_ => ((Kd.R_mono (ok' := fun k_ => ((fun _ => True)) k_ ∧ some k_ ≠ (u4 : Value).ownBlock) (Kd.R_apart' (HO_6.out) (Kd.S_typed HO_4.out) (by decide)) (fun k_ hk => ⟨trivial, hk.2⟩))).1 k_ hk_.symm) ?aF ?aO ?aB ?aS ?aL ?_; (case aP => exact Kd.M_row (Kd.R_mono (Kd.R_tight rfl (Kd.R_mono (ok' := fun k_ => ((fun _ => True)) k_ ∧ some k_ ≠ (u4 : Value).ownBlock) (Kd.R_apart' (HO_6.out) (Kd.S_typed HO_4.out) (by decide)) (fun k_ hk => ⟨trivial, hk.2⟩))) (fun _ h_ => h_))); (case aB => exact (by repeat (first | (with_reducible first | exact HB.out | apply below_alloc | apply pw_below_drewN | apply below_drew1) | exact HB.out))); (case aF => exact (fun _ _ => trivial)); (case aO => exact (by (with_reducible repeat (first | apply Kd.S_alloc | apply Kd.S_drewN | apply Kd.S_drew)); exact Kd.S_mono HO_4.out (fun k_ hk => ⟨trivial, fun e_ => hk e_⟩))); (case aS => exact (below_size (by repeat (first | (with_reducible first | exact HB.out | apply below_alloc | apply pw_below_drewN | apply below_drew1) | exact HB.out)))); (case aL => have := LMc19.out; omega); intro v967 w21 ho hb hg hat; rw [← Ny966.out] at ho; have n0_ := Aside0.mk (hb); have n1_ := Aside0.mk (ho); clear HB; clear HO_4; clear HO_6; have HB := n0_; have HO968 := n1_; clear n0_ n1_; clear ho hb hg hat))
              go_roundg kj4
              case measure => have := HK1.out; have := HK2.out; have := HJ4.out; omega
              case rel => exact ⟨(y966), (x5_2), (by first | rfl | (simp; done) | (simp [*]; done)), H', ⟨by have := HK1.out; have := HK2.out; have := HJ4.out; omega⟩, ⟨by (with_reducible repeat (first | apply Kd.S_alloc | apply Kd.S_drewN | apply Kd.S_drew)); exact HO968.out⟩, ⟨by repeat (first | (with_reducible first | exact HB.out | apply below_alloc | apply pw_below_drewN | apply below_drew1) | exact HB.out)⟩⟩
             ·
              rw [if_neg c19] at H
              exact absurd H (by simp)
     ·
      rw [if_neg c4] at H
      have c4b0 : ((rd l0 x5_1) == 47) = false := beq_eq_false_iff_ne.mpr c4
      have c4b1 : ((rd l0 x5_1) != 47) = true := bne_iff_ne.mpr c4
      simp only [Option.some.injEq, Prod.mk.injEq] at H
      obtain ⟨rfl, rfl⟩ := H
      have p958 : 0 ≤ (x5_1 : Int) := of_decide_eq_true (by first | (with_reducible assumption) | assumption)
      have q958 : x5_1 < (l0.length : Int) := of_decide_eq_true (by first | (with_reducible assumption) | assumption)
      obtain ⟨ad958, e958, hx958_0⟩ := Kd.at_int HR0.out x5_1 p958 q958
      cases e958
      replace hx958_0 := (HB.out.cell (World.block_lt_of_cell? w _ hx958_0)).trans hx958_0
      replace p958 := eq_true p958
      replace q958 := eq_true q958
      go_wp2
      go_ret2
      exact ⟨_, by first | rfl | (simp [errW_none, errW_some] <;> rfl) | (simp [*, errW_none, errW_some] <;> rfl), by first | exact Kd.S_nil _ _ _ _ _ | exact Kd.N_nil _ _ _ _ _ | exact Kd.V_nil _ _ _ _ _ | exact Kd.Q_nil _ _ _ _ _ | exact Kd.R_nil _ _ _ _ _, by repeat (first | (with_reducible first | exact HB.out | apply below_alloc | apply pw_below_drewN | apply below_drew1) | exact HB.out)⟩
    ·
     rw [if_neg c3] at H
     exact absurd H (by simp)
   ·
    rw [if_neg c2] at H
    have c2b0 : decide (x5_1 < (l0.length : Int)) = false := decide_eq_false c2
    clear c2
    by_cases c22 : (x4_1.length : Int) ≥ 1
    ·
     rw [if_pos c22] at H
     have c22b0 : decide (1 ≤ (x4_1.length : Int)) = true := decide_eq_true c22
     have c22b1 : decide (1 ≤ x4_1.length) = true := decide_eq_true (by omega)
     clear c22
     simp only [Option.some.injEq, Prod.mk.injEq] at H
     obtain ⟨rfl, rfl⟩ := H
     obtain ⟨Ao23, co23, eo23⟩ := Kd.S_slice HO_4.out
     subst eo23
     go_wp2
     go_ret2
     exact ⟨_, by first | rfl | (simp [errW_none, errW_some] <;> rfl) | (simp [*, errW_none, errW_some] <;> rfl), by (with_reducible repeat (first | apply Kd.S_alloc | apply Kd.S_drewN | apply Kd.S_drew)); exact HO_4.out, by repeat (first | (with_reducible first | exact HB.out | apply below_alloc | apply pw_below_drewN | apply below_drew1) | exact HB.out)⟩
    ·
     rw [if_neg c22] at H
     have c22b0 : decide (1 ≤ (x4_1.length : Int)) = false := decide_eq_false c22
     have c22b1 : decide (1 ≤ x4_1.length) = false := decide_eq_false (by omega)
     clear c22
     simp only [Option.some.injEq, Prod.mk.injEq] at H
     obtain ⟨rfl, rfl⟩ := H
     obtain ⟨Ao24, co24, eo24⟩ := Kd.S_slice HO_4.out
     subst eo24
     go_wp2
     go_ret2
     exact ⟨_, by first | rfl | (simp [errW_none, errW_some] <;> rfl) | (simp [*, errW_none, errW_some] <;> rfl), by (with_reducible repeat (first | apply Kd.S_alloc | apply Kd.S_drewN | apply Kd.S_drew)); exact HO_4.out, by repeat (first | (with_reducible first | exact HB.out | apply below_alloc | apply pw_below_drewN | apply below_drew1) | exact HB.out)⟩
end
section
attribute [local go_sem] max2_int max_two
set_option linter.unusedVariables false
set_option linter.unusedSimpArgs false
def spec_ValidPath.f (k : Nat) (l0 : List Int) : Option (Bool) := (spec_l3names.f k l0).bind fun bt130 => (some bt130.2)
set_option maxHeartbeats 8000000 in
set_option maxRecDepth 100000 in
theorem spec_ValidPath.calls (k : Nat) (A0 : Option Addr) (c0 : Nat) (l0 : List Int) (r : Bool) (w : World) (hr0 : Kd.C (Kd.int .u8) w A0 l0.length l0) (hc0 : l0.length ≤ c0) (h : spec_ValidPath.f k l0 = some r) :
  Calls Tryz.prog 118 #[.slice A0 l0.length c0] w fun e w' => e = .returned (.bool r) ∧ Below w.heap.size w w' := by
 have HR0 := Aside0.mk hr0
 have HC0 := Aside0.mk hc0
 clear hr0 hc0
 have HB := Aside0.mk (Below.refl w.heap.size w)
 have H : ((spec_l3names.f k l0).bind fun bt130 => (some bt130.2)) = some r := h
 clear h
 replace H := Option.bind_eq_some_iff.mp H
 obtain ⟨⟨t130, t131⟩, A20, H⟩ := H
 replace H : (some t131) = some r := H
 have A2 := Aside0.mk A20
 clear A20
 obtain rfl := Option.some.inj H
 go_enter Tryz.func118, Tryz.ntmps118
 go_wp2_with (first | ((with_reducible refine gate_callee (f := 154) rfl ?_); refine goesL_ (some 7) rfl rfl Tryz.func154 (by kernel_rfl) rfl #[.slice A0 l0.length c0] rfl (by (try simp only [List.map_toArray, List.map_cons, List.map_nil]); first | done | rfl | (simp only [List.length_drop, List.length_take]; rfl)) ?_; (with_reducible refine (spec_l3names.calls k _ _ l0 t130 t131 _ ?side1 ?side2 A2.out).mono ?_); (case side1 => repeat (first | exact HR0.out | (with_reducible refine Kd.C_alloc ?_ _) | (with_reducible refine Kd.C_drewN ?_ _) | (with_reducible refine Kd.C_drew ?_))); (case side2 => exact HC0.out); rintro e w3 ⟨v132, rfl, ho0, hb⟩; refine ⟨_, rfl, ?_⟩; have n0_ := Aside0.mk (Kd.S_lower ho0 (below_size (by repeat (first | (with_reducible first | exact HB.out | apply below_alloc | apply pw_below_drewN | apply below_drew1) | exact HB.out)))); have n1_ := Aside0.mk (below_step (by repeat (first | (with_reducible first | exact HB.out | apply below_alloc | apply pw_below_drewN | apply below_drew1) | exact HB.out)) hb); clear HB; have HO133 := n0_; have HB := n1_; clear n0_ n1_; (try clear hb); (try clear hb2); (try clear hk); (try clear hi); (try clear ho0)))
 go_ret
 exact ⟨by first | rfl | (simp [errW_none, errW_some] <;> rfl) | (simp [*, errW_none, errW_some] <;> rfl), by repeat (first | (with_reducible first | exact HB.out | apply below_alloc | apply pw_below_drewN | apply below_drew1) | exact HB.out)⟩
end
theorem nameByte_f (c : Int) : spec_l3nameByte.f c = some (charB c) := by
 unfold spec_l3nameByte.f charB
 by_cases h1 : 97 ≤ c
 ·
  by_cases h2 : c ≤ 122
  ·
   rw [if_pos h1, if_pos h2]; simp [h1, h2]
  ·
   by_cases h5 : c = 45
   ·
    omega
   ·
    rw [if_pos h1, if_neg h2, if_pos (by omega), if_neg (by omega), if_neg h5]
    have h3 : 48 ≤ c := by omega
    have h4 : ¬ c ≤ 57 := by omega
    simp [h1, h2, h3, h4, h5]
 ·
  rw [if_neg h1]
  by_cases h3 : 48 ≤ c
  ·
   by_cases h4 : c ≤ 57
   ·
    rw [if_pos h3, if_pos h4]; simp [h1, h3, h4]
   ·
    rw [if_pos h3, if_neg h4, if_neg (by omega)]
    have h5 : ¬ c = 45 := by omega
    simp [h1, h3, h4, h5]
  ·
   rw [if_neg h3]
   by_cases h5 : c = 45
   ·
    rw [if_pos h5]; simp [h5]
   ·
    rw [if_neg h5]; simp [h1, h3, h5]
def R0 (rest : List Int) (cnt : Nat) : Bool := match rest with
 | [] => decide (1 ≤ cnt) && decide (cnt ≤ 8)
 | c :: r => c == 47 && decide (cnt + (pieces r).length ≤ 8) && (pieces r).all nameB
def R1 (rest : List Int) (m cnt : Nat) : Bool := match pieces rest with
 | [] => false
 | p :: ps => p.all charB && decide (1 ≤ m + p.length) && decide (m + p.length ≤ 16) && decide (cnt + 1 + ps.length ≤ 8) && ps.all nameB
theorem R1_open (r : List Int) (cnt : Nat) : R1 r 0 cnt = (decide (cnt + (pieces r).length ≤ 8) && (pieces r).all nameB) := by
 unfold R1
 cases hp : pieces r with
 | nil => exact absurd hp (pieces_ne r)
 | cons p ps =>
  simp only [List.all_cons, List.length_cons, nameB, Nat.zero_add]
  have e : (cnt + 1 + ps.length ≤ 8) = (cnt + (ps.length + 1) ≤ 8) := by rw [show cnt + 1 + ps.length = cnt + (ps.length + 1) by omega]
  simp only [e]
  cases p.all charB <;> cases decide (1 ≤ p.length) <;> cases decide (p.length ≤ 16) <;> cases decide (cnt + (ps.length + 1) ≤ 8) <;> simp [Bool.and_comm]
theorem names_loop (b : List Int) (hb : b.length ≤ 2097152) : ∀ (d : Nat),
  (∀ (k i : Nat) (out : List (List Int)), i + d = b.length → out.length ≤ i → 3 * d + 1 ≤ k → ∃ o, spec_l3names.l0 k b out (i : Int) = some (o, R0 (b.drop i) out.length)) ∧
  (∀ (k i : Nat) (out : List (List Int)) (nm : List Int), i + d = b.length → out.length + 1 ≤ i → nm.length ≤ i → 3 * d + 3 ≤ k → ∃ o, spec_l3names.l1 k b out (i : Int) nm = some (o, R1 (b.drop i) nm.length out.length)) := by
 intro d
 induction d with
 | zero =>
  have z0 : ∀ (k i : Nat) (out : List (List Int)), i + 0 = b.length → out.length ≤ i → 3 * 0 + 1 ≤ k → ∃ o, spec_l3names.l0 k b out (i : Int) = some (o, R0 (b.drop i) out.length) := by
   intro k i out hi ho hk
   obtain ⟨k, rfl⟩ : ∃ m, k = m + 1 := ⟨k - 1, by omega⟩
   rw [spec_l3names.l0, if_neg (by omega), List.drop_eq_nil_of_le (by omega)]
   unfold R0
   by_cases h1 : 1 ≤ out.length
   ·
    rw [if_pos (by omega)]
    refine ⟨out, ?_⟩
    rw [decide_eq_true h1, Bool.true_and]
    congr 3
    simp only [eq_iff_iff]
    omega
   ·
    rw [if_neg (by omega)]
    exact ⟨out, by rw [decide_eq_false h1]; rfl⟩
  refine ⟨z0, ?_⟩
  intro k i out nm hi ho hn hk
  obtain ⟨k, rfl⟩ : ∃ m, k = m + 2 := ⟨k - 2, by omega⟩
  rw [spec_l3names.l1, if_neg (by omega), spec_l3names.j2, if_neg (by decide)]
  have e : b.drop i = [] := List.drop_eq_nil_of_le (by omega)
  by_cases h1 : (nm.length : Int) < 1
  ·
   rw [if_pos h1]
   refine ⟨[], ?_⟩
   rw [e, R1, pieces]
   simp only [List.length_nil, Nat.add_zero]
   rw [decide_eq_false (show ¬ 1 ≤ nm.length by omega)]
   simp
  ·
   rw [if_neg h1]
   by_cases h2 : (nm.length : Int) > 16
   ·
    rw [if_pos h2]
    refine ⟨[], ?_⟩
    rw [e, R1, pieces]
    simp only [List.length_nil, Nat.add_zero]
    rw [decide_eq_false (show ¬ nm.length ≤ 16 by omega)]
    simp
   ·
    rw [if_neg h2, if_pos (by omega)]
    obtain ⟨o, ho'⟩ := z0 k i (out ++ [nm]) hi (by simp; omega) (by omega)
    refine ⟨o, ?_⟩
    rw [ho', e, R0, R1, pieces]
    simp only [List.length_nil, Nat.add_zero, List.length_append, List.length_singleton, List.all_nil, Bool.true_and, Bool.and_true]
    rw [decide_eq_true (show 1 ≤ nm.length by omega), decide_eq_true (show nm.length ≤ 16 by omega), decide_eq_true (show 1 ≤ out.length + 1 by omega)]
    simp
 | succ d ih =>
  obtain ⟨ih0, ih1⟩ := ih
  have z0 : ∀ (k i : Nat) (out : List (List Int)), i + (d + 1) = b.length → out.length ≤ i → 3 * (d + 1) + 1 ≤ k → ∃ o, spec_l3names.l0 k b out (i : Int) = some (o, R0 (b.drop i) out.length) := by
   intro k i out hi ho hk
   obtain ⟨k, rfl⟩ : ∃ m, k = m + 1 := ⟨k - 1, by omega⟩
   have hlt : i < b.length := by omega
   rw [spec_l3names.l0, if_pos (by omega), if_pos (by omega), rd_nat, getD_at b i hlt, List.drop_eq_getElem_cons hlt]
   by_cases hc : b[i] = 47
   ·
    rw [if_pos hc, wrap_up i (by omega)]
    obtain ⟨o, ho'⟩ := ih1 k (i + 1) out [] (by omega) (by omega) (by simp) (by omega)
    refine ⟨o, ?_⟩
    rw [ho', R0, List.length_nil, R1_open, hc]
    simp
   ·
    rw [if_neg hc]
    exact ⟨[], by rw [R0]; simp [hc]⟩
  refine ⟨z0, ?_⟩
  intro k i out nm hi ho hn hk
  obtain ⟨k, rfl⟩ : ∃ m, k = m + 2 := ⟨k - 2, by omega⟩
  have hlt : i < b.length := by omega
  rw [spec_l3names.l1, if_pos (by omega), if_pos (by omega), spec_l3names.j2, rd_nat, getD_at b i hlt]
  have ed := List.drop_eq_getElem_cons hlt
  by_cases hc : b[i] = 47
  ·
   rw [if_neg (by simp [hc])]
   have ep : pieces (b.drop i) = [] :: pieces (b.drop (i + 1)) := by rw [ed, hc, pieces_slash]
   by_cases h1 : (nm.length : Int) < 1
   ·
    rw [if_pos h1]
    refine ⟨[], ?_⟩
    rw [R1, ep]
    simp only [List.length_nil, Nat.add_zero]
    rw [decide_eq_false (show ¬ 1 ≤ nm.length by omega)]
    simp
   ·
    rw [if_neg h1]
    by_cases h2 : (nm.length : Int) > 16
    ·
     rw [if_pos h2]
     refine ⟨[], ?_⟩
     rw [R1, ep]
     simp only [List.length_nil, Nat.add_zero]
     rw [decide_eq_false (show ¬ nm.length ≤ 16 by omega)]
     simp
    ·
     rw [if_neg h2, if_pos (by omega)]
     obtain ⟨o, ho'⟩ := z0 k i (out ++ [nm]) hi (by simp; omega) (by omega)
     refine ⟨o, ?_⟩
     rw [ho', R1, ep]
     rw [ed, R0, hc]
     simp only [List.length_nil, Nat.add_zero, List.length_append, List.length_singleton, List.all_nil, Bool.true_and, beq_self_eq_true]
     rw [decide_eq_true (show 1 ≤ nm.length by omega), decide_eq_true (show nm.length ≤ 16 by omega)]
     simp
  ·
   rw [if_pos (by simp [hc]), if_pos (by omega), if_pos (by omega), nameByte_f, Option.bind_some]
   obtain ⟨p, ps, e1, e2⟩ := pieces_char b[i] (b.drop (i + 1)) hc
   rw [← ed] at e2
   cases hch : charB b[i] with
   | false =>
    rw [if_neg (by decide)]
    refine ⟨[], ?_⟩
    rw [R1, e2]
    simp [hch]
   | true =>
    rw [if_pos rfl, if_pos (by omega), wrap_up i (by omega)]
    obtain ⟨o, ho'⟩ := ih1 k (i + 1) out (nm ++ [b[i]]) (by omega) (by omega) (by simp; omega) (by omega)
    refine ⟨o, ?_⟩
    rw [ho', R1, R1, e1, e2]
    simp only [List.length_append, List.length_singleton, List.length_cons, List.all_cons, hch, Bool.true_and]
    rw [show nm.length + (([] : List Int).length + 1) + p.length = nm.length + (p.length + 1) by simp only [List.length_nil]; omega]
theorem validPath_f (b : List Int) (hb : b.length ≤ 2097152) (k : Nat) (hk : 3 * b.length + 1 ≤ k) : spec_ValidPath.f k b = some (pathB b) := by
 unfold spec_ValidPath.f spec_l3names.f
 obtain ⟨o, ho⟩ := (names_loop b hb b.length).1 k 0 [] (by omega) (by simp) (by omega)
 rw [show ((0 : Nat) : Int) = 0 from rfl] at ho
 rw [ho, Option.bind_some]
 cases b with
 | nil => rfl
 | cons c r =>
  simp only [List.drop_zero, R0, pathB, List.length_nil, Nat.zero_add]
structure BelowOf (w w' : World) : Prop where
 out : Below w.heap.size w w'
theorem wp_region_below {P : Program} {id : Nat} {Q : Exit → Act → World → Prop} {a : Act} {w : World} {l : List Oper} (hm : P.follows .mixedOrders = true) (hB : Region.lexB .any l.toArray = true)
  (h : wpQuiet P l.toArray (BelowOf w) (fun a' => ∀ w', BelowOf w w' → Q .normal a' w') l a) : (Code.region id l.toArray true).wp P Q a w :=
 wp_region_quiet (C := BelowOf w) hm hB ⟨below_drew1 (Below.refl w.heap.size w)⟩ (by simpa using h)
theorem quiet_mk {P : Program} {C : World → Prop} {a : Act} {o : Oper} {K : Act → Prop} (v : Value) (hv : ∀ w, C w → o.quietAt P a C w v) (h : K (a.put o.dst v)) : o.quiet P a C K := ⟨v, hv, h⟩
section
attribute [local go_sem] max2_int max_two
set_option linter.unusedVariables false
set_option linter.unusedSimpArgs false
def spec_l3live.l0 : Nat → Int → Int → Int → Int → Int → Int → List (S90) → List (S93) → Option (Bool)
 | 0, _, _, _, _, _, _, _, _ => none
 | k + 1, x1, x5, x163000, x163001, x163002, x163003, x163004, x163005 => if x5 < (x163004.length : Int) then (if 0 ≤ x5 then (if ((rd_T90 x163004 x5).f0) = x1 then (some true) else (spec_l3live.l0 k x1 (wrap64 (x5 + 1)) x163000 x163001 x163002 x163003 x163004 x163005)) else (none)) else (some false)
def spec_l3live.f (k : Nat) (a0_0 : Int) (a0_1 : Int) (a0_2 : Int) (a0_3 : Int) (l0_4 : List (S90)) (l0_5 : List (S93)) (a1 : Int) : Option (Bool) := spec_l3live.l0 k a1 0 a0_0 a0_1 a0_2 a0_3 l0_4 l0_5
set_option maxHeartbeats 8000000 in
set_option maxRecDepth 100000 in
theorem spec_l3live.calls (k : Nat) (a0_0 : Int) (a0_1 : Int) (a0_2 : Int) (a0_3 : Int) (A0_4 : Option Addr) (c0_4 : Nat) (l0_4 : List (S90)) (A0_5 : Option Addr) (c0_5 : Nat) (l0_5 : List (S93)) (a1 : Int) (r : Bool) (w : World) (hr0_4 : Kd.C k90 w A0_4 l0_4.length l0_4) (hc0_4 : l0_4.length ≤ c0_4) (hr0_5 : Kd.C k93 w A0_5 l0_5.length l0_5) (hc0_5 : l0_5.length ≤ c0_5) (h : spec_l3live.f k a0_0 a0_1 a0_2 a0_3 l0_4 l0_5 a1 = some r) :
  Calls Tryz.prog 121 #[.agg #[.int .u64 a0_0, .int .u64 a0_1, .int .u64 a0_2, .int .i64 a0_3, .slice A0_4 l0_4.length c0_4, .slice A0_5 l0_5.length c0_5], .int .u64 a1] w fun e w' => e = .returned (.bool r) ∧ Below w.heap.size w w' := by
 have hu31 := Tryz.underlying31
 have HR0_4 := Aside0.mk hr0_4
 have HC0_4 := Aside0.mk hc0_4
 clear hr0_4 hc0_4
 have HR0_5 := Aside0.mk hr0_5
 have HC0_5 := Aside0.mk hc0_5
 clear hr0_5 hc0_5
 have HB := Aside0.mk (Below.refl w.heap.size w)
 have H : (spec_l3live.l0 k a1 0 a0_0 a0_1 a0_2 a0_3 l0_4 l0_5) = some r := h
 clear h
 have H' := Aside0.mk H
 clear H
 go_enter Tryz.func121, Tryz.ntmps121
 go_wp2_with (first | ((with_reducible refine gate_dst (N := 2) rfl ?_); refine box_event ?hg (N := 2) ?hd (cs := #[.int .u64 a0_0, .int .u64 a0_1, .int .u64 a0_2, .int .i64 a0_3, .slice A0_4 l0_4.length c0_4, .slice A0_5 l0_5.length c0_5]) (t := 31) ?hr ?_; (case hd => rfl); (case hg => rfl); (case hr => first | (go_simp; done) | (go_simp; rfl)); intro gb162 hg w3 hbox hb; have n0_ := Aside0.mk (below_step (by repeat (first | (with_reducible first | exact HB.out | apply below_alloc | apply pw_below_drewN | apply below_drew1) | exact HB.out)) hb); have n1_ := Aside0.mk (hbox); have n2_ := Aside0.mk ((by rw [hg]; exact (below_size (by repeat (first | (with_reducible first | exact HB.out | apply below_alloc | apply pw_below_drewN | apply below_drew1) | exact HB.out))) : w.heap.size ≤ gb162)); have n3_ := Aside0.mk ((by rw [hg]; exact (below_size (by repeat (first | (with_reducible first | exact HB.out | apply below_alloc | apply pw_below_drewN | apply below_drew1) | exact HB.out))) : w.heap.size ≤ gb162)); clear HB; have HB := n0_; have BK162 := n1_; have GW162 := n2_; have GE162 := n3_; clear n0_ n1_ n2_ n3_; clear hb hbox hg))
 go_loopg [5] k (fun kq v5 w' => ∃ (x5_1 : Int), v5 = .int .i64 x5_1 ∧ Aside0 (spec_l3live.l0 kq a1 x5_1 a0_0 a0_1 a0_2 a0_3 l0_4 l0_5 = some r) ∧ Aside0 (kq ≤ k) ∧ Aside0 (w'.heap[gb162]? = some (.cells #[.int .u64 a0_0, .int .u64 a0_1, .int .u64 a0_2, .int .i64 a0_3, (.slice A0_4 l0_4.length c0_4), (.slice A0_5 l0_5.length c0_5)] 31 (0, 0))) ∧ Aside0 (Below w.heap.size w w'))
 case atStart => exact ⟨(0), (by first | rfl | (simp; done) | (simp [*]; done)), H', ⟨Nat.le_refl _⟩, ⟨by (with_reducible repeat (first | refine blk_drewN ?_ _ | refine blk_drew ?_ | refine blk_alloc ?_ _)); exact BK162.out⟩, ⟨by repeat (first | (with_reducible first | exact HB.out | apply below_alloc | apply pw_below_drewN | apply below_drew1 | refine below_set ?_ GE162.out) | exact HB.out)⟩⟩
 case round =>
  clear H'
  try clear c1
  try clear p2
  obtain ⟨x5_1, rfl, HA, HK1, BK162, HB⟩ := hrel
  cases gk with
  | zero => exact absurd HA.out (by simp [spec_l3live.l0])
  | succ k1 =>
   have H := HA.out
   clear HA
   simp only [spec_l3live.l0] at H
   by_cases c4 : x5_1 < (l0_4.length : Int)
   ·
    rw [if_pos c4] at H
    have c4b0 : decide (x5_1 < (l0_4.length : Int)) = true := decide_eq_true c4
    clear c4
    by_cases c5 : 0 ≤ x5_1
    ·
     rw [if_pos c5] at H
     have c5b0 : decide (0 ≤ x5_1) = true := decide_eq_true c5
     clear c5
     by_cases c6 : ((rd_T90 l0_4 x5_1).f0) = a1
     ·
      rw [if_pos c6] at H
      have c6b0 : (((rd_T90 l0_4 x5_1).f0) == a1) = true := beq_iff_eq.mpr c6
      have c6b1 : (((rd_T90 l0_4 x5_1).f0) != a1) = false := bne_eq_false_iff_eq.mpr c6
      clear c6
      obtain rfl := Option.some.inj H
      have hcz7_0 : wr.cell? ⟨gb162, 0, none⟩ = some (.int .u64 a0_0) := (blk_cell BK162.out 0).trans rfl
      have hcz7_1 : wr.cell? ⟨gb162, 1, none⟩ = some (.int .u64 a0_1) := (blk_cell BK162.out 1).trans rfl
      have hcz7_2 : wr.cell? ⟨gb162, 2, none⟩ = some (.int .u64 a0_2) := (blk_cell BK162.out 2).trans rfl
      have hcz7_3 : wr.cell? ⟨gb162, 3, none⟩ = some (.int .i64 a0_3) := (blk_cell BK162.out 3).trans rfl
      have hcz7_4 : wr.cell? ⟨gb162, 4, none⟩ = some (.slice A0_4 l0_4.length c0_4) := (blk_cell BK162.out 4).trans rfl
      have hcz7_5 : wr.cell? ⟨gb162, 5, none⟩ = some (.slice A0_5 l0_5.length c0_5) := (blk_cell BK162.out 5).trans rfl
      have hfz7_0 := blk_frozen BK162.out 0
      have hfz7_1 := blk_frozen BK162.out 1
      have hfz7_2 := blk_frozen BK162.out 2
      have hfz7_3 := blk_frozen BK162.out 3
      have hfz7_4 := blk_frozen BK162.out 4
      have hfz7_5 := blk_frozen BK162.out 5
      have p163 : 0 ≤ (x5_1 : Int) := of_decide_eq_true (by first | (with_reducible assumption) | assumption)
      have q163 : x5_1 < (l0_4.length : Int) := of_decide_eq_true (by first | (with_reducible assumption) | assumption)
      obtain ⟨ad163, A163_2, c163_2, e163, hx163_0, hx163_1, hx163_2, hl163_2, hi163_2⟩ := at_T90 HR0_4.out x5_1 p163 q163
      cases e163
      replace hx163_0 := (HB.out.cell (World.block_lt_of_cell? w _ hx163_0)).trans hx163_0
      replace hx163_1 := (HB.out.cell (World.block_lt_of_cell? w _ hx163_1)).trans hx163_1
      replace hx163_2 := (HB.out.cell (World.block_lt_of_cell? w _ hx163_2)).trans hx163_2
      have HR163_2 := Aside0.mk hi163_2
      have HC163_2 := Aside0.mk hl163_2
      clear hi163_2 hl163_2
      replace p163 := eq_true p163
      replace q163 := eq_true q163
      go_wp2
      go_ret
      exact ⟨by first | rfl | (simp [errW_none, errW_some] <;> rfl) | (simp [*, errW_none, errW_some] <;> rfl), by repeat (first | (with_reducible first | exact HB.out | apply below_alloc | apply pw_below_drewN | apply below_drew1 | refine below_set ?_ GE162.out) | exact HB.out)⟩
     ·
      rw [if_neg c6] at H
      have c6b0 : (((rd_T90 l0_4 x5_1).f0) == a1) = false := beq_eq_false_iff_ne.mpr c6
      have c6b1 : (((rd_T90 l0_4 x5_1).f0) != a1) = true := bne_iff_ne.mpr c6
      have H' := Aside0.mk H
      clear H
      have hcz8_0 : wr.cell? ⟨gb162, 0, none⟩ = some (.int .u64 a0_0) := (blk_cell BK162.out 0).trans rfl
      have hcz8_1 : wr.cell? ⟨gb162, 1, none⟩ = some (.int .u64 a0_1) := (blk_cell BK162.out 1).trans rfl
      have hcz8_2 : wr.cell? ⟨gb162, 2, none⟩ = some (.int .u64 a0_2) := (blk_cell BK162.out 2).trans rfl
      have hcz8_3 : wr.cell? ⟨gb162, 3, none⟩ = some (.int .i64 a0_3) := (blk_cell BK162.out 3).trans rfl
      have hcz8_4 : wr.cell? ⟨gb162, 4, none⟩ = some (.slice A0_4 l0_4.length c0_4) := (blk_cell BK162.out 4).trans rfl
      have hcz8_5 : wr.cell? ⟨gb162, 5, none⟩ = some (.slice A0_5 l0_5.length c0_5) := (blk_cell BK162.out 5).trans rfl
      have hfz8_0 := blk_frozen BK162.out 0
      have hfz8_1 := blk_frozen BK162.out 1
      have hfz8_2 := blk_frozen BK162.out 2
      have hfz8_3 := blk_frozen BK162.out 3
      have hfz8_4 := blk_frozen BK162.out 4
      have hfz8_5 := blk_frozen BK162.out 5
      have p163 : 0 ≤ (x5_1 : Int) := of_decide_eq_true (by first | (with_reducible assumption) | assumption)
      have q163 : x5_1 < (l0_4.length : Int) := of_decide_eq_true (by first | (with_reducible assumption) | assumption)
      obtain ⟨ad163, A163_2, c163_2, e163, hx163_0, hx163_1, hx163_2, hl163_2, hi163_2⟩ := at_T90 HR0_4.out x5_1 p163 q163
      cases e163
      replace hx163_0 := (HB.out.cell (World.block_lt_of_cell? w _ hx163_0)).trans hx163_0
      replace hx163_1 := (HB.out.cell (World.block_lt_of_cell? w _ hx163_1)).trans hx163_1
      replace hx163_2 := (HB.out.cell (World.block_lt_of_cell? w _ hx163_2)).trans hx163_2
      have HR163_2 := Aside0.mk hi163_2
      have HC163_2 := Aside0.mk hl163_2
      clear hi163_2 hl163_2
      replace p163 := eq_true p163
      replace q163 := eq_true q163
      go_wp2
      go_roundg k1
      case measure => have := HK1.out; omega
      case rel => exact ⟨(wrap64 (x5_1 + 1)), (by first | rfl | (simp; done) | (simp [*]; done)), H', ⟨by have := HK1.out; omega⟩, ⟨by (with_reducible repeat (first | refine blk_drewN ?_ _ | refine blk_drew ?_ | refine blk_alloc ?_ _)); exact BK162.out⟩, ⟨by repeat (first | (with_reducible first | exact HB.out | apply below_alloc | apply pw_below_drewN | apply below_drew1 | refine below_set ?_ GE162.out) | exact HB.out)⟩⟩
    ·
     rw [if_neg c5] at H
     exact absurd H (by simp)
   ·
    rw [if_neg c4] at H
    have c4b0 : decide (x5_1 < (l0_4.length : Int)) = false := decide_eq_false c4
    clear c4
    obtain rfl := Option.some.inj H
    have hcz9_0 : wr.cell? ⟨gb162, 0, none⟩ = some (.int .u64 a0_0) := (blk_cell BK162.out 0).trans rfl
    have hcz9_1 : wr.cell? ⟨gb162, 1, none⟩ = some (.int .u64 a0_1) := (blk_cell BK162.out 1).trans rfl
    have hcz9_2 : wr.cell? ⟨gb162, 2, none⟩ = some (.int .u64 a0_2) := (blk_cell BK162.out 2).trans rfl
    have hcz9_3 : wr.cell? ⟨gb162, 3, none⟩ = some (.int .i64 a0_3) := (blk_cell BK162.out 3).trans rfl
    have hcz9_4 : wr.cell? ⟨gb162, 4, none⟩ = some (.slice A0_4 l0_4.length c0_4) := (blk_cell BK162.out 4).trans rfl
    have hcz9_5 : wr.cell? ⟨gb162, 5, none⟩ = some (.slice A0_5 l0_5.length c0_5) := (blk_cell BK162.out 5).trans rfl
    have hfz9_0 := blk_frozen BK162.out 0
    have hfz9_1 := blk_frozen BK162.out 1
    have hfz9_2 := blk_frozen BK162.out 2
    have hfz9_3 := blk_frozen BK162.out 3
    have hfz9_4 := blk_frozen BK162.out 4
    have hfz9_5 := blk_frozen BK162.out 5
    go_wp2
    go_ret
    exact ⟨by first | rfl | (simp [errW_none, errW_some] <;> rfl) | (simp [*, errW_none, errW_some] <;> rfl), by repeat (first | (with_reducible first | exact HB.out | apply below_alloc | apply pw_below_drewN | apply below_drew1 | refine below_set ?_ GE162.out) | exact HB.out)⟩
end
end Go.Proofs.YtbgbocdohadhoaaGreatDoor.Print
