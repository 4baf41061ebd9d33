/- Texts of this session, joined by its own program. -/
import Derived.ProofKit
import Derived.Lib.SplitLaws
import Derived.Lib.Bytes
import Derived.Lib.Bytealg
import Derived.Laws.BytesArg
import Derived.Lib.SlBytesConst
import Derived.Test.YtbgbocdohadhoaaDoorCVS1
namespace Go.Proofs.YtbgbocdohadhoaaDoor.Print
open Go Go.RowKit Go.Proofs.YtbgbocdohadhoaaDoorW.PrintWords Go.Proofs.YtbgbocdohadhoaaDoorW.PrintLast Go.Proofs.YtbgbocdohadhoaaDoorW.PrintMore
set_option linter.unusedVariables false
set_option linter.unusedSimpArgs false
theorem cells2 {w : World} {g t : Nat} {v0 v1 : Value} (h : w.heap[g]? = some (.cells #[v0, v1] t (0, 0))) : w.cell? ⟨g, 0, none⟩ = some v0 ∧ w.cell? ⟨g, 1, none⟩ = some v1 := ⟨(blk_cell h 0).trans rfl, (blk_cell h 1).trans rfl⟩
theorem cells3 {w : World} {g t : Nat} {v0 v1 v2 : Value} (h : w.heap[g]? = some (.cells #[v0, v1, v2] t (0, 0))) : w.cell? ⟨g, 0, none⟩ = some v0 ∧ w.cell? ⟨g, 1, none⟩ = some v1 ∧ w.cell? ⟨g, 2, none⟩ = some v2 := ⟨(blk_cell h 0).trans rfl, (blk_cell h 1).trans rfl, (blk_cell h 2).trans rfl⟩
theorem cells6 {w : World} {g t : Nat} {v0 v1 v2 v3 v4 v5 : Value} (h : w.heap[g]? = some (.cells #[v0, v1, v2, v3, v4, v5] t (0, 0))) : w.cell? ⟨g, 0, none⟩ = some v0 ∧ w.cell? ⟨g, 1, none⟩ = some v1 ∧ w.cell? ⟨g, 2, none⟩ = some v2 ∧ w.cell? ⟨g, 3, none⟩ = some v3 ∧ w.cell? ⟨g, 4, none⟩ = some v4 ∧ w.cell? ⟨g, 5, none⟩ = some v5 :=
 ⟨(blk_cell h 0).trans rfl, (blk_cell h 1).trans rfl, (blk_cell h 2).trans rfl, (blk_cell h 3).trans rfl, (blk_cell h 4).trans rfl, (blk_cell h 5).trans rfl⟩
theorem cells8 {w : World} {g t : Nat} {v0 v1 v2 v3 v4 v5 v6 v7 : Value} (h : w.heap[g]? = some (.cells #[v0, v1, v2, v3, v4, v5, v6, v7] t (0, 0))) : w.cell? ⟨g, 0, none⟩ = some v0 ∧ w.cell? ⟨g, 1, none⟩ = some v1 ∧ w.cell? ⟨g, 2, none⟩ = some v2 ∧ w.cell? ⟨g, 3, none⟩ = some v3 ∧ w.cell? ⟨g, 4, none⟩ = some v4 ∧ w.cell? ⟨g, 5, none⟩ = some v5 ∧ w.cell? ⟨g, 6, none⟩ = some v6 ∧ w.cell? ⟨g, 7, none⟩ = some v7 :=
 ⟨(blk_cell h 0).trans rfl, (blk_cell h 1).trans rfl, (blk_cell h 2).trans rfl, (blk_cell h 3).trans rfl, (blk_cell h 4).trans rfl, (blk_cell h 5).trans rfl, (blk_cell h 6).trans rfl, (blk_cell h 7).trans rfl⟩
theorem eqU_loop (l : List Int) (hl : l.length ≤ 2097152) : ∀ (d k i : Nat), i + d = l.length → d < k → laws_eqUint64S.l0 k l l (i : Int) = some true := by
 intro d
 induction d with
 | zero =>
  intro k i hi hk
  obtain ⟨k, rfl⟩ : ∃ m, k = m + 1 := ⟨k - 1, by omega⟩
  rw [laws_eqUint64S.l0, if_neg (by omega)]
 | succ d ih =>
  intro k i hi hk
  obtain ⟨k, rfl⟩ : ∃ m, k = m + 1 := ⟨k - 1, by omega⟩
  rw [laws_eqUint64S.l0, if_pos (by omega), if_pos (by omega), if_pos (by omega), if_pos rfl, wrap_up i (by omega)]
  exact ih k (i + 1) (by omega) (by omega)
theorem eqU_self (l : List Int) (hl : l.length ≤ 2097152) (k : Nat) (hk : 2097152 < k) : laws_eqUint64S.f k l l = some true := by
 unfold laws_eqUint64S.f
 rw [if_pos rfl]
 exact eqU_loop l hl l.length k 0 (by omega) (by omega)
theorem eqByteS_same (A : Option Addr) (c : Nat) (B : Option Addr) (d : Nat) (l : List Int) (w : World) (h1 : Kd.C (Kd.int .u8) w A l.length l) (k1 : l.length ≤ c) (h2 : Kd.C (Kd.int .u8) w B l.length l) (k2 : l.length ≤ d) (hl : l.length ≤ 2097152) :
  Calls Tryd.prog 12 #[.slice A l.length c, .slice B l.length d] w fun r w' => r = .returned (.bool true) ∧ Below w.heap.size w w' := by
 refine (laws_eqByteS.calls 3000000 A c l B d l true w h1 k1 h2 k2 (eqByteS_self l (by omega) 3000000 (by omega))).mono ?_
 rintro e w' ⟨rfl, hb⟩
 exact ⟨rfl, hb.below⟩
theorem eqUint64S_same (A : Option Addr) (c : Nat) (B : Option Addr) (d : Nat) (l : List Int) (w : World) (h1 : Kd.C (Kd.int .u64) w A l.length l) (k1 : l.length ≤ c) (h2 : Kd.C (Kd.int .u64) w B l.length l) (k2 : l.length ≤ d) (hl : l.length ≤ 2097152) :
  Calls Tryd.prog 20 #[.slice A l.length c, .slice B l.length d] w fun r w' => r = .returned (.bool true) ∧ Below w.heap.size w w' := by
 refine (laws_eqUint64S.calls 3000000 A c l B d l true w h1 k1 h2 k2 (eqU_self l hl 3000000 (by omega))).mono ?_
 rintro e w' ⟨rfl, hb⟩
 exact ⟨rfl, hb.below⟩
set_option maxHeartbeats 4000000 in
set_option maxRecDepth 100000 in
theorem eqEvent_same (l0 : Int) (l1 : List Int) (A1 : Option Addr) (a1 : Nat) (B1 : Option Addr) (b1 : Nat) (w : World) (h1 : Kd.C (Kd.int .u8) w A1 l1.length l1) (k1 : l1.length ≤ a1) (g1 : Kd.C (Kd.int .u8) w B1 l1.length l1) (j1 : l1.length ≤ b1) (z1 : l1.length ≤ 2097152) :
  Calls Tryd.prog 148 #[.agg #[.int .i64 l0, .slice A1 l1.length a1], .agg #[.int .i64 l0, .slice B1 l1.length b1]] w fun r w' => r = .returned (.bool true) ∧ Below w.heap.size w w' := by
 have K1 := Aside0.mk (fun (W : World) (hW : Below w.heap.size w W) => eqByteS_same A1 a1 B1 b1 l1 W (Kd.C_below h1 hW) k1 (Kd.C_below g1 hW) j1 z1)
 clear h1 k1 g1 j1 z1
 go_enter Tryd.func148, Tryd.ntmps148
 go_upto_region 1 with (fail)
 have bx0 := blk_alloc (blk_new w (.cells #[.int .i64 l0, .slice A1 l1.length a1] 138)) (.cells #[.int .i64 l0, .slice B1 l1.length b1] 138)
 have bx1 := blk_new (w.alloc (.cells #[.int .i64 l0, .slice A1 l1.length a1] 138)) (.cells #[.int .i64 l0, .slice B1 l1.length b1] 138)
 simp only [World.size_alloc] at bx1
 have hB := below_alloc (below_alloc (Below.refl w.heap.size w) (.cells #[.int .i64 l0, .slice A1 l1.length a1] 138)) (.cells #[.int .i64 l0, .slice B1 l1.length b1] 138)
 generalize (w.alloc (.cells #[.int .i64 l0, .slice A1 l1.length a1] 138)).alloc (.cells #[.int .i64 l0, .slice B1 l1.length b1] 138) = W0 at *
 have BA := Aside0.mk bx0
 have BB := Aside0.mk bx1
 have HB := Aside0.mk hB
 clear bx0 bx1 hB
 have q0 : (l0 != l0) = false := by simp
 have p0 : (l0 == l0) = true := by simp
 obtain ⟨x0, x1⟩ := cells2 BA.out
 obtain ⟨y0, y1⟩ := cells2 BB.out
 go_wp2_with fail
 refine (K1.out _ HB.out).mono ?_
 rintro r W1 ⟨rfl, hb⟩
 clear x0 y0 x1 y1
 replace BA := Aside0.mk (blk_below BA.out hb)
 replace BB := Aside0.mk (blk_below BB.out hb)
 replace HB := Aside0.mk (below_step HB.out hb)
 clear hb
 obtain ⟨x0, x1⟩ := cells2 BA.out
 obtain ⟨y0, y1⟩ := cells2 BB.out
 go_wp2_with fail
 go_ret
 exact ⟨rfl, HB.out⟩
set_option maxHeartbeats 4000000 in
set_option maxRecDepth 100000 in
theorem eqEventS_same (A : Option Addr) (c : Nat) (B : Option Addr) (d : Nat) (xs : List Ev) (w : World) (h1 : Kd.C kEv w A xs.length xs) (k1 : xs.length ≤ c) (h2 : Kd.C kEv w B xs.length xs) (k2 : xs.length ≤ d) (hl : xs.length ≤ 2097152 ∧ ∀ y ∈ xs, y.f1.length ≤ 2097152) :
  Calls Tryd.prog 129 #[.slice A xs.length c, .slice B xs.length d] w fun r w' => r = .returned (.bool true) ∧ Below w.heap.size w w' := by
 have H1 := Aside0.mk h1
 have H2 := Aside0.mk h2
 have HL := Aside0.mk hl
 have hxl := hl.1
 have q0 : ((xs.length : Int) != (xs.length : Int)) = false := by simp
 clear h1 h2 k1 k2 hl
 go_enter Tryd.func129, Tryd.ntmps129
 go_wp2
 go_loopg [5] (xs.length + 1) (fun kq v5 w' => ∃ i : Nat, v5 = .int .i64 i ∧ Aside0 (kq + i = xs.length + 1 ∧ i ≤ xs.length) ∧ Aside0 (Below w.heap.size w w'))
 case atStart => exact ⟨0, rfl, ⟨⟨by omega, by omega⟩⟩, ⟨Below.refl _ _⟩⟩
 case round =>
  obtain ⟨i, rfl, HJ, HB⟩ := hrel
  have hj0 := HJ.out
  by_cases hj : i < xs.length
  ·
   have c1 : decide ((i : Int) < (xs.length : Int)) = true := decide_eq_true (by omega)
   have c2 : decide (i < xs.length) = true := decide_eq_true hj
   have ci : (0 : Int) ≤ (i : Int) := by omega
   have ci2 : (i : Int) < (xs.length : Int) := by omega
   obtain ⟨adA, A1, a1, eA, x0, x1, hlA1, hiA1⟩ := at_T138 H1.out (i : Int) ci ci2
   obtain ⟨adB, B1, b1, eB, y0, y1, hlB1, hiB1⟩ := at_T138 H2.out (i : Int) ci ci2
   have ex : rd_T138 xs (i : Int) = xs[i] := by unfold rd_T138; rw [Int.toNat_natCast, List.getD_eq_getElem?_getD, List.getElem?_eq_getElem hj]; rfl
   rw [ex, Int.toNat_natCast] at x0 y0
   rw [ex] at hlA1 hiA1 hlB1 hiB1 x1 y1
   cases eA
   cases eB
   have hz := HL.out.2 xs[i] (List.getElem_mem hj)
   have KK := Aside0.mk (fun (W : World) (hW : Below w.heap.size w W) => eqEvent_same xs[i].f0 xs[i].f1 A1 a1 B1 b1 W (Kd.C_below hiA1 hW) hlA1 (Kd.C_below hiB1 hW) hlB1 hz)
   have hal : ∀ {a : Addr} {z : Value}, w.cell? a = some z → wr.cell? a = some z := fun hz => (HB.out.cell (World.block_lt_of_cell? w _ hz)).trans hz
   rw [Int.toNat_natCast] at x1 y1
   replace x0 := hal x0
   replace y0 := hal y0
   replace x1 := hal x1
   replace y1 := hal y1
   clear hal ex hz hlA1 hiA1 hlB1 hiB1
   obtain ⟨y, hy⟩ : ∃ y, xs[i] = y := ⟨_, rfl⟩
   rw [hy] at KK x0 y0 x1 y1
   clear hy
   go_wp2_with fail
   first | go_region_held3 (fun w' => w'.cell? (adA.add (i * 2)) = some (.int .i64 y.f0) ∧ w'.cell? ⟨(adA.add (i * 2)).block, (adA.add (i * 2)).off + 1, none⟩ = some (.slice A1 y.f1.length a1) ∧ w'.cell? (adB.add (i * 2)) = some (.int .i64 y.f0) ∧ w'.cell? ⟨(adB.add (i * 2)).block, (adB.add (i * 2)).off + 1, none⟩ = some (.slice B1 y.f1.length b1)) (first | exact ⟨x0, x1, y0, y1⟩) (first | (go_at_call 148; refine (KK.out _ (by with_reducible repeat (first | exact HB.out | apply below_drew1))).mono ?_; rintro r W1 ⟨rfl, hb0⟩; have hb : Below wr.heap.size wr W1 := (by first | exact hb0 | exact (below_drew1 (Below.refl wr.heap.size wr)).trans hb0); clear hb0; replace HB := Aside0.mk (below_step HB.out hb); replace x0 := (hb.cell (World.block_lt_of_cell? _ _ x0)).trans x0; replace x1 := (hb.cell (World.block_lt_of_cell? _ _ x1)).trans x1; replace y0 := (hb.cell (World.block_lt_of_cell? _ _ y0)).trans y0; replace y1 := (hb.cell (World.block_lt_of_cell? _ _ y1)).trans y1; clear hb)) | fail
   have hj2 := HJ.out
   obtain ⟨k1, rfl⟩ : ∃ k1, gk = k1 + 1 := ⟨gk - 1, by omega⟩
   go_wp2_with fail
   go_roundg k1
   case measure => omega
   case rel => exact ⟨i + 1, by go_num, ⟨⟨by omega, by omega⟩⟩, HB⟩
  ·
   have c1 : decide ((i : Int) < (xs.length : Int)) = false := decide_eq_false (by omega)
   have c2 : decide (i < xs.length) = false := decide_eq_false hj
   go_wp2_with fail
   go_ret
   exact ⟨rfl, HB.out⟩
set_option maxHeartbeats 4000000 in
set_option maxRecDepth 100000 in
theorem eqSession_same (l0 : Int) (l1 : Int) (l2 : List Ev) (A2 : Option Addr) (a2 : Nat) (B2 : Option Addr) (b2 : Nat) (w : World) (h2 : Kd.C (kEv) w A2 l2.length l2) (k2 : l2.length ≤ a2) (g2 : Kd.C (kEv) w B2 l2.length l2) (j2 : l2.length ≤ b2) (z2 : l2.length ≤ 2097152 ∧ ∀ y ∈ l2, y.f1.length ≤ 2097152) :
  Calls Tryd.prog 102 #[.agg #[.int .u64 l0, .int .i64 l1, .slice A2 l2.length a2], .agg #[.int .u64 l0, .int .i64 l1, .slice B2 l2.length b2]] w fun r w' => r = .returned (.bool true) ∧ Below w.heap.size w w' := by
 have K2 := Aside0.mk (fun (W : World) (hW : Below w.heap.size w W) => eqEventS_same A2 a2 B2 b2 l2 W (Kd.C_below h2 hW) k2 (Kd.C_below g2 hW) j2 z2)
 clear h2 k2 g2 j2 z2
 go_enter Tryd.func102, Tryd.ntmps102
 go_upto_region 1 with (fail)
 have bx0 := blk_alloc (blk_new w (.cells #[.int .u64 l0, .int .i64 l1, .slice A2 l2.length a2] 70)) (.cells #[.int .u64 l0, .int .i64 l1, .slice B2 l2.length b2] 70)
 have bx1 := blk_new (w.alloc (.cells #[.int .u64 l0, .int .i64 l1, .slice A2 l2.length a2] 70)) (.cells #[.int .u64 l0, .int .i64 l1, .slice B2 l2.length b2] 70)
 simp only [World.size_alloc] at bx1
 have hB := below_alloc (below_alloc (Below.refl w.heap.size w) (.cells #[.int .u64 l0, .int .i64 l1, .slice A2 l2.length a2] 70)) (.cells #[.int .u64 l0, .int .i64 l1, .slice B2 l2.length b2] 70)
 generalize (w.alloc (.cells #[.int .u64 l0, .int .i64 l1, .slice A2 l2.length a2] 70)).alloc (.cells #[.int .u64 l0, .int .i64 l1, .slice B2 l2.length b2] 70) = W0 at *
 have BA := Aside0.mk bx0
 have BB := Aside0.mk bx1
 have HB := Aside0.mk hB
 clear bx0 bx1 hB
 have q0 : (l0 != l0) = false := by simp
 have p0 : (l0 == l0) = true := by simp
 have q1 : (l1 != l1) = false := by simp
 have p1 : (l1 == l1) = true := by simp
 obtain ⟨x0, x1, x2⟩ := cells3 BA.out
 obtain ⟨y0, y1, y2⟩ := cells3 BB.out
 go_wp2_with fail
 refine (K2.out _ HB.out).mono ?_
 rintro r W1 ⟨rfl, hb⟩
 clear x0 y0 x1 y1 x2 y2
 replace BA := Aside0.mk (blk_below BA.out hb)
 replace BB := Aside0.mk (blk_below BB.out hb)
 replace HB := Aside0.mk (below_step HB.out hb)
 clear hb
 obtain ⟨x0, x1, x2⟩ := cells3 BA.out
 obtain ⟨y0, y1, y2⟩ := cells3 BB.out
 go_wp2_with fail
 go_ret
 exact ⟨rfl, HB.out⟩
set_option maxHeartbeats 4000000 in
set_option maxRecDepth 100000 in
theorem eqSessionS_same (A : Option Addr) (c : Nat) (B : Option Addr) (d : Nat) (xs : List Se) (w : World) (h1 : Kd.C kSe w A xs.length xs) (k1 : xs.length ≤ c) (h2 : Kd.C kSe w B xs.length xs) (k2 : xs.length ≤ d) (hl : xs.length ≤ 2097152 ∧ ∀ x ∈ xs, x.f2.length ≤ 2097152 ∧ ∀ y ∈ x.f2, y.f1.length ≤ 2097152) :
  Calls Tryd.prog 55 #[.slice A xs.length c, .slice B xs.length d] w fun r w' => r = .returned (.bool true) ∧ Below w.heap.size w w' := by
 have H1 := Aside0.mk h1
 have H2 := Aside0.mk h2
 have HL := Aside0.mk hl
 have hxl := hl.1
 have q0 : ((xs.length : Int) != (xs.length : Int)) = false := by simp
 clear h1 h2 k1 k2 hl
 go_enter Tryd.func55, Tryd.ntmps55
 go_wp2
 go_loopg [5] (xs.length + 1) (fun kq v5 w' => ∃ i : Nat, v5 = .int .i64 i ∧ Aside0 (kq + i = xs.length + 1 ∧ i ≤ xs.length) ∧ Aside0 (Below w.heap.size w w'))
 case atStart => exact ⟨0, rfl, ⟨⟨by omega, by omega⟩⟩, ⟨Below.refl _ _⟩⟩
 case round =>
  obtain ⟨i, rfl, HJ, HB⟩ := hrel
  have hj0 := HJ.out
  by_cases hj : i < xs.length
  ·
   have c1 : decide ((i : Int) < (xs.length : Int)) = true := decide_eq_true (by omega)
   have c2 : decide (i < xs.length) = true := decide_eq_true hj
   have ci : (0 : Int) ≤ (i : Int) := by omega
   have ci2 : (i : Int) < (xs.length : Int) := by omega
   obtain ⟨adA, A2, a2, eA, x0, x1, x2, hlA2, hiA2⟩ := at_T70 H1.out (i : Int) ci ci2
   obtain ⟨adB, B2, b2, eB, y0, y1, y2, hlB2, hiB2⟩ := at_T70 H2.out (i : Int) ci ci2
   have ex : rd_T70 xs (i : Int) = xs[i] := by unfold rd_T70; rw [Int.toNat_natCast, List.getD_eq_getElem?_getD, List.getElem?_eq_getElem hj]; rfl
   rw [ex, Int.toNat_natCast] at x0 x1 y0 y1
   rw [ex] at hlA2 hiA2 hlB2 hiB2 x2 y2
   cases eA
   cases eB
   have hz := HL.out.2 xs[i] (List.getElem_mem hj)
   have KK := Aside0.mk (fun (W : World) (hW : Below w.heap.size w W) => eqSession_same xs[i].f0 xs[i].f1 xs[i].f2 A2 a2 B2 b2 W (Kd.C_below hiA2 hW) hlA2 (Kd.C_below hiB2 hW) hlB2 hz)
   have hal : ∀ {a : Addr} {z : Value}, w.cell? a = some z → wr.cell? a = some z := fun hz => (HB.out.cell (World.block_lt_of_cell? w _ hz)).trans hz
   rw [Int.toNat_natCast] at x2 y2
   replace x0 := hal x0
   replace y0 := hal y0
   replace x1 := hal x1
   replace y1 := hal y1
   replace x2 := hal x2
   replace y2 := hal y2
   clear hal ex hz hlA2 hiA2 hlB2 hiB2
   obtain ⟨y, hy⟩ : ∃ y, xs[i] = y := ⟨_, rfl⟩
   rw [hy] at KK x0 y0 x1 y1 x2 y2
   clear hy
   go_wp2_with fail
   first | go_region_held3 (fun w' => w'.cell? (adA.add (i * 3)) = some (.int .u64 y.f0) ∧ w'.cell? ⟨(adA.add (i * 3)).block, (adA.add (i * 3)).off + 1, none⟩ = some (.int .i64 y.f1) ∧ w'.cell? ⟨(adA.add (i * 3)).block, (adA.add (i * 3)).off + 2, none⟩ = some (.slice A2 y.f2.length a2) ∧ w'.cell? (adB.add (i * 3)) = some (.int .u64 y.f0) ∧ w'.cell? ⟨(adB.add (i * 3)).block, (adB.add (i * 3)).off + 1, none⟩ = some (.int .i64 y.f1) ∧ w'.cell? ⟨(adB.add (i * 3)).block, (adB.add (i * 3)).off + 2, none⟩ = some (.slice B2 y.f2.length b2)) (first | exact ⟨x0, x1, x2, y0, y1, y2⟩) (first | (go_at_call 102; refine (KK.out _ (by with_reducible repeat (first | exact HB.out | apply below_drew1))).mono ?_; rintro r W1 ⟨rfl, hb0⟩; have hb : Below wr.heap.size wr W1 := (by first | exact hb0 | exact (below_drew1 (Below.refl wr.heap.size wr)).trans hb0); clear hb0; replace HB := Aside0.mk (below_step HB.out hb); replace x0 := (hb.cell (World.block_lt_of_cell? _ _ x0)).trans x0; replace x1 := (hb.cell (World.block_lt_of_cell? _ _ x1)).trans x1; replace x2 := (hb.cell (World.block_lt_of_cell? _ _ x2)).trans x2; replace y0 := (hb.cell (World.block_lt_of_cell? _ _ y0)).trans y0; replace y1 := (hb.cell (World.block_lt_of_cell? _ _ y1)).trans y1; replace y2 := (hb.cell (World.block_lt_of_cell? _ _ y2)).trans y2; clear hb)) | fail
   have hj2 := HJ.out
   obtain ⟨k1, rfl⟩ : ∃ k1, gk = k1 + 1 := ⟨gk - 1, by omega⟩
   go_wp2_with fail
   go_roundg k1
   case measure => omega
   case rel => exact ⟨i + 1, by go_num, ⟨⟨by omega, by omega⟩⟩, HB⟩
  ·
   have c1 : decide ((i : Int) < (xs.length : Int)) = false := decide_eq_false (by omega)
   have c2 : decide (i < xs.length) = false := decide_eq_false hj
   go_wp2_with fail
   go_ret
   exact ⟨rfl, HB.out⟩
set_option maxHeartbeats 4000000 in
set_option maxRecDepth 100000 in
theorem eqNode_same (l0 : List Int) (l1 : List Int) (l2 : Int) (l3 : Int) (l4 : List Int) (l5 : Int) (l6 : Int) (l7 : List Int) (A0 : Option Addr) (a0 : Nat) (B0 : Option Addr) (b0 : Nat) (A1 : Option Addr) (a1 : Nat) (B1 : Option Addr) (b1 : Nat) (A4 : Option Addr) (a4 : Nat) (B4 : Option Addr) (b4 : Nat) (A7 : Option Addr) (a7 : Nat) (B7 : Option Addr) (b7 : Nat) (w : World) (h0 : Kd.C (Kd.int .u8) w A0 l0.length l0) (k0 : l0.length ≤ a0) (g0 : Kd.C (Kd.int .u8) w B0 l0.length l0) (j0 : l0.length ≤ b0) (z0 : l0.length ≤ 2097152) (h1 : Kd.C (Kd.int .u8) w A1 l1.length l1) (k1 : l1.length ≤ a1) (g1 : Kd.C (Kd.int .u8) w B1 l1.length l1) (j1 : l1.length ≤ b1) (z1 : l1.length ≤ 2097152) (h4 : Kd.C (Kd.int .u64) w A4 l4.length l4) (k4 : l4.length ≤ a4) (g4 : Kd.C (Kd.int .u64) w B4 l4.length l4) (j4 : l4.length ≤ b4) (z4 : l4.length ≤ 2097152) (h7 : Kd.C (Kd.int .u64) w A7 l7.length l7) (k7 : l7.length ≤ a7) (g7 : Kd.C (Kd.int .u64) w B7 l7.length l7) (j7 : l7.length ≤ b7) (z7 : l7.length ≤ 2097152) :
  Calls Tryd.prog 103 #[.agg #[.slice A0 l0.length a0, .slice A1 l1.length a1, .int .u64 l2, .int .i64 l3, .slice A4 l4.length a4, .int .u64 l5, .int .u64 l6, .slice A7 l7.length a7], .agg #[.slice B0 l0.length b0, .slice B1 l1.length b1, .int .u64 l2, .int .i64 l3, .slice B4 l4.length b4, .int .u64 l5, .int .u64 l6, .slice B7 l7.length b7]] w fun r w' => r = .returned (.bool true) ∧ Below w.heap.size w w' := by
 have K0 := Aside0.mk (fun (W : World) (hW : Below w.heap.size w W) => eqByteS_same A0 a0 B0 b0 l0 W (Kd.C_below h0 hW) k0 (Kd.C_below g0 hW) j0 z0)
 have K1 := Aside0.mk (fun (W : World) (hW : Below w.heap.size w W) => eqByteS_same A1 a1 B1 b1 l1 W (Kd.C_below h1 hW) k1 (Kd.C_below g1 hW) j1 z1)
 have K4 := Aside0.mk (fun (W : World) (hW : Below w.heap.size w W) => eqUint64S_same A4 a4 B4 b4 l4 W (Kd.C_below h4 hW) k4 (Kd.C_below g4 hW) j4 z4)
 have K7 := Aside0.mk (fun (W : World) (hW : Below w.heap.size w W) => eqUint64S_same A7 a7 B7 b7 l7 W (Kd.C_below h7 hW) k7 (Kd.C_below g7 hW) j7 z7)
 clear h0 k0 g0 j0 z0 h1 k1 g1 j1 z1 h4 k4 g4 j4 z4 h7 k7 g7 j7 z7
 go_enter Tryd.func103, Tryd.ntmps103
 go_upto_region 1 with (fail)
 have bx0 := blk_alloc (blk_new w (.cells #[.slice A0 l0.length a0, .slice A1 l1.length a1, .int .u64 l2, .int .i64 l3, .slice A4 l4.length a4, .int .u64 l5, .int .u64 l6, .slice A7 l7.length a7] 76)) (.cells #[.slice B0 l0.length b0, .slice B1 l1.length b1, .int .u64 l2, .int .i64 l3, .slice B4 l4.length b4, .int .u64 l5, .int .u64 l6, .slice B7 l7.length b7] 76)
 have bx1 := blk_new (w.alloc (.cells #[.slice A0 l0.length a0, .slice A1 l1.length a1, .int .u64 l2, .int .i64 l3, .slice A4 l4.length a4, .int .u64 l5, .int .u64 l6, .slice A7 l7.length a7] 76)) (.cells #[.slice B0 l0.length b0, .slice B1 l1.length b1, .int .u64 l2, .int .i64 l3, .slice B4 l4.length b4, .int .u64 l5, .int .u64 l6, .slice B7 l7.length b7] 76)
 simp only [World.size_alloc] at bx1
 have hB := below_alloc (below_alloc (Below.refl w.heap.size w) (.cells #[.slice A0 l0.length a0, .slice A1 l1.length a1, .int .u64 l2, .int .i64 l3, .slice A4 l4.length a4, .int .u64 l5, .int .u64 l6, .slice A7 l7.length a7] 76)) (.cells #[.slice B0 l0.length b0, .slice B1 l1.length b1, .int .u64 l2, .int .i64 l3, .slice B4 l4.length b4, .int .u64 l5, .int .u64 l6, .slice B7 l7.length b7] 76)
 generalize (w.alloc (.cells #[.slice A0 l0.length a0, .slice A1 l1.length a1, .int .u64 l2, .int .i64 l3, .slice A4 l4.length a4, .int .u64 l5, .int .u64 l6, .slice A7 l7.length a7] 76)).alloc (.cells #[.slice B0 l0.length b0, .slice B1 l1.length b1, .int .u64 l2, .int .i64 l3, .slice B4 l4.length b4, .int .u64 l5, .int .u64 l6, .slice B7 l7.length b7] 76) = W0 at *
 have BA := Aside0.mk bx0
 have BB := Aside0.mk bx1
 have HB := Aside0.mk hB
 clear bx0 bx1 hB
 have q2 : (l2 != l2) = false := by simp
 have p2 : (l2 == l2) = true := by simp
 have q3 : (l3 != l3) = false := by simp
 have p3 : (l3 == l3) = true := by simp
 have q5 : (l5 != l5) = false := by simp
 have p5 : (l5 == l5) = true := by simp
 have q6 : (l6 != l6) = false := by simp
 have p6 : (l6 == l6) = true := by simp
 obtain ⟨x0, x1, x2, x3, x4, x5, x6, x7⟩ := cells8 BA.out
 obtain ⟨y0, y1, y2, y3, y4, y5, y6, y7⟩ := cells8 BB.out
 go_wp2_with fail
 refine (K0.out _ HB.out).mono ?_
 rintro r W1 ⟨rfl, hb⟩
 clear x0 y0 x1 y1 x2 y2 x3 y3 x4 y4 x5 y5 x6 y6 x7 y7
 replace BA := Aside0.mk (blk_below BA.out hb)
 replace BB := Aside0.mk (blk_below BB.out hb)
 replace HB := Aside0.mk (below_step HB.out hb)
 clear hb
 obtain ⟨x0, x1, x2, x3, x4, x5, x6, x7⟩ := cells8 BA.out
 obtain ⟨y0, y1, y2, y3, y4, y5, y6, y7⟩ := cells8 BB.out
 go_wp2_with fail
 refine (K1.out _ HB.out).mono ?_
 rintro r W2 ⟨rfl, hb⟩
 clear x0 y0 x1 y1 x2 y2 x3 y3 x4 y4 x5 y5 x6 y6 x7 y7
 replace BA := Aside0.mk (blk_below BA.out hb)
 replace BB := Aside0.mk (blk_below BB.out hb)
 replace HB := Aside0.mk (below_step HB.out hb)
 clear hb
 obtain ⟨x0, x1, x2, x3, x4, x5, x6, x7⟩ := cells8 BA.out
 obtain ⟨y0, y1, y2, y3, y4, y5, y6, y7⟩ := cells8 BB.out
 go_wp2_with fail
 refine (K4.out _ HB.out).mono ?_
 rintro r W3 ⟨rfl, hb⟩
 clear x0 y0 x1 y1 x2 y2 x3 y3 x4 y4 x5 y5 x6 y6 x7 y7
 replace BA := Aside0.mk (blk_below BA.out hb)
 replace BB := Aside0.mk (blk_below BB.out hb)
 replace HB := Aside0.mk (below_step HB.out hb)
 clear hb
 obtain ⟨x0, x1, x2, x3, x4, x5, x6, x7⟩ := cells8 BA.out
 obtain ⟨y0, y1, y2, y3, y4, y5, y6, y7⟩ := cells8 BB.out
 go_wp2_with fail
 refine (K7.out _ HB.out).mono ?_
 rintro r W4 ⟨rfl, hb⟩
 clear x0 y0 x1 y1 x2 y2 x3 y3 x4 y4 x5 y5 x6 y6 x7 y7
 replace BA := Aside0.mk (blk_below BA.out hb)
 replace BB := Aside0.mk (blk_below BB.out hb)
 replace HB := Aside0.mk (below_step HB.out hb)
 clear hb
 obtain ⟨x0, x1, x2, x3, x4, x5, x6, x7⟩ := cells8 BA.out
 obtain ⟨y0, y1, y2, y3, y4, y5, y6, y7⟩ := cells8 BB.out
 go_wp2_with fail
 go_ret
 exact ⟨rfl, HB.out⟩
set_option maxHeartbeats 4000000 in
set_option maxRecDepth 100000 in
theorem eqNodeS_same (A : Option Addr) (c : Nat) (B : Option Addr) (d : Nat) (xs : List No) (w : World) (h1 : Kd.C kNo w A xs.length xs) (k1 : xs.length ≤ c) (h2 : Kd.C kNo w B xs.length xs) (k2 : xs.length ≤ d) (hl : xs.length ≤ 2097152 ∧ ∀ x ∈ xs, (x.f0.length ≤ 2097152 ∧ x.f1.length ≤ 2097152) ∧ x.f4.length ≤ 2097152 ∧ x.f7.length ≤ 2097152) :
  Calls Tryd.prog 56 #[.slice A xs.length c, .slice B xs.length d] w fun r w' => r = .returned (.bool true) ∧ Below w.heap.size w w' := by
 have H1 := Aside0.mk h1
 have H2 := Aside0.mk h2
 have HL := Aside0.mk hl
 have hxl := hl.1
 have q0 : ((xs.length : Int) != (xs.length : Int)) = false := by simp
 clear h1 h2 k1 k2 hl
 go_enter Tryd.func56, Tryd.ntmps56
 go_wp2
 go_loopg [5] (xs.length + 1) (fun kq v5 w' => ∃ i : Nat, v5 = .int .i64 i ∧ Aside0 (kq + i = xs.length + 1 ∧ i ≤ xs.length) ∧ Aside0 (Below w.heap.size w w'))
 case atStart => exact ⟨0, rfl, ⟨⟨by omega, by omega⟩⟩, ⟨Below.refl _ _⟩⟩
 case round =>
  obtain ⟨i, rfl, HJ, HB⟩ := hrel
  have hj0 := HJ.out
  by_cases hj : i < xs.length
  ·
   have c1 : decide ((i : Int) < (xs.length : Int)) = true := decide_eq_true (by omega)
   have c2 : decide (i < xs.length) = true := decide_eq_true hj
   have ci : (0 : Int) ≤ (i : Int) := by omega
   have ci2 : (i : Int) < (xs.length : Int) := by omega
   obtain ⟨adA, A0, a0, A1, a1, A4, a4, A7, a7, eA, x0, x1, x2, x3, x4, x5, x6, x7, hlA0, hiA0, hlA1, hiA1, hlA4, hiA4, hlA7, hiA7⟩ := at_T76 H1.out (i : Int) ci ci2
   obtain ⟨adB, B0, b0, B1, b1, B4, b4, B7, b7, eB, y0, y1, y2, y3, y4, y5, y6, y7, hlB0, hiB0, hlB1, hiB1, hlB4, hiB4, hlB7, hiB7⟩ := at_T76 H2.out (i : Int) ci ci2
   have ex : rd_T76 xs (i : Int) = xs[i] := by unfold rd_T76; rw [Int.toNat_natCast, List.getD_eq_getElem?_getD, List.getElem?_eq_getElem hj]; rfl
   rw [ex, Int.toNat_natCast] at x2 x3 x5 x6 y2 y3 y5 y6
   rw [ex] at hlA0 hiA0 hlB0 hiB0 hlA1 hiA1 hlB1 hiB1 hlA4 hiA4 hlB4 hiB4 hlA7 hiA7 hlB7 hiB7 x0 y0 x1 y1 x4 y4 x7 y7
   cases eA
   cases eB
   have hz := HL.out.2 xs[i] (List.getElem_mem hj)
   have KK := Aside0.mk (fun (W : World) (hW : Below w.heap.size w W) => eqNode_same xs[i].f0 xs[i].f1 xs[i].f2 xs[i].f3 xs[i].f4 xs[i].f5 xs[i].f6 xs[i].f7 A0 a0 B0 b0 A1 a1 B1 b1 A4 a4 B4 b4 A7 a7 B7 b7 W (Kd.C_below hiA0 hW) hlA0 (Kd.C_below hiB0 hW) hlB0 hz.1.1 (Kd.C_below hiA1 hW) hlA1 (Kd.C_below hiB1 hW) hlB1 hz.1.2 (Kd.C_below hiA4 hW) hlA4 (Kd.C_below hiB4 hW) hlB4 hz.2.1 (Kd.C_below hiA7 hW) hlA7 (Kd.C_below hiB7 hW) hlB7 hz.2.2)
   have hal : ∀ {a : Addr} {z : Value}, w.cell? a = some z → wr.cell? a = some z := fun hz => (HB.out.cell (World.block_lt_of_cell? w _ hz)).trans hz
   rw [Int.toNat_natCast] at x0 y0
   rw [Int.toNat_natCast] at x1 y1
   rw [Int.toNat_natCast] at x4 y4
   rw [Int.toNat_natCast] at x7 y7
   replace x0 := hal x0
   replace y0 := hal y0
   replace x1 := hal x1
   replace y1 := hal y1
   replace x2 := hal x2
   replace y2 := hal y2
   replace x3 := hal x3
   replace y3 := hal y3
   replace x4 := hal x4
   replace y4 := hal y4
   replace x5 := hal x5
   replace y5 := hal y5
   replace x6 := hal x6
   replace y6 := hal y6
   replace x7 := hal x7
   replace y7 := hal y7
   clear hal ex hz hlA0 hiA0 hlB0 hiB0 hlA1 hiA1 hlB1 hiB1 hlA4 hiA4 hlB4 hiB4 hlA7 hiA7 hlB7 hiB7
   obtain ⟨y, hy⟩ : ∃ y, xs[i] = y := ⟨_, rfl⟩
   rw [hy] at KK x0 y0 x1 y1 x2 y2 x3 y3 x4 y4 x5 y5 x6 y6 x7 y7
   clear hy
   go_wp2_with fail
   first | go_region_held3 (fun w' => w'.cell? (adA.add (i * 8)) = some (.slice A0 y.f0.length a0) ∧ w'.cell? ⟨(adA.add (i * 8)).block, (adA.add (i * 8)).off + 1, none⟩ = some (.slice A1 y.f1.length a1) ∧ w'.cell? ⟨(adA.add (i * 8)).block, (adA.add (i * 8)).off + 2, none⟩ = some (.int .u64 y.f2) ∧ w'.cell? ⟨(adA.add (i * 8)).block, (adA.add (i * 8)).off + 3, none⟩ = some (.int .i64 y.f3) ∧ w'.cell? ⟨(adA.add (i * 8)).block, (adA.add (i * 8)).off + 4, none⟩ = some (.slice A4 y.f4.length a4) ∧ w'.cell? ⟨(adA.add (i * 8)).block, (adA.add (i * 8)).off + 5, none⟩ = some (.int .u64 y.f5) ∧ w'.cell? ⟨(adA.add (i * 8)).block, (adA.add (i * 8)).off + 6, none⟩ = some (.int .u64 y.f6) ∧ w'.cell? ⟨(adA.add (i * 8)).block, (adA.add (i * 8)).off + 7, none⟩ = some (.slice A7 y.f7.length a7) ∧ w'.cell? (adB.add (i * 8)) = some (.slice B0 y.f0.length b0) ∧ w'.cell? ⟨(adB.add (i * 8)).block, (adB.add (i * 8)).off + 1, none⟩ = some (.slice B1 y.f1.length b1) ∧ w'.cell? ⟨(adB.add (i * 8)).block, (adB.add (i * 8)).off + 2, none⟩ = some (.int .u64 y.f2) ∧ w'.cell? ⟨(adB.add (i * 8)).block, (adB.add (i * 8)).off + 3, none⟩ = some (.int .i64 y.f3) ∧ w'.cell? ⟨(adB.add (i * 8)).block, (adB.add (i * 8)).off + 4, none⟩ = some (.slice B4 y.f4.length b4) ∧ w'.cell? ⟨(adB.add (i * 8)).block, (adB.add (i * 8)).off + 5, none⟩ = some (.int .u64 y.f5) ∧ w'.cell? ⟨(adB.add (i * 8)).block, (adB.add (i * 8)).off + 6, none⟩ = some (.int .u64 y.f6) ∧ w'.cell? ⟨(adB.add (i * 8)).block, (adB.add (i * 8)).off + 7, none⟩ = some (.slice B7 y.f7.length b7)) (first | exact ⟨x0, x1, x2, x3, x4, x5, x6, x7, y0, y1, y2, y3, y4, y5, y6, y7⟩) (first | (go_at_call 103; refine (KK.out _ (by with_reducible repeat (first | exact HB.out | apply below_drew1))).mono ?_; rintro r W1 ⟨rfl, hb0⟩; have hb : Below wr.heap.size wr W1 := (by first | exact hb0 | exact (below_drew1 (Below.refl wr.heap.size wr)).trans hb0); clear hb0; replace HB := Aside0.mk (below_step HB.out hb); replace x0 := (hb.cell (World.block_lt_of_cell? _ _ x0)).trans x0; replace x1 := (hb.cell (World.block_lt_of_cell? _ _ x1)).trans x1; replace x2 := (hb.cell (World.block_lt_of_cell? _ _ x2)).trans x2; replace x3 := (hb.cell (World.block_lt_of_cell? _ _ x3)).trans x3; replace x4 := (hb.cell (World.block_lt_of_cell? _ _ x4)).trans x4; replace x5 := (hb.cell (World.block_lt_of_cell? _ _ x5)).trans x5; replace x6 := (hb.cell (World.block_lt_of_cell? _ _ x6)).trans x6; replace x7 := (hb.cell (World.block_lt_of_cell? _ _ x7)).trans x7; replace y0 := (hb.cell (World.block_lt_of_cell? _ _ y0)).trans y0; replace y1 := (hb.cell (World.block_lt_of_cell? _ _ y1)).trans y1; replace y2 := (hb.cell (World.block_lt_of_cell? _ _ y2)).trans y2; replace y3 := (hb.cell (World.block_lt_of_cell? _ _ y3)).trans y3; replace y4 := (hb.cell (World.block_lt_of_cell? _ _ y4)).trans y4; replace y5 := (hb.cell (World.block_lt_of_cell? _ _ y5)).trans y5; replace y6 := (hb.cell (World.block_lt_of_cell? _ _ y6)).trans y6; replace y7 := (hb.cell (World.block_lt_of_cell? _ _ y7)).trans y7; clear hb)) | fail
   have hj2 := HJ.out
   obtain ⟨k1, rfl⟩ : ∃ k1, gk = k1 + 1 := ⟨gk - 1, by omega⟩
   go_wp2_with fail
   go_roundg k1
   case measure => omega
   case rel => exact ⟨i + 1, by go_num, ⟨⟨by omega, by omega⟩⟩, HB⟩
  ·
   have c1 : decide ((i : Int) < (xs.length : Int)) = false := decide_eq_false (by omega)
   have c2 : decide (i < xs.length) = false := decide_eq_false hj
   go_wp2_with fail
   go_ret
   exact ⟨rfl, HB.out⟩
set_option maxHeartbeats 4000000 in
set_option maxRecDepth 100000 in
theorem eqState_same (l0 : Int) (l1 : Int) (l2 : Int) (l3 : Int) (l4 : List Se) (l5 : List No) (A4 : Option Addr) (a4 : Nat) (B4 : Option Addr) (b4 : Nat) (A5 : Option Addr) (a5 : Nat) (B5 : Option Addr) (b5 : Nat) (w : World) (h4 : Kd.C (kSe) w A4 l4.length l4) (k4 : l4.length ≤ a4) (g4 : Kd.C (kSe) w B4 l4.length l4) (j4 : l4.length ≤ b4) (z4 : l4.length ≤ 2097152 ∧ ∀ x ∈ l4, x.f2.length ≤ 2097152 ∧ ∀ y ∈ x.f2, y.f1.length ≤ 2097152) (h5 : Kd.C (kNo) w A5 l5.length l5) (k5 : l5.length ≤ a5) (g5 : Kd.C (kNo) w B5 l5.length l5) (j5 : l5.length ≤ b5) (z5 : l5.length ≤ 2097152 ∧ ∀ x ∈ l5, (x.f0.length ≤ 2097152 ∧ x.f1.length ≤ 2097152) ∧ x.f4.length ≤ 2097152 ∧ x.f7.length ≤ 2097152) :
  Calls Tryd.prog 17 #[.agg #[.int .u64 l0, .int .u64 l1, .int .u64 l2, .int .i64 l3, .slice A4 l4.length a4, .slice A5 l5.length a5], .agg #[.int .u64 l0, .int .u64 l1, .int .u64 l2, .int .i64 l3, .slice B4 l4.length b4, .slice B5 l5.length b5]] w fun r w' => r = .returned (.bool true) ∧ Below w.heap.size w w' := by
 have K4 := Aside0.mk (fun (W : World) (hW : Below w.heap.size w W) => eqSessionS_same A4 a4 B4 b4 l4 W (Kd.C_below h4 hW) k4 (Kd.C_below g4 hW) j4 z4)
 have K5 := Aside0.mk (fun (W : World) (hW : Below w.heap.size w W) => eqNodeS_same A5 a5 B5 b5 l5 W (Kd.C_below h5 hW) k5 (Kd.C_below g5 hW) j5 z5)
 clear h4 k4 g4 j4 z4 h5 k5 g5 j5 z5
 go_enter Tryd.func17, Tryd.ntmps17
 go_upto_region 1 with (fail)
 have bx0 := blk_alloc (blk_new w (.cells #[.int .u64 l0, .int .u64 l1, .int .u64 l2, .int .i64 l3, .slice A4 l4.length a4, .slice A5 l5.length a5] 36)) (.cells #[.int .u64 l0, .int .u64 l1, .int .u64 l2, .int .i64 l3, .slice B4 l4.length b4, .slice B5 l5.length b5] 36)
 have bx1 := blk_new (w.alloc (.cells #[.int .u64 l0, .int .u64 l1, .int .u64 l2, .int .i64 l3, .slice A4 l4.length a4, .slice A5 l5.length a5] 36)) (.cells #[.int .u64 l0, .int .u64 l1, .int .u64 l2, .int .i64 l3, .slice B4 l4.length b4, .slice B5 l5.length b5] 36)
 simp only [World.size_alloc] at bx1
 have hB := below_alloc (below_alloc (Below.refl w.heap.size w) (.cells #[.int .u64 l0, .int .u64 l1, .int .u64 l2, .int .i64 l3, .slice A4 l4.length a4, .slice A5 l5.length a5] 36)) (.cells #[.int .u64 l0, .int .u64 l1, .int .u64 l2, .int .i64 l3, .slice B4 l4.length b4, .slice B5 l5.length b5] 36)
 generalize (w.alloc (.cells #[.int .u64 l0, .int .u64 l1, .int .u64 l2, .int .i64 l3, .slice A4 l4.length a4, .slice A5 l5.length a5] 36)).alloc (.cells #[.int .u64 l0, .int .u64 l1, .int .u64 l2, .int .i64 l3, .slice B4 l4.length b4, .slice B5 l5.length b5] 36) = W0 at *
 have BA := Aside0.mk bx0
 have BB := Aside0.mk bx1
 have HB := Aside0.mk hB
 clear bx0 bx1 hB
 have q0 : (l0 != l0) = false := by simp
 have p0 : (l0 == l0) = true := by simp
 have q1 : (l1 != l1) = false := by simp
 have p1 : (l1 == l1) = true := by simp
 have q2 : (l2 != l2) = false := by simp
 have p2 : (l2 == l2) = true := by simp
 have q3 : (l3 != l3) = false := by simp
 have p3 : (l3 == l3) = true := by simp
 obtain ⟨x0, x1, x2, x3, x4, x5⟩ := cells6 BA.out
 obtain ⟨y0, y1, y2, y3, y4, y5⟩ := cells6 BB.out
 go_wp2_with fail
 refine (K4.out _ HB.out).mono ?_
 rintro r W1 ⟨rfl, hb⟩
 clear x0 y0 x1 y1 x2 y2 x3 y3 x4 y4 x5 y5
 replace BA := Aside0.mk (blk_below BA.out hb)
 replace BB := Aside0.mk (blk_below BB.out hb)
 replace HB := Aside0.mk (below_step HB.out hb)
 clear hb
 obtain ⟨x0, x1, x2, x3, x4, x5⟩ := cells6 BA.out
 obtain ⟨y0, y1, y2, y3, y4, y5⟩ := cells6 BB.out
 go_wp2_with fail
 refine (K5.out _ HB.out).mono ?_
 rintro r W2 ⟨rfl, hb⟩
 clear x0 y0 x1 y1 x2 y2 x3 y3 x4 y4 x5 y5
 replace BA := Aside0.mk (blk_below BA.out hb)
 replace BB := Aside0.mk (blk_below BB.out hb)
 replace HB := Aside0.mk (below_step HB.out hb)
 clear hb
 obtain ⟨x0, x1, x2, x3, x4, x5⟩ := cells6 BA.out
 obtain ⟨y0, y1, y2, y3, y4, y5⟩ := cells6 BB.out
 go_wp2_with fail
 go_ret
 exact ⟨rfl, HB.out⟩
end Go.Proofs.YtbgbocdohadhoaaDoor.Print
namespace Go.Proofs.YtbgbocdohadhoaaDoor.Print
open Go.RowKit Go.Proofs.YtbgbocdohadhoaaDoorW.PrintWords Go.Proofs.YtbgbocdohadhoaaDoorW.PrintLast Go.Proofs.YtbgbocdohadhoaaDoorW.PrintMore
set_option linter.unusedVariables false
set_option linter.unusedSimpArgs false
def laws_szUint64S.f (l0 : List Int) (a1 : Int) : Option (Int) := if (wrap64 (a1 - (l0.length : Int))) < 0 then (some (-1)) else (some (wrap64 (a1 - (l0.length : Int))))
set_option maxHeartbeats 8000000 in
set_option maxRecDepth 100000 in
theorem laws_szUint64S.calls (A0 : Option Addr) (c0 : Nat) (l0 : List Int) (a1 : Int) (r : Int) (w : World) (hr0 : Kd.C (Kd.int .u64) w A0 l0.length l0) (hc0 : l0.length ≤ c0) (h : laws_szUint64S.f l0 a1 = some r) :
  Calls Tryd.prog 124 #[.slice A0 l0.length c0, .int .i64 a1] w fun e w' => e = .returned (.int .i64 r) ∧ Drawn0 w w' := by
 have HR0 := Aside0.mk hr0
 have HC0 := Aside0.mk hc0
 clear hr0 hc0
 have H : (if (wrap64 (a1 - (l0.length : Int))) < 0 then (some (-1)) else (some (wrap64 (a1 - (l0.length : Int))))) = some r := h
 clear h
 by_cases c3 : (wrap64 (a1 - (l0.length : Int))) < 0
 ·
  rw [if_pos c3] at H
  have c3b0 : decide ((wrap64 (a1 - (l0.length : Int))) < 0) = true := decide_eq_true c3
  clear c3
  obtain rfl := Option.some.inj H
  go_enter Tryd.func124, Tryd.ntmps124
  go_wp2
  go_ret
  exact ⟨by first | rfl | (simp; done) | (simp [*]; done), by repeat (first | exact Drawn0.refl _ | apply Drawn0.step)⟩
 ·
  rw [if_neg c3] at H
  have c3b0 : decide ((wrap64 (a1 - (l0.length : Int))) < 0) = false := decide_eq_false c3
  clear c3
  obtain rfl := Option.some.inj H
  go_enter Tryd.func124, Tryd.ntmps124
  go_wp2
  go_ret
  exact ⟨by first | rfl | (simp; done) | (simp [*]; done), by repeat (first | exact Drawn0.refl _ | apply Drawn0.step)⟩
end Go.Proofs.YtbgbocdohadhoaaDoor.Print
namespace Go.Proofs.YtbgbocdohadhoaaDoor.Print
open Go Go.RowKit Go.Proofs.YtbgbocdohadhoaaDoorW.PrintWords Go.Proofs.YtbgbocdohadhoaaDoorW.PrintLast Go.Proofs.YtbgbocdohadhoaaDoorW.PrintMore
set_option linter.unusedVariables false
set_option linter.unusedSimpArgs false
def sumL {α : Type} (ln : α → Nat) : List α → Nat
 | [] => 0
 | x :: r => ln x + sumL ln r
theorem sumL_snoc {α : Type} (ln : α → Nat) (xs : List α) (x : α) : sumL ln (xs ++ [x]) = sumL ln xs + ln x := by
 induction xs with
 | nil => simp [sumL]
 | cons y r ih => simp only [List.cons_append, sumL, ih]; omega
theorem sumL_succ {α : Type} (ln : α → Nat) (xs : List α) (j : Nat) (hj : j < xs.length) : sumL ln (xs.take (j + 1)) = sumL ln (xs.take j) + ln xs[j] := by
 rw [List.take_succ_eq_append_getElem hj, sumL_snoc]
theorem sumL_mem {α : Type} (ln : α → Nat) {xs : List α} {x : α} (hx : x ∈ xs) : ln x ≤ sumL ln xs := by
 induction xs with
 | nil => cases hx
 | cons y r ih =>
  rcases List.mem_cons.1 hx with rfl | h
  ·
   simp only [sumL]; omega
  ·
   have := ih h; simp only [sumL]; omega
theorem sumL_bound {α : Type} (ln : α → Nat) {xs : List α} {B : Nat} (h : sumL ln xs ≤ B) : ∀ x ∈ xs, ln x ≤ B := fun x hx => Nat.le_trans (sumL_mem ln hx) h
def lE (y : EvL) : Nat := y.f1.length
def pE (q : List EvL) : Nat := sumL lE q
def lS (x : SeL) : Nat := x.f2.length + pE x.f2
def pS (xs : List SeL) : Nat := sumL lS xs
def lN (x : NoL) : Nat := x.f0.length + x.f1.length + x.f4.length + x.f7.length
def pN (ns : List NoL) : Nat := sumL lN ns
def LenOK (n : Nat) : Prop := (n : Int) ≤ 9223372036854775807
theorem wrap_sub {a : Int} {n : Nat} (h0 : 0 ≤ a) (ha : a ≤ 1048576) (hl : LenOK n) : wrap64 (a - (n : Int)) = a - n := by
 unfold LenOK at hl
 unfold wrap64
 omega
def Left (a r : Int) (n : Nat) : Prop := r < 0 ∨ (0 ≤ r ∧ r + n ≤ a)
theorem szByteS_w (A : Option Addr) (c : Nat) (l : List Int) (a : Int) (h0 : 0 ≤ a) (ha : a ≤ 1048576) (w : World) (h : Kd.C (Kd.int .u8) w A l.length l) (hc : l.length ≤ c) : Calls Tryd.prog 123 #[.slice A l.length c, .int .i64 a] w fun e w' => (∃ r, e = .returned (.int .i64 r) ∧ Left a r l.length) ∧ Below w.heap.size w w' := by
 have hl : LenOK l.length := Int.ofNat_le.2 h.2.1
 refine (laws_szByteS.calls A c l a (if a - (l.length : Int) < 0 then -1 else a - l.length) w h hc (by unfold laws_szByteS.f; rw [wrap_sub h0 ha hl]; split <;> rfl)).mono ?_
 rintro e w' ⟨rfl, hb⟩
 refine ⟨⟨_, rfl, ?_⟩, by first | exact hb | exact hb.below⟩
 unfold Left
 split <;> omega
theorem szUint64S_w (A : Option Addr) (c : Nat) (l : List Int) (a : Int) (h0 : 0 ≤ a) (ha : a ≤ 1048576) (w : World) (h : Kd.C (Kd.int .u64) w A l.length l) (hc : l.length ≤ c) : Calls Tryd.prog 124 #[.slice A l.length c, .int .i64 a] w fun e w' => (∃ r, e = .returned (.int .i64 r) ∧ Left a r l.length) ∧ Below w.heap.size w w' := by
 have hl : LenOK l.length := Int.ofNat_le.2 h.2.1
 refine (laws_szUint64S.calls A c l a (if a - (l.length : Int) < 0 then -1 else a - l.length) w h hc (by unfold laws_szUint64S.f; rw [wrap_sub h0 ha hl]; split <;> rfl)).mono ?_
 rintro e w' ⟨rfl, hb⟩
 refine ⟨⟨_, rfl, ?_⟩, by first | exact hb | exact hb.below⟩
 unfold Left
 split <;> omega
set_option maxHeartbeats 4000000 in
set_option maxRecDepth 100000 in
theorem szEvent_w (l0 : Int) (l1 : List Int) (A1 : Option Addr) (a1 : Nat) (a : Int) (ga : 0 ≤ a) (gb : a ≤ 1048576) (w : World) (h1 : Kd.C (Kd.int .u8) w A1 l1.length l1) (k1 : l1.length ≤ a1) :
  Calls Tryd.prog 146 #[.agg #[.int .i64 l0, .slice A1 l1.length a1], .int .i64 a] w fun e w' => (∃ r, e = .returned (.int .i64 r) ∧ Left a r (l1.length)) ∧ Below w.heap.size w w' := by
 have K1 := Aside0.mk (fun (W : World) (hW : Below w.heap.size w W) (a : Int) (ga : 0 ≤ a) (gb : a ≤ 1048576) => szByteS_w A1 a1 l1 a ga gb W (Kd.C_below h1 hW) k1)
 clear h1 k1
 go_enter Tryd.func146, Tryd.ntmps146
 go_upto_region 1 with (fail)
 have bx := blk_new w (.cells #[.int .i64 l0, .slice A1 l1.length a1] 174)
 have hB := below_alloc (Below.refl w.heap.size w) (.cells #[.int .i64 l0, .slice A1 l1.length a1] 174)
 generalize w.alloc (.cells #[.int .i64 l0, .slice A1 l1.length a1] 174) = W0 at *
 have BA := Aside0.mk bx
 have HB := Aside0.mk hB
 clear bx hB
 obtain ⟨x0, x1⟩ := cells2 BA.out
 go_wp2_with fail
 refine (K1.out _ HB.out a (by omega) (by omega)).mono ?_
 rintro e W1 ⟨⟨r1, rfl, hr⟩, hb⟩
 clear x0 x1
 replace BA := Aside0.mk (blk_below BA.out hb)
 replace HB := Aside0.mk (below_step HB.out hb)
 clear hb
 unfold Left at hr
 rcases hr with hr | ⟨p1, q1⟩
 ·
  have d0 : decide (r1 < 0) = true := decide_eq_true hr
  go_wp2_with fail
  go_ret
  exact ⟨⟨_, rfl, Or.inl (by omega)⟩, HB.out⟩
 have d1 : decide (r1 < 0) = false := decide_eq_false (by omega)
 go_wp2_with fail
 go_ret
 exact ⟨⟨_, rfl, Or.inr ⟨by omega, by omega⟩⟩, HB.out⟩
set_option maxHeartbeats 4000000 in
set_option maxRecDepth 100000 in
theorem szEventS_w (A : Option Addr) (c : Nat) (xs : List EvL) (a : Int) (h0 : 0 ≤ a) (ha : a ≤ 1048576) (w : World) (h1 : Kd.C kEvL w A xs.length xs) (k1 : xs.length ≤ c) :
  Calls Tryd.prog 122 #[.slice A xs.length c, .int .i64 a] w fun e w' => (∃ r, e = .returned (.int .i64 r) ∧ Left a r (xs.length + pE xs)) ∧ Below w.heap.size w w' := by
 have hws : wrap64 (a - (xs.length : Int)) = a - xs.length := wrap_sub h0 ha (Int.ofNat_le.2 h1.2.1)
 have H1 := Aside0.mk h1
 obtain ⟨b, hb⟩ : ∃ b, a - (xs.length : Int) = b := ⟨_, rfl⟩
 rw [hb] at hws
 clear h1 k1
 by_cases hn : b < 0
 ·
  have d0 : decide (b < 0) = true := decide_eq_true hn
  go_enter Tryd.func122, Tryd.ntmps122
  go_wp2_with fail
  go_ret
  exact ⟨⟨_, rfl, Or.inl (by omega)⟩, Below.refl _ _⟩
 have d0 : decide (b < 0) = false := decide_eq_false hn
 go_enter Tryd.func122, Tryd.ntmps122
 go_wp2_with fail
 have HWS := Aside0.mk hws
 clear hws
 go_loopg [1, 5] (xs.length + 1) (fun kq v1 v5 w' => ∃ (i : Nat) (r : Int), v1 = .int .i64 r ∧ v5 = .int .i64 i ∧ Aside0 (kq + i = xs.length + 1 ∧ i ≤ xs.length) ∧ Aside0 (0 ≤ r ∧ r + sumL lE (xs.take i) ≤ b) ∧ Aside0 (Below w.heap.size w w'))
 case atStart => exact ⟨0, b, rfl, rfl, ⟨⟨by omega, by omega⟩⟩, ⟨⟨by omega, by simp [sumL]⟩⟩, ⟨Below.refl _ _⟩⟩
 case round =>
  obtain ⟨i, r, rfl, rfl, HJ, HR, HB⟩ := hrel
  have hj0 := HJ.out
  have hr0 := HR.out
  by_cases hj : i < xs.length
  ·
   have c1 : decide ((i : Int) < (xs.length : Int)) = true := decide_eq_true (by omega)
   have c2 : decide (i < xs.length) = true := decide_eq_true hj
   have hsu := sumL_succ lE xs i hj
   obtain ⟨ad, A1, a1, eA, x0, x1, hl1, hi1⟩ := at_T174 H1.out (i : Int) (by omega) (by omega)
   have ex : rd_T174 xs (i : Int) = xs[i] := by unfold rd_T174; rw [Int.toNat_natCast, List.getD_eq_getElem?_getD, List.getElem?_eq_getElem hj]; rfl
   rw [ex] at x0 x1 hl1 hi1
   rw [Int.toNat_natCast] at x0 x1
   cases eA
   have KK := Aside0.mk (fun (W : World) (hW : Below w.heap.size w W) => szEvent_w xs[i].f0 xs[i].f1 A1 a1 r hr0.1 (by omega) W (Kd.C_below hi1 hW) hl1)
   have hal : ∀ {a : Addr} {z : Value}, w.cell? a = some z → wr.cell? a = some z := fun hz => (HB.out.cell (World.block_lt_of_cell? w _ hz)).trans hz
   replace x0 := hal x0
   replace x1 := hal x1
   have hle : lE xs[i] = xs[i].f1.length := rfl
   clear hal ex hl1 hi1
   obtain ⟨y, hy⟩ : ∃ y, xs[i] = y := ⟨_, rfl⟩
   rw [hy] at KK hsu hle x0 x1
   clear hy
   have HSU := Aside0.mk (And.intro hsu hle)
   clear hsu hle
   go_wp2_with fail
   refine (KK.out _ HB.out).mono ?_
   rintro e W1 ⟨⟨r1, rfl, hr⟩, hb1⟩
   replace HB := Aside0.mk (below_step HB.out hb1)
   clear hb1 KK x0 x1
   unfold Left at hr
   rcases hr with hr | ⟨p, q⟩
   ·
    have d1 : decide (r1 < 0) = true := decide_eq_true hr
    go_wp2_with fail
    go_ret
    exact ⟨⟨_, rfl, Or.inl (by omega)⟩, HB.out⟩
   have d1 : decide (r1 < 0) = false := decide_eq_false (by omega)
   obtain ⟨k1, rfl⟩ : ∃ k1, gk = k1 + 1 := ⟨gk - 1, by omega⟩
   go_wp2_with fail
   go_roundg k1
   case measure => omega
   case rel => exact ⟨i + 1, r1, rfl, by go_num, ⟨⟨by omega, by omega⟩⟩, ⟨⟨p, by have := HSU.out.1; have := HSU.out.2; omega⟩⟩, HB⟩
  ·
   have c1 : decide ((i : Int) < (xs.length : Int)) = false := decide_eq_false (by omega)
   have c2 : decide (i < xs.length) = false := decide_eq_false hj
   obtain rfl : i = xs.length := by omega
   rw [List.take_length] at hr0
   go_wp2_with fail
   go_ret
   exact ⟨⟨_, rfl, Or.inr ⟨hr0.1, by unfold pE; omega⟩⟩, HB.out⟩
set_option maxHeartbeats 4000000 in
set_option maxRecDepth 100000 in
theorem szSession_w (l0 : Int) (l1 : Int) (l2 : List EvL) (A2 : Option Addr) (a2 : Nat) (a : Int) (ga : 0 ≤ a) (gb : a ≤ 1048576) (w : World) (h2 : Kd.C kEvL w A2 l2.length l2) (k2 : l2.length ≤ a2) :
  Calls Tryd.prog 89 #[.agg #[.int .u64 l0, .int .i64 l1, .slice A2 l2.length a2], .int .i64 a] w fun e w' => (∃ r, e = .returned (.int .i64 r) ∧ Left a r ((l2.length + pE l2))) ∧ Below w.heap.size w w' := by
 have K2 := Aside0.mk (fun (W : World) (hW : Below w.heap.size w W) (a : Int) (ga : 0 ≤ a) (gb : a ≤ 1048576) => szEventS_w A2 a2 l2 a ga gb W (Kd.C_below h2 hW) k2)
 clear h2 k2
 go_enter Tryd.func89, Tryd.ntmps89
 go_upto_region 1 with (fail)
 have bx := blk_new w (.cells #[.int .u64 l0, .int .i64 l1, .slice A2 l2.length a2] 129)
 have hB := below_alloc (Below.refl w.heap.size w) (.cells #[.int .u64 l0, .int .i64 l1, .slice A2 l2.length a2] 129)
 generalize w.alloc (.cells #[.int .u64 l0, .int .i64 l1, .slice A2 l2.length a2] 129) = W0 at *
 have BA := Aside0.mk bx
 have HB := Aside0.mk hB
 clear bx hB
 obtain ⟨x0, x1, x2⟩ := cells3 BA.out
 go_wp2_with fail
 refine (K2.out _ HB.out a (by omega) (by omega)).mono ?_
 rintro e W1 ⟨⟨r2, rfl, hr⟩, hb⟩
 clear x0 x1 x2
 replace BA := Aside0.mk (blk_below BA.out hb)
 replace HB := Aside0.mk (below_step HB.out hb)
 clear hb
 unfold Left at hr
 rcases hr with hr | ⟨p2, q2⟩
 ·
  have d0 : decide (r2 < 0) = true := decide_eq_true hr
  go_wp2_with fail
  go_ret
  exact ⟨⟨_, rfl, Or.inl (by omega)⟩, HB.out⟩
 have d2 : decide (r2 < 0) = false := decide_eq_false (by omega)
 go_wp2_with fail
 go_ret
 exact ⟨⟨_, rfl, Or.inr ⟨by omega, by omega⟩⟩, HB.out⟩
set_option maxHeartbeats 4000000 in
set_option maxRecDepth 100000 in
theorem szSessionS_w (A : Option Addr) (c : Nat) (xs : List SeL) (a : Int) (h0 : 0 ≤ a) (ha : a ≤ 1048576) (w : World) (h1 : Kd.C kSeL w A xs.length xs) (k1 : xs.length ≤ c) :
  Calls Tryd.prog 41 #[.slice A xs.length c, .int .i64 a] w fun e w' => (∃ r, e = .returned (.int .i64 r) ∧ Left a r (xs.length + pS xs)) ∧ Below w.heap.size w w' := by
 have hws : wrap64 (a - (xs.length : Int)) = a - xs.length := wrap_sub h0 ha (Int.ofNat_le.2 h1.2.1)
 have H1 := Aside0.mk h1
 obtain ⟨b, hb⟩ : ∃ b, a - (xs.length : Int) = b := ⟨_, rfl⟩
 rw [hb] at hws
 clear h1 k1
 by_cases hn : b < 0
 ·
  have d0 : decide (b < 0) = true := decide_eq_true hn
  go_enter Tryd.func41, Tryd.ntmps41
  go_wp2_with fail
  go_ret
  exact ⟨⟨_, rfl, Or.inl (by omega)⟩, Below.refl _ _⟩
 have d0 : decide (b < 0) = false := decide_eq_false hn
 go_enter Tryd.func41, Tryd.ntmps41
 go_wp2_with fail
 have HWS := Aside0.mk hws
 clear hws
 go_loopg [1, 5] (xs.length + 1) (fun kq v1 v5 w' => ∃ (i : Nat) (r : Int), v1 = .int .i64 r ∧ v5 = .int .i64 i ∧ Aside0 (kq + i = xs.length + 1 ∧ i ≤ xs.length) ∧ Aside0 (0 ≤ r ∧ r + sumL lS (xs.take i) ≤ b) ∧ Aside0 (Below w.heap.size w w'))
 case atStart => exact ⟨0, b, rfl, rfl, ⟨⟨by omega, by omega⟩⟩, ⟨⟨by omega, by simp [sumL]⟩⟩, ⟨Below.refl _ _⟩⟩
 case round =>
  obtain ⟨i, r, rfl, rfl, HJ, HR, HB⟩ := hrel
  have hj0 := HJ.out
  have hr0 := HR.out
  by_cases hj : i < xs.length
  ·
   have c1 : decide ((i : Int) < (xs.length : Int)) = true := decide_eq_true (by omega)
   have c2 : decide (i < xs.length) = true := decide_eq_true hj
   have hsu := sumL_succ lS xs i hj
   obtain ⟨ad, A2, a2, eA, x0, x1, x2, hl2, hi2⟩ := at_T129 H1.out (i : Int) (by omega) (by omega)
   have ex : rd_T129 xs (i : Int) = xs[i] := by unfold rd_T129; rw [Int.toNat_natCast, List.getD_eq_getElem?_getD, List.getElem?_eq_getElem hj]; rfl
   rw [ex] at x0 x1 x2 hl2 hi2
   rw [Int.toNat_natCast] at x0 x1 x2
   cases eA
   have KK := Aside0.mk (fun (W : World) (hW : Below w.heap.size w W) => szSession_w xs[i].f0 xs[i].f1 xs[i].f2 A2 a2 r hr0.1 (by omega) W (Kd.C_below hi2 hW) hl2)
   have hal : ∀ {a : Addr} {z : Value}, w.cell? a = some z → wr.cell? a = some z := fun hz => (HB.out.cell (World.block_lt_of_cell? w _ hz)).trans hz
   replace x0 := hal x0
   replace x1 := hal x1
   replace x2 := hal x2
   have hle : lS xs[i] = (xs[i].f2.length + pE xs[i].f2) := rfl
   clear hal ex hl2 hi2
   obtain ⟨y, hy⟩ : ∃ y, xs[i] = y := ⟨_, rfl⟩
   rw [hy] at KK hsu hle x0 x1 x2
   clear hy
   have HSU := Aside0.mk (And.intro hsu hle)
   clear hsu hle
   go_wp2_with fail
   refine (KK.out _ HB.out).mono ?_
   rintro e W1 ⟨⟨r1, rfl, hr⟩, hb1⟩
   replace HB := Aside0.mk (below_step HB.out hb1)
   clear hb1 KK x0 x1 x2
   unfold Left at hr
   rcases hr with hr | ⟨p, q⟩
   ·
    have d1 : decide (r1 < 0) = true := decide_eq_true hr
    go_wp2_with fail
    go_ret
    exact ⟨⟨_, rfl, Or.inl (by omega)⟩, HB.out⟩
   have d1 : decide (r1 < 0) = false := decide_eq_false (by omega)
   obtain ⟨k1, rfl⟩ : ∃ k1, gk = k1 + 1 := ⟨gk - 1, by omega⟩
   go_wp2_with fail
   go_roundg k1
   case measure => omega
   case rel => exact ⟨i + 1, r1, rfl, by go_num, ⟨⟨by omega, by omega⟩⟩, ⟨⟨p, by have := HSU.out.1; have := HSU.out.2; omega⟩⟩, HB⟩
  ·
   have c1 : decide ((i : Int) < (xs.length : Int)) = false := decide_eq_false (by omega)
   have c2 : decide (i < xs.length) = false := decide_eq_false hj
   obtain rfl : i = xs.length := by omega
   rw [List.take_length] at hr0
   go_wp2_with fail
   go_ret
   exact ⟨⟨_, rfl, Or.inr ⟨hr0.1, by unfold pS; omega⟩⟩, HB.out⟩
set_option maxHeartbeats 4000000 in
set_option maxRecDepth 100000 in
theorem szNode_w (l0 : List Int) (l1 : List Int) (l2 : Int) (l3 : Int) (l4 : List Int) (l5 : Int) (l6 : Int) (l7 : List Int) (A0 : Option Addr) (a0 : Nat) (A1 : Option Addr) (a1 : Nat) (A4 : Option Addr) (a4 : Nat) (A7 : Option Addr) (a7 : Nat) (a : Int) (ga : 0 ≤ a) (gb : a ≤ 1048576) (w : World) (h0 : Kd.C (Kd.int .u8) w A0 l0.length l0) (k0 : l0.length ≤ a0) (h1 : Kd.C (Kd.int .u8) w A1 l1.length l1) (k1 : l1.length ≤ a1) (h4 : Kd.C (Kd.int .u64) w A4 l4.length l4) (k4 : l4.length ≤ a4) (h7 : Kd.C (Kd.int .u64) w A7 l7.length l7) (k7 : l7.length ≤ a7) :
  Calls Tryd.prog 90 #[.agg #[.slice A0 l0.length a0, .slice A1 l1.length a1, .int .u64 l2, .int .i64 l3, .slice A4 l4.length a4, .int .u64 l5, .int .u64 l6, .slice A7 l7.length a7], .int .i64 a] w fun e w' => (∃ r, e = .returned (.int .i64 r) ∧ Left a r (l0.length + l1.length + l4.length + l7.length)) ∧ Below w.heap.size w w' := by
 have K0 := Aside0.mk (fun (W : World) (hW : Below w.heap.size w W) (a : Int) (ga : 0 ≤ a) (gb : a ≤ 1048576) => szByteS_w A0 a0 l0 a ga gb W (Kd.C_below h0 hW) k0)
 have K1 := Aside0.mk (fun (W : World) (hW : Below w.heap.size w W) (a : Int) (ga : 0 ≤ a) (gb : a ≤ 1048576) => szByteS_w A1 a1 l1 a ga gb W (Kd.C_below h1 hW) k1)
 have K4 := Aside0.mk (fun (W : World) (hW : Below w.heap.size w W) (a : Int) (ga : 0 ≤ a) (gb : a ≤ 1048576) => szUint64S_w A4 a4 l4 a ga gb W (Kd.C_below h4 hW) k4)
 have K7 := Aside0.mk (fun (W : World) (hW : Below w.heap.size w W) (a : Int) (ga : 0 ≤ a) (gb : a ≤ 1048576) => szUint64S_w A7 a7 l7 a ga gb W (Kd.C_below h7 hW) k7)
 clear h0 k0 h1 k1 h4 k4 h7 k7
 go_enter Tryd.func90, Tryd.ntmps90
 go_upto_region 1 with (fail)
 have bx := blk_new w (.cells #[.slice A0 l0.length a0, .slice A1 l1.length a1, .int .u64 l2, .int .i64 l3, .slice A4 l4.length a4, .int .u64 l5, .int .u64 l6, .slice A7 l7.length a7] 131)
 have hB := below_alloc (Below.refl w.heap.size w) (.cells #[.slice A0 l0.length a0, .slice A1 l1.length a1, .int .u64 l2, .int .i64 l3, .slice A4 l4.length a4, .int .u64 l5, .int .u64 l6, .slice A7 l7.length a7] 131)
 generalize w.alloc (.cells #[.slice A0 l0.length a0, .slice A1 l1.length a1, .int .u64 l2, .int .i64 l3, .slice A4 l4.length a4, .int .u64 l5, .int .u64 l6, .slice A7 l7.length a7] 131) = W0 at *
 have BA := Aside0.mk bx
 have HB := Aside0.mk hB
 clear bx hB
 obtain ⟨x0, x1, x2, x3, x4, x5, x6, x7⟩ := cells8 BA.out
 go_wp2_with fail
 refine (K0.out _ HB.out a (by omega) (by omega)).mono ?_
 rintro e W1 ⟨⟨r0, rfl, hr⟩, hb⟩
 clear x0 x1 x2 x3 x4 x5 x6 x7
 replace BA := Aside0.mk (blk_below BA.out hb)
 replace HB := Aside0.mk (below_step HB.out hb)
 clear hb
 unfold Left at hr
 rcases hr with hr | ⟨p0, q0⟩
 ·
  have d0 : decide (r0 < 0) = true := decide_eq_true hr
  go_wp2_with fail
  go_ret
  exact ⟨⟨_, rfl, Or.inl (by omega)⟩, HB.out⟩
 have d0 : decide (r0 < 0) = false := decide_eq_false (by omega)
 obtain ⟨x0, x1, x2, x3, x4, x5, x6, x7⟩ := cells8 BA.out
 go_wp2_with fail
 refine (K1.out _ HB.out r0 (by omega) (by omega)).mono ?_
 rintro e W2 ⟨⟨r1, rfl, hr⟩, hb⟩
 clear x0 x1 x2 x3 x4 x5 x6 x7
 replace BA := Aside0.mk (blk_below BA.out hb)
 replace HB := Aside0.mk (below_step HB.out hb)
 clear hb
 unfold Left at hr
 rcases hr with hr | ⟨p1, q1⟩
 ·
  have d0 : decide (r1 < 0) = true := decide_eq_true hr
  go_wp2_with fail
  go_ret
  exact ⟨⟨_, rfl, Or.inl (by omega)⟩, HB.out⟩
 have d1 : decide (r1 < 0) = false := decide_eq_false (by omega)
 obtain ⟨x0, x1, x2, x3, x4, x5, x6, x7⟩ := cells8 BA.out
 go_wp2_with fail
 refine (K4.out _ HB.out r1 (by omega) (by omega)).mono ?_
 rintro e W3 ⟨⟨r4, rfl, hr⟩, hb⟩
 clear x0 x1 x2 x3 x4 x5 x6 x7
 replace BA := Aside0.mk (blk_below BA.out hb)
 replace HB := Aside0.mk (below_step HB.out hb)
 clear hb
 unfold Left at hr
 rcases hr with hr | ⟨p4, q4⟩
 ·
  have d0 : decide (r4 < 0) = true := decide_eq_true hr
  go_wp2_with fail
  go_ret
  exact ⟨⟨_, rfl, Or.inl (by omega)⟩, HB.out⟩
 have d4 : decide (r4 < 0) = false := decide_eq_false (by omega)
 obtain ⟨x0, x1, x2, x3, x4, x5, x6, x7⟩ := cells8 BA.out
 go_wp2_with fail
 refine (K7.out _ HB.out r4 (by omega) (by omega)).mono ?_
 rintro e W4 ⟨⟨r7, rfl, hr⟩, hb⟩
 clear x0 x1 x2 x3 x4 x5 x6 x7
 replace BA := Aside0.mk (blk_below BA.out hb)
 replace HB := Aside0.mk (below_step HB.out hb)
 clear hb
 unfold Left at hr
 rcases hr with hr | ⟨p7, q7⟩
 ·
  have d0 : decide (r7 < 0) = true := decide_eq_true hr
  go_wp2_with fail
  go_ret
  exact ⟨⟨_, rfl, Or.inl (by omega)⟩, HB.out⟩
 have d7 : decide (r7 < 0) = false := decide_eq_false (by omega)
 go_wp2_with fail
 go_ret
 exact ⟨⟨_, rfl, Or.inr ⟨by omega, by omega⟩⟩, HB.out⟩
set_option maxHeartbeats 4000000 in
set_option maxRecDepth 100000 in
theorem szNodeS_w (A : Option Addr) (c : Nat) (xs : List NoL) (a : Int) (h0 : 0 ≤ a) (ha : a ≤ 1048576) (w : World) (h1 : Kd.C kNoL w A xs.length xs) (k1 : xs.length ≤ c) :
  Calls Tryd.prog 42 #[.slice A xs.length c, .int .i64 a] w fun e w' => (∃ r, e = .returned (.int .i64 r) ∧ Left a r (xs.length + pN xs)) ∧ Below w.heap.size w w' := by
 have hws : wrap64 (a - (xs.length : Int)) = a - xs.length := wrap_sub h0 ha (Int.ofNat_le.2 h1.2.1)
 have H1 := Aside0.mk h1
 obtain ⟨b, hb⟩ : ∃ b, a - (xs.length : Int) = b := ⟨_, rfl⟩
 rw [hb] at hws
 clear h1 k1
 by_cases hn : b < 0
 ·
  have d0 : decide (b < 0) = true := decide_eq_true hn
  go_enter Tryd.func42, Tryd.ntmps42
  go_wp2_with fail
  go_ret
  exact ⟨⟨_, rfl, Or.inl (by omega)⟩, Below.refl _ _⟩
 have d0 : decide (b < 0) = false := decide_eq_false hn
 go_enter Tryd.func42, Tryd.ntmps42
 go_wp2_with fail
 have HWS := Aside0.mk hws
 clear hws
 go_loopg [1, 5] (xs.length + 1) (fun kq v1 v5 w' => ∃ (i : Nat) (r : Int), v1 = .int .i64 r ∧ v5 = .int .i64 i ∧ Aside0 (kq + i = xs.length + 1 ∧ i ≤ xs.length) ∧ Aside0 (0 ≤ r ∧ r + sumL lN (xs.take i) ≤ b) ∧ Aside0 (Below w.heap.size w w'))
 case atStart => exact ⟨0, b, rfl, rfl, ⟨⟨by omega, by omega⟩⟩, ⟨⟨by omega, by simp [sumL]⟩⟩, ⟨Below.refl _ _⟩⟩
 case round =>
  obtain ⟨i, r, rfl, rfl, HJ, HR, HB⟩ := hrel
  have hj0 := HJ.out
  have hr0 := HR.out
  by_cases hj : i < xs.length
  ·
   have c1 : decide ((i : Int) < (xs.length : Int)) = true := decide_eq_true (by omega)
   have c2 : decide (i < xs.length) = true := decide_eq_true hj
   have hsu := sumL_succ lN xs i hj
   obtain ⟨ad, A0, a0, A1, a1, A4, a4, A7, a7, eA, x0, x1, x2, x3, x4, x5, x6, x7, hl0, hi0, hl1, hi1, hl4, hi4, hl7, hi7⟩ := at_T131 H1.out (i : Int) (by omega) (by omega)
   have ex : rd_T131 xs (i : Int) = xs[i] := by unfold rd_T131; rw [Int.toNat_natCast, List.getD_eq_getElem?_getD, List.getElem?_eq_getElem hj]; rfl
   rw [ex] at x0 x1 x2 x3 x4 x5 x6 x7 hl0 hi0 hl1 hi1 hl4 hi4 hl7 hi7
   rw [Int.toNat_natCast] at x0 x1 x2 x3 x4 x5 x6 x7
   cases eA
   have KK := Aside0.mk (fun (W : World) (hW : Below w.heap.size w W) => szNode_w xs[i].f0 xs[i].f1 xs[i].f2 xs[i].f3 xs[i].f4 xs[i].f5 xs[i].f6 xs[i].f7 A0 a0 A1 a1 A4 a4 A7 a7 r hr0.1 (by omega) W (Kd.C_below hi0 hW) hl0 (Kd.C_below hi1 hW) hl1 (Kd.C_below hi4 hW) hl4 (Kd.C_below hi7 hW) hl7)
   have hal : ∀ {a : Addr} {z : Value}, w.cell? a = some z → wr.cell? a = some z := fun hz => (HB.out.cell (World.block_lt_of_cell? w _ hz)).trans hz
   replace x0 := hal x0
   replace x1 := hal x1
   replace x2 := hal x2
   replace x3 := hal x3
   replace x4 := hal x4
   replace x5 := hal x5
   replace x6 := hal x6
   replace x7 := hal x7
   have hle : lN xs[i] = xs[i].f0.length + xs[i].f1.length + xs[i].f4.length + xs[i].f7.length := rfl
   clear hal ex hl0 hi0 hl1 hi1 hl4 hi4 hl7 hi7
   obtain ⟨y, hy⟩ : ∃ y, xs[i] = y := ⟨_, rfl⟩
   rw [hy] at KK hsu hle x0 x1 x2 x3 x4 x5 x6 x7
   clear hy
   have HSU := Aside0.mk (And.intro hsu hle)
   clear hsu hle
   go_wp2_with fail
   refine (KK.out _ HB.out).mono ?_
   rintro e W1 ⟨⟨r1, rfl, hr⟩, hb1⟩
   replace HB := Aside0.mk (below_step HB.out hb1)
   clear hb1 KK x0 x1 x2 x3 x4 x5 x6 x7
   unfold Left at hr
   rcases hr with hr | ⟨p, q⟩
   ·
    have d1 : decide (r1 < 0) = true := decide_eq_true hr
    go_wp2_with fail
    go_ret
    exact ⟨⟨_, rfl, Or.inl (by omega)⟩, HB.out⟩
   have d1 : decide (r1 < 0) = false := decide_eq_false (by omega)
   obtain ⟨k1, rfl⟩ : ∃ k1, gk = k1 + 1 := ⟨gk - 1, by omega⟩
   go_wp2_with fail
   go_roundg k1
   case measure => omega
   case rel => exact ⟨i + 1, r1, rfl, by go_num, ⟨⟨by omega, by omega⟩⟩, ⟨⟨p, by have := HSU.out.1; have := HSU.out.2; omega⟩⟩, HB⟩
  ·
   have c1 : decide ((i : Int) < (xs.length : Int)) = false := decide_eq_false (by omega)
   have c2 : decide (i < xs.length) = false := decide_eq_false hj
   obtain rfl : i = xs.length := by omega
   rw [List.take_length] at hr0
   go_wp2_with fail
   go_ret
   exact ⟨⟨_, rfl, Or.inr ⟨hr0.1, by unfold pN; omega⟩⟩, HB.out⟩
set_option maxHeartbeats 4000000 in
set_option maxRecDepth 100000 in
theorem szState_w (l0 : Int) (l1 : Int) (l2 : Int) (l3 : Int) (l4 : List SeL) (l5 : List NoL) (A4 : Option Addr) (a4 : Nat) (A5 : Option Addr) (a5 : Nat) (a : Int) (ga : 0 ≤ a) (gb : a ≤ 1048576) (w : World) (h4 : Kd.C kSeL w A4 l4.length l4) (k4 : l4.length ≤ a4) (h5 : Kd.C kNoL w A5 l5.length l5) (k5 : l5.length ≤ a5) :
  Calls Tryd.prog 13 #[.agg #[.int .u64 l0, .int .u64 l1, .int .u64 l2, .int .i64 l3, .slice A4 l4.length a4, .slice A5 l5.length a5], .int .i64 a] w fun e w' => (∃ r, e = .returned (.int .i64 r) ∧ Left a r ((l4.length + pS l4) + (l5.length + pN l5))) ∧ Below w.heap.size w w' := by
 have K4 := Aside0.mk (fun (W : World) (hW : Below w.heap.size w W) (a : Int) (ga : 0 ≤ a) (gb : a ≤ 1048576) => szSessionS_w A4 a4 l4 a ga gb W (Kd.C_below h4 hW) k4)
 have K5 := Aside0.mk (fun (W : World) (hW : Below w.heap.size w W) (a : Int) (ga : 0 ≤ a) (gb : a ≤ 1048576) => szNodeS_w A5 a5 l5 a ga gb W (Kd.C_below h5 hW) k5)
 clear h4 k4 h5 k5
 go_enter Tryd.func13, Tryd.ntmps13
 go_upto_region 1 with (fail)
 have bx := blk_new w (.cells #[.int .u64 l0, .int .u64 l1, .int .u64 l2, .int .i64 l3, .slice A4 l4.length a4, .slice A5 l5.length a5] 30)
 have hB := below_alloc (Below.refl w.heap.size w) (.cells #[.int .u64 l0, .int .u64 l1, .int .u64 l2, .int .i64 l3, .slice A4 l4.length a4, .slice A5 l5.length a5] 30)
 generalize w.alloc (.cells #[.int .u64 l0, .int .u64 l1, .int .u64 l2, .int .i64 l3, .slice A4 l4.length a4, .slice A5 l5.length a5] 30) = W0 at *
 have BA := Aside0.mk bx
 have HB := Aside0.mk hB
 clear bx hB
 obtain ⟨x0, x1, x2, x3, x4, x5⟩ := cells6 BA.out
 go_wp2_with fail
 refine (K4.out _ HB.out a (by omega) (by omega)).mono ?_
 rintro e W1 ⟨⟨r4, rfl, hr⟩, hb⟩
 clear x0 x1 x2 x3 x4 x5
 replace BA := Aside0.mk (blk_below BA.out hb)
 replace HB := Aside0.mk (below_step HB.out hb)
 clear hb
 unfold Left at hr
 rcases hr with hr | ⟨p4, q4⟩
 ·
  have d0 : decide (r4 < 0) = true := decide_eq_true hr
  go_wp2_with fail
  go_ret
  exact ⟨⟨_, rfl, Or.inl (by omega)⟩, HB.out⟩
 have d4 : decide (r4 < 0) = false := decide_eq_false (by omega)
 obtain ⟨x0, x1, x2, x3, x4, x5⟩ := cells6 BA.out
 go_wp2_with fail
 refine (K5.out _ HB.out r4 (by omega) (by omega)).mono ?_
 rintro e W2 ⟨⟨r5, rfl, hr⟩, hb⟩
 clear x0 x1 x2 x3 x4 x5
 replace BA := Aside0.mk (blk_below BA.out hb)
 replace HB := Aside0.mk (below_step HB.out hb)
 clear hb
 unfold Left at hr
 rcases hr with hr | ⟨p5, q5⟩
 ·
  have d0 : decide (r5 < 0) = true := decide_eq_true hr
  go_wp2_with fail
  go_ret
  exact ⟨⟨_, rfl, Or.inl (by omega)⟩, HB.out⟩
 have d5 : decide (r5 < 0) = false := decide_eq_false (by omega)
 go_wp2_with fail
 go_ret
 exact ⟨⟨_, rfl, Or.inr ⟨by omega, by omega⟩⟩, HB.out⟩
theorem smSe_of {xs : List SeL} (h : pS xs ≤ 1048576) : SmSe xs := fun x hx => by
 have h1 := sumL_bound lS h x hx
 unfold lS at h1
 exact ⟨by omega, fun y hy => by
  have h2 := sumL_mem lE hy
  have h3 : pE x.f2 = sumL lE x.f2 := rfl
  unfold lE at h2 h3
  omega⟩
theorem smNo_of {ns : List NoL} (h : pN ns ≤ 1048576) : SmNo ns := fun x hx => by
 have h1 := sumL_bound lN h x hx
 unfold lN at h1
 omega
end Go.Proofs.YtbgbocdohadhoaaDoor.Print
namespace Go.Proofs.YtbgbocdohadhoaaDoor.Print
open Go Go.RowKit Go.Proofs.YtbgbocdohadhoaaDoorW.PrintWords Go.Proofs.YtbgbocdohadhoaaDoorW.PrintLast Go.Proofs.YtbgbocdohadhoaaDoorW.PrintMore
set_option linter.unusedVariables false
theorem glue_b1 {xs : List SeL} (h : ∀ x ∈ xs, gSe x) : ∀ x ∈ xs, ∀ y ∈ x.f2, ∀ z ∈ y.f1, 0 ≤ z ∧ z < 256 := fun x hx y hy => byte_range ((h x hx).2.2 y hy).2
theorem glue_b2 {ns : List NoL} (h : ∀ x ∈ ns, gNo x) : ∀ x ∈ ns, ∀ z ∈ x.f0, 0 ≤ z ∧ z < 256 := fun x hx => byte_range (h x hx).1.2
theorem glue_rx {xs : List SeL} (h : ∀ x ∈ xs, gSe x) : ∀ x ∈ xs.map toSe, 0 ≤ x.f0 ∧ x.f0 < 18446744073709551616 := fun x hx => by
 obtain ⟨y, hy, rfl⟩ := List.mem_map.1 hx
 exact u64_range (h y hy).1
theorem glue_rn {ns : List NoL} (h : ∀ x ∈ ns, gNo x) : ∀ x ∈ ns.map toNo, (0 ≤ x.f2 ∧ x.f2 < 18446744073709551616) ∧ (∀ z ∈ x.f4, 0 ≤ z ∧ z < 18446744073709551616) ∧ (∀ z ∈ x.f7, 0 ≤ z ∧ z < 18446744073709551616) := fun x hx => by
 obtain ⟨y, hy, rfl⟩ := List.mem_map.1 hx
 obtain ⟨_, _, a, ⟨_, b⟩, _, c⟩ := h y hy
 exact ⟨u64_range a, fun z hz => u64_range (b z hz), fun z hz => u64_range (c.1 z hz)⟩
end Go.Proofs.YtbgbocdohadhoaaDoor.Print
namespace Go.Proofs.YtbgbocdohadhoaaDoor.Print
open Go Go.RowKit
set_option linter.unusedVariables false
set_option linter.unusedSimpArgs false
def pieces : List Int → List (List Int)
 | [] => [[]]
 | c :: l => if c = 47 then [] :: pieces l else match pieces l with
  | [] => [[c]]
  | h :: t => (c :: h) :: t
def charB (c : Int) : Bool := decide (97 ≤ c) && decide (c ≤ 122) || decide (48 ≤ c) && decide (c ≤ 57) || c == 45 || c == 95
def nameB (s : List Int) : Bool := decide (1 ≤ s.length) && decide (s.length ≤ 16) && s.all charB
def pathB : List Int → Bool
 | [] => false
 | c :: r => c == 47 && decide ((pieces r).length ≤ 8) && (pieces r).all nameB
theorem pieces_ne (l : List Int) : pieces l ≠ [] := by
 cases l with
 | nil => simp [pieces]
 | cons c l =>
  unfold pieces
  split
  ·
   simp
  ·
   split <;> simp
theorem pieces_slash (l : List Int) : pieces (47 :: l) = [] :: pieces l := by rw [pieces, if_pos rfl]
theorem pieces_char (c : Int) (l : List Int) (h : c ≠ 47) : ∃ a t, pieces l = a :: t ∧ pieces (c :: l) = (c :: a) :: t := by
 obtain ⟨a, t, e⟩ : ∃ a t, pieces l = a :: t := by
  cases hq : pieces l with
  | nil => exact absurd hq (pieces_ne l)
  | cons a t => exact ⟨a, t, rfl⟩
 exact ⟨a, t, e, by rw [pieces, if_neg h, e]⟩
theorem bytesOf_inj : ∀ {a b : List Int}, (∀ x ∈ a, 0 ≤ x ∧ x < 256) → (∀ x ∈ b, 0 ≤ x ∧ x < 256) → Lib.bytesOf a = Lib.bytesOf b → a = b
 | [], [], _, _, _ => rfl
 | [], _ :: _, _, _, h => by simp [Lib.bytesOf] at h
 | _ :: _, [], _, _, h => by simp [Lib.bytesOf] at h
 | x :: a, y :: b, ha, hb, h => by
  simp only [Lib.bytesOf, List.map_cons, List.cons.injEq] at h
  have hx := ha x (by simp)
  have hy := hb y (by simp)
  have e : x = y := by
   have := congrArg UInt8.toNat h.1
   simp only [UInt8.toNat_ofNat'] at this
   omega
  rw [e, bytesOf_inj (fun z hz => ha z (by simp [hz])) (fun z hz => hb z (by simp [hz])) h.2]
theorem byte_eq {c : Int} (h : 0 ≤ c ∧ c < 256) : (UInt8.ofNat c.toNat = 47) ↔ c = 47 := by
 constructor
 ·
  intro e
  have := congrArg UInt8.toNat e
  simp only [UInt8.toNat_ofNat'] at this
  have e2 : (47 : UInt8).toNat = 47 := rfl
  omega
 ·
  rintro rfl
  rfl
theorem pieces_sum : ∀ (l : List Int), ((pieces l).map (fun p => p.length + 1)).sum = l.length + 1
 | [] => by simp [pieces]
 | c :: l => by
  have ih := pieces_sum l
  by_cases h : c = 47
  ·
   subst h
   rw [pieces_slash]
   simp only [List.map_cons, List.sum_cons, List.length_nil, List.length_cons]
   omega
  ·
   obtain ⟨a, t, e, e'⟩ := pieces_char c l h
   rw [e']
   rw [e] at ih
   simp only [List.map_cons, List.sum_cons, List.length_cons] at ih ⊢
   omega
theorem sum_bound : ∀ (ps : List (List Int)), ps.all nameB = true → (ps.map (fun p => p.length + 1)).sum ≤ 17 * ps.length
 | [], _ => by simp
 | p :: ps, h => by
  rw [List.all_cons, Bool.and_eq_true] at h
  have ih := sum_bound ps h.2
  have h1 := h.1
  unfold nameB at h1
  simp only [Bool.and_eq_true, decide_eq_true_eq] at h1
  simp only [List.map_cons, List.sum_cons, List.length_cons]
  omega
theorem pathB_len (l : List Int) (h : pathB l = true) : 2 ≤ l.length ∧ l.length ≤ 136 := by
 cases l with
 | nil => simp [pathB] at h
 | cons c r =>
  unfold pathB at h
  simp only [Bool.and_eq_true, decide_eq_true_eq] at h
  have h1 := sum_bound _ h.2
  rw [pieces_sum] at h1
  have h2 : r ≠ [] := by
   rintro rfl
   simp [pieces, nameB] at h
  have := List.length_pos_iff.2 h2
  simp only [List.length_cons]
  omega
end Go.Proofs.YtbgbocdohadhoaaDoor.Print
namespace Go.Proofs.YtbgbocdohadhoaaDoor.Print
open Go Go.RowKit Go.Proofs.YtbgbocdohadhoaaDoorW.PrintWords Go.Proofs.YtbgbocdohadhoaaDoorW.PrintLast Go.Proofs.YtbgbocdohadhoaaDoorW.PrintMore
set_option linter.unusedVariables false
set_option linter.unusedSimpArgs false
def allI {α : Type} (f : Nat → α → Bool) : Nat → List α → Bool
 | _, [] => true
 | i, x :: r => f i x && allI f (i + 1) r
theorem allI_drop {α : Type} (f : Nat → α → Bool) (l : List α) (i : Nat) (h : i < l.length) : allI f i (l.drop i) = (f i l[i] && allI f (i + 1) (l.drop (i + 1))) := by
 rw [List.drop_eq_getElem_cons h, allI]
theorem allI_end {α : Type} (f : Nat → α → Bool) (l : List α) (i : Nat) (h : l.length ≤ i) : allI f i (l.drop i) = true := by
 rw [List.drop_eq_nil_of_le h, allI]
theorem allI_iff {α : Type} (f : Nat → α → Bool) : ∀ (l : List α) (i : Nat), allI f i l = true ↔ ∀ j (h : j < l.length), f (i + j) l[j] = true
 | [], i => by simp [allI]
 | x :: r, i => by
  rw [allI, Bool.and_eq_true, allI_iff f r (i + 1)]
  constructor
  ·
   rintro ⟨h1, h2⟩ j hj
   cases j with
   | zero => exact h1
   | succ j =>
    have := h2 j (by simpa using hj)
    rw [show i + (j + 1) = i + 1 + j by omega]
    exact this
  ·
   intro h
   refine ⟨h 0 (by simp), fun j hj => ?_⟩
   have := h (j + 1) (by simpa using hj)
   rw [show i + 1 + j = i + (j + 1) by omega]
   exact this
def evB (i : Nat) (e : Ev) : Bool := if i = 7 then e.f0 == 4 && e.f1.length == 0 else e.f0 != 4 && decide (1 ≤ e.f0) && decide (e.f0 ≤ 3) && pathB e.f1
def queueB (q : List Ev) : Bool := decide (q.length ≤ 8) && allI evB 0 q
def zSe : Se := z70
def zNo : No := z76
def sesB (next : Int) (xs : List Se) (i : Nat) (x : Se) : Bool :=
 decide (1 ≤ x.f0) && decide (x.f0 ≤ next) && (i == 0 || decide ((xs.getD (i - 1) zSe).f0 < x.f0)) && decide (0 ≤ x.f1) && decide (x.f1 ≤ 1000015) && queueB x.f2
def liveB (xs : List Se) (id : Int) : Bool := xs.any fun x => x.f0 == id
def idsB (xs : List Se) (l : List Int) : Bool := allI (fun i x => liveB xs x && (i == 0 || decide (l.getD (i - 1) 0 < x))) 0 l
def lastFrom : List Int → Nat → Nat → Nat
 | [], _, a => a
 | c :: r, i, a => lastFrom r (i + 1) (if c = 47 then i else a)
def parentL (p : List Int) : List Int := if lastFrom p 0 0 = 0 then [47] else p.take (lastFrom p 0 0)
def leB (a b : List Int) : Bool := Op.bytesLess (Lib.bytesOf a) (Lib.bytesOf b) || Lib.bytesOf a == Lib.bytesOf b
def canParB (ns : List No) (p : List Int) : Bool := p == [47] || match ns.find? (fun n => n.f0 == p) with
 | none => false
 | some n => n.f2 == 0
def lockB (epoch gen : Int) (n : No) : Bool :=
 if n.f3 = 1 then n.f4.length == 1 && decide (1 ≤ n.f6) && decide (n.f6 ≤ gen) && decide (n.f5 ≤ epoch) else n.f5 == 0 && n.f6 == 0 && (if n.f3 = 0 then n.f4.length == 0 else n.f3 == 2 && decide (1 ≤ n.f4.length))
def nodeB (epoch gen : Int) (xs : List Se) (ns : List No) (i : Nat) (n : No) : Bool :=
 pathB n.f0 && (i == 0 || !leB n.f0 (ns.getD (i - 1) zNo).f0) && canParB ns (parentL n.f0) && decide (n.f1.length ≤ 40) && (n.f2 == 0 || liveB xs n.f2) && idsB xs n.f4 && idsB xs n.f7 && lockB epoch gen n
def headB (epoch gen next now : Int) (nx nn : Nat) : Bool :=
 decide (epoch ≤ 4611686018427387904) && decide (gen ≤ 4611686018427387904) && decide (next ≤ 4611686018427387904) && decide (0 ≤ now) && decide (now ≤ 1000000) && decide (nx ≤ 50) && decide (nn ≤ 200)
def validB (epoch gen next now : Int) (xs : List Se) (ns : List No) : Bool :=
 headB epoch gen next now xs.length ns.length && allI (sesB next xs) 0 xs && allI (nodeB epoch gen xs ns) 0 ns
end Go.Proofs.YtbgbocdohadhoaaDoor.Print
namespace Go.Proofs.YtbgbocdohadhoaaDoor.Print
open Go.RowKit Go.Proofs.YtbgbocdohadhoaaDoorW.PrintWords Go.Proofs.YtbgbocdohadhoaaDoorW.PrintLast Go.Proofs.YtbgbocdohadhoaaDoorW.PrintMore
set_option linter.unusedVariables false
set_option linter.unusedSimpArgs false
def spec_l3same.f (l0 : List Int) (l1 : List Int) : Option (Bool) := some ((strOfNums l0).toList == (strOfNums l1).toList)
set_option maxHeartbeats 8000000 in
set_option maxRecDepth 100000 in
theorem spec_l3same.calls (A0 : Option Addr) (c0 : Nat) (l0 : List Int) (A1 : Option Addr) (c1 : Nat) (l1 : List Int) (r : Bool) (w : World) (hr0 : Kd.C (Kd.int .u8) w A0 l0.length l0) (hc0 : l0.length ≤ c0) (hr1 : Kd.C (Kd.int .u8) w A1 l1.length l1) (hc1 : l1.length ≤ c1) (h : spec_l3same.f l0 l1 = some r) :
  Calls Tryd.prog 68 #[.slice A0 l0.length c0, .slice A1 l1.length c1] w fun e w' => e = .returned (.bool r) ∧ Drawn0 w w' := by
 have HR0 := Aside0.mk hr0
 have HC0 := Aside0.mk hc0
 clear hr0 hc0
 have HR1 := Aside0.mk hr1
 have HC1 := Aside0.mk hc1
 clear hr1 hc1
 have H : (some ((strOfNums l0).toList == (strOfNums l1).toList)) = some r := h
 clear h
 obtain rfl := Option.some.inj H
 have hcv3 := Kd.C_string (P := Tryd.prog) (A := A0) (c := c0) Tryd.underlying22 Tryd.underlying5 Tryd.underlying9 HR0.out
 have hcv4 := Kd.C_string (P := Tryd.prog) (A := A1) (c := c1) Tryd.underlying22 Tryd.underlying5 Tryd.underlying9 HR1.out
 go_enter Tryd.func68, Tryd.ntmps68
 go_wp2
 go_ret
 exact ⟨by first | rfl | (simp; done) | (simp [*]; done), by repeat (first | exact Drawn0.refl _ | apply Drawn0.step)⟩
end Go.Proofs.YtbgbocdohadhoaaDoor.Print
namespace Go.Proofs.YtbgbocdohadhoaaDoor.Print
open Go.RowKit Go.Proofs.YtbgbocdohadhoaaDoorW.PrintWords Go.Proofs.YtbgbocdohadhoaaDoorW.PrintLast Go.Proofs.YtbgbocdohadhoaaDoorW.PrintMore
set_option linter.unusedVariables false
set_option linter.unusedSimpArgs false
def spec_l3node.l0 : Nat → List Int → Int → Int → Int → Int → Int → List (S70) → List (S76) → Option (Int)
 | 0, _, _, _, _, _, _, _, _ => none
 | k + 1, x1, x5, x165000, x165001, x165002, x165003, x165004, x165005 => if x5 < (x165005.length : Int) then (if 0 ≤ x5 then ((spec_l3same.f ((rd_T76 x165005 x5).f0) x1).bind fun t166 => (if t166 = true then (some x5) else (spec_l3node.l0 k x1 (wrap64 (x5 + 1)) x165000 x165001 x165002 x165003 x165004 x165005))) else (none)) else (some (-1))
def spec_l3node.f (k : Nat) (a0_0 : Int) (a0_1 : Int) (a0_2 : Int) (a0_3 : Int) (l0_4 : List (S70)) (l0_5 : List (S76)) (l1 : List Int) : Option (Int) := spec_l3node.l0 k l1 0 a0_0 a0_1 a0_2 a0_3 l0_4 l0_5
set_option maxHeartbeats 8000000 in
set_option maxRecDepth 100000 in
theorem spec_l3node.calls (k : Nat) (a0_0 : Int) (a0_1 : Int) (a0_2 : Int) (a0_3 : Int) (A0_4 : Option Addr) (c0_4 : Nat) (l0_4 : List (S70)) (A0_5 : Option Addr) (c0_5 : Nat) (l0_5 : List (S76)) (A1 : Option Addr) (c1 : Nat) (l1 : List Int) (r : Int) (w : World) (hr0_4 : Kd.C k70 w A0_4 l0_4.length l0_4) (hc0_4 : l0_4.length ≤ c0_4) (hr0_5 : Kd.C k76 w A0_5 l0_5.length l0_5) (hc0_5 : l0_5.length ≤ c0_5) (hr1 : Kd.C (Kd.int .u8) w A1 l1.length l1) (hc1 : l1.length ≤ c1) (h : spec_l3node.f k a0_0 a0_1 a0_2 a0_3 l0_4 l0_5 l1 = some r) :
  Calls Tryd.prog 125 #[.agg #[.int .u64 a0_0, .int .u64 a0_1, .int .u64 a0_2, .int .i64 a0_3, .slice A0_4 l0_4.length c0_4, .slice A0_5 l0_5.length c0_5], .slice A1 l1.length c1] w fun e w' => e = .returned (.int .i64 r) ∧ Below w.heap.size w w' := by
 have hu36 := Tryd.underlying36
 have HR0_4 := Aside0.mk hr0_4
 have HC0_4 := Aside0.mk hc0_4
 clear hr0_4 hc0_4
 have HR0_5 := Aside0.mk hr0_5
 have HC0_5 := Aside0.mk hc0_5
 clear hr0_5 hc0_5
 have HR1 := Aside0.mk hr1
 have HC1 := Aside0.mk hc1
 clear hr1 hc1
 have HB := Aside0.mk (Below.refl w.heap.size w)
 have H : (spec_l3node.l0 k l1 0 a0_0 a0_1 a0_2 a0_3 l0_4 l0_5) = some r := h
 clear h
 have H' := Aside0.mk H
 clear H
 go_enter Tryd.func125, Tryd.ntmps125
 go_wp2_with (first | ((with_reducible refine gate_dst (N := 2) rfl ?_); refine box_event ?hg (N := 2) ?hd (cs := #[.int .u64 a0_0, .int .u64 a0_1, .int .u64 a0_2, .int .i64 a0_3, .slice A0_4 l0_4.length c0_4, .slice A0_5 l0_5.length c0_5]) (t := 36) ?hr ?_; (case hd => rfl); (case hg => rfl); (case hr => first | (go_simp; done) | (go_simp; rfl)); intro gb164 hg w3 hbox hb; have n0_ := Aside0.mk (below_step (by repeat (first | (with_reducible first | exact HB.out | apply below_alloc | apply pw_below_drewN | apply below_drew1) | exact HB.out)) hb); have n1_ := Aside0.mk (hbox); have n2_ := Aside0.mk ((by rw [hg]; exact (below_size (by repeat (first | (with_reducible first | exact HB.out | apply below_alloc | apply pw_below_drewN | apply below_drew1) | exact HB.out))) : w.heap.size ≤ gb164)); have n3_ := Aside0.mk ((by rw [hg]; exact (below_size (by repeat (first | (with_reducible first | exact HB.out | apply below_alloc | apply pw_below_drewN | apply below_drew1) | exact HB.out))) : w.heap.size ≤ gb164)); clear HB; have HB := n0_; have BK164 := n1_; have GW164 := n2_; have GE164 := n3_; clear n0_ n1_ n2_ n3_; clear hb hbox hg))
 go_loopg [5] k (fun kq v5 w' => ∃ (x5_1 : Int), v5 = .int .i64 x5_1 ∧ Aside0 (spec_l3node.l0 kq l1 x5_1 a0_0 a0_1 a0_2 a0_3 l0_4 l0_5 = some r) ∧ Aside0 (kq ≤ k) ∧ Aside0 (w'.heap[gb164]? = some (.cells #[.int .u64 a0_0, .int .u64 a0_1, .int .u64 a0_2, .int .i64 a0_3, (.slice A0_4 l0_4.length c0_4), (.slice A0_5 l0_5.length c0_5)] 36 (0, 0))) ∧ Aside0 (Below w.heap.size w w'))
 case atStart => exact ⟨(0), (by first | rfl | (simp; done) | (simp [*]; done)), H', ⟨Nat.le_refl _⟩, ⟨by (with_reducible repeat (first | refine blk_drewN ?_ _ | refine blk_drew ?_ | refine blk_alloc ?_ _)); exact BK164.out⟩, ⟨by repeat (first | (with_reducible first | exact HB.out | apply below_alloc | apply pw_below_drewN | apply below_drew1 | refine below_set ?_ GE164.out) | exact HB.out)⟩⟩
 case round =>
  clear H'
  try clear c1
  try clear p2
  obtain ⟨x5_1, rfl, HA, HK1, BK164, HB⟩ := hrel
  cases gk with
  | zero => exact absurd HA.out (by simp [spec_l3node.l0])
  | succ k1 =>
   have H := HA.out
   clear HA
   simp only [spec_l3node.l0] at H
   by_cases c4 : x5_1 < (l0_5.length : Int)
   ·
    rw [if_pos c4] at H
    have c4b0 : decide (x5_1 < (l0_5.length : Int)) = true := decide_eq_true c4
    clear c4
    by_cases c5 : 0 ≤ x5_1
    ·
     rw [if_pos c5] at H
     have c5b0 : decide (0 ≤ x5_1) = true := decide_eq_true c5
     clear c5
     replace H := Option.bind_eq_some_iff.mp H
     obtain ⟨t166, A60, H⟩ := H
     replace H : (if t166 = true then (some x5_1) else (spec_l3node.l0 k1 l1 (wrap64 (x5_1 + 1)) a0_0 a0_1 a0_2 a0_3 l0_4 l0_5)) = some r := H
     have A6 := Aside0.mk A60
     clear A60
     by_cases c7 : t166 = true
     ·
      subst c7
      have H1 : (some x5_1) = some r := by first | rfl | (rw [if_pos rfl] at H; exact H)
      clear H
      have H := H1
      clear H1
      obtain rfl := Option.some.inj H
      have hcz8_0 : wr.cell? ⟨gb164, 0, none⟩ = some (.int .u64 a0_0) := (blk_cell BK164.out 0).trans rfl
      have hcz8_1 : wr.cell? ⟨gb164, 1, none⟩ = some (.int .u64 a0_1) := (blk_cell BK164.out 1).trans rfl
      have hcz8_2 : wr.cell? ⟨gb164, 2, none⟩ = some (.int .u64 a0_2) := (blk_cell BK164.out 2).trans rfl
      have hcz8_3 : wr.cell? ⟨gb164, 3, none⟩ = some (.int .i64 a0_3) := (blk_cell BK164.out 3).trans rfl
      have hcz8_4 : wr.cell? ⟨gb164, 4, none⟩ = some (.slice A0_4 l0_4.length c0_4) := (blk_cell BK164.out 4).trans rfl
      have hcz8_5 : wr.cell? ⟨gb164, 5, none⟩ = some (.slice A0_5 l0_5.length c0_5) := (blk_cell BK164.out 5).trans rfl
      have hfz8_0 := blk_frozen BK164.out 0
      have hfz8_1 := blk_frozen BK164.out 1
      have hfz8_2 := blk_frozen BK164.out 2
      have hfz8_3 := blk_frozen BK164.out 3
      have hfz8_4 := blk_frozen BK164.out 4
      have hfz8_5 := blk_frozen BK164.out 5
      have p165 : 0 ≤ (x5_1 : Int) := of_decide_eq_true (by first | (with_reducible assumption) | assumption)
      have q165 : x5_1 < (l0_5.length : Int) := of_decide_eq_true (by first | (with_reducible assumption) | assumption)
      obtain ⟨ad165, A165_0, c165_0, A165_1, c165_1, A165_4, c165_4, A165_7, c165_7, e165, hx165_0, hx165_1, hx165_2, hx165_3, hx165_4, hx165_5, hx165_6, hx165_7, hl165_0, hi165_0, hl165_1, hi165_1, hl165_4, hi165_4, hl165_7, hi165_7⟩ := at_T76 HR0_5.out x5_1 p165 q165
      cases e165
      replace hx165_0 := (HB.out.cell (World.block_lt_of_cell? w _ hx165_0)).trans hx165_0
      replace hx165_1 := (HB.out.cell (World.block_lt_of_cell? w _ hx165_1)).trans hx165_1
      replace hx165_2 := (HB.out.cell (World.block_lt_of_cell? w _ hx165_2)).trans hx165_2
      replace hx165_3 := (HB.out.cell (World.block_lt_of_cell? w _ hx165_3)).trans hx165_3
      replace hx165_4 := (HB.out.cell (World.block_lt_of_cell? w _ hx165_4)).trans hx165_4
      replace hx165_5 := (HB.out.cell (World.block_lt_of_cell? w _ hx165_5)).trans hx165_5
      replace hx165_6 := (HB.out.cell (World.block_lt_of_cell? w _ hx165_6)).trans hx165_6
      replace hx165_7 := (HB.out.cell (World.block_lt_of_cell? w _ hx165_7)).trans hx165_7
      have HR165_0 := Aside0.mk hi165_0
      have HC165_0 := Aside0.mk hl165_0
      clear hi165_0 hl165_0
      have HR165_1 := Aside0.mk hi165_1
      have HC165_1 := Aside0.mk hl165_1
      clear hi165_1 hl165_1
      have HR165_4 := Aside0.mk hi165_4
      have HC165_4 := Aside0.mk hl165_4
      clear hi165_4 hl165_4
      have HR165_7 := Aside0.mk hi165_7
      have HC165_7 := Aside0.mk hl165_7
      clear hi165_7 hl165_7
      replace p165 := eq_true p165
      replace q165 := eq_true q165
      go_wp2_with (first | ((with_reducible refine gate_callee (f := 68) rfl ?_); refine goesL_ (some 20) rfl rfl Tryd.func68 (by kernel_rfl) rfl #[.slice A165_0 ((rd_T76 l0_5 x5_1).f0).length c165_0, .slice A1 l1.length c1] rfl (by (try simp only [List.map_toArray, List.map_cons, List.map_nil]); first | done | rfl | (simp only [List.length_drop, List.length_take]; rfl)) ?_; (with_reducible refine (spec_l3same.calls _ _ ((rd_T76 l0_5 x5_1).f0) _ _ l1 true _ ?side1 ?side2 ?side3 ?side4 A6.out).mono ?_); (case side1 => repeat (first | exact (Kd.C_below HR165_0.out HB.out) | (with_reducible refine Kd.C_alloc ?_ _) | (with_reducible refine Kd.C_drewN ?_ _) | (with_reducible refine Kd.C_drew ?_))); (case side2 => exact HC165_0.out); (case side3 => repeat (first | exact (Kd.C_below HR1.out HB.out) | (with_reducible refine Kd.C_alloc ?_ _) | (with_reducible refine Kd.C_drewN ?_ _) | (with_reducible refine Kd.C_drew ?_))); (case side4 => exact HC1.out); rintro e w' ⟨rfl, ⟨nd, rfl⟩⟩; refine ⟨_, rfl, ?_⟩))
      go_ret
      exact ⟨by first | rfl | (simp [errW_none, errW_some] <;> rfl) | (simp [*, errW_none, errW_some] <;> rfl), by repeat (first | (with_reducible first | exact HB.out | apply below_alloc | apply pw_below_drewN | apply below_drew1 | refine below_set ?_ GE164.out) | exact HB.out)⟩
     ·
      replace c7 := Bool.eq_false_iff.mpr c7
      subst c7
      have H1 : (spec_l3node.l0 k1 l1 (wrap64 (x5_1 + 1)) a0_0 a0_1 a0_2 a0_3 l0_4 l0_5) = some r := by first | rfl | (rw [if_neg (show ¬ (false = true) by decide)] at H; exact H)
      clear H
      have H := H1
      clear H1
      have H' := Aside0.mk H
      clear H
      have hcz9_0 : wr.cell? ⟨gb164, 0, none⟩ = some (.int .u64 a0_0) := (blk_cell BK164.out 0).trans rfl
      have hcz9_1 : wr.cell? ⟨gb164, 1, none⟩ = some (.int .u64 a0_1) := (blk_cell BK164.out 1).trans rfl
      have hcz9_2 : wr.cell? ⟨gb164, 2, none⟩ = some (.int .u64 a0_2) := (blk_cell BK164.out 2).trans rfl
      have hcz9_3 : wr.cell? ⟨gb164, 3, none⟩ = some (.int .i64 a0_3) := (blk_cell BK164.out 3).trans rfl
      have hcz9_4 : wr.cell? ⟨gb164, 4, none⟩ = some (.slice A0_4 l0_4.length c0_4) := (blk_cell BK164.out 4).trans rfl
      have hcz9_5 : wr.cell? ⟨gb164, 5, none⟩ = some (.slice A0_5 l0_5.length c0_5) := (blk_cell BK164.out 5).trans rfl
      have hfz9_0 := blk_frozen BK164.out 0
      have hfz9_1 := blk_frozen BK164.out 1
      have hfz9_2 := blk_frozen BK164.out 2
      have hfz9_3 := blk_frozen BK164.out 3
      have hfz9_4 := blk_frozen BK164.out 4
      have hfz9_5 := blk_frozen BK164.out 5
      have p165 : 0 ≤ (x5_1 : Int) := of_decide_eq_true (by first | (with_reducible assumption) | assumption)
      have q165 : x5_1 < (l0_5.length : Int) := of_decide_eq_true (by first | (with_reducible assumption) | assumption)
      obtain ⟨ad165, A165_0, c165_0, A165_1, c165_1, A165_4, c165_4, A165_7, c165_7, e165, hx165_0, hx165_1, hx165_2, hx165_3, hx165_4, hx165_5, hx165_6, hx165_7, hl165_0, hi165_0, hl165_1, hi165_1, hl165_4, hi165_4, hl165_7, hi165_7⟩ := at_T76 HR0_5.out x5_1 p165 q165
      cases e165
      replace hx165_0 := (HB.out.cell (World.block_lt_of_cell? w _ hx165_0)).trans hx165_0
      replace hx165_1 := (HB.out.cell (World.block_lt_of_cell? w _ hx165_1)).trans hx165_1
      replace hx165_2 := (HB.out.cell (World.block_lt_of_cell? w _ hx165_2)).trans hx165_2
      replace hx165_3 := (HB.out.cell (World.block_lt_of_cell? w _ hx165_3)).trans hx165_3
      replace hx165_4 := (HB.out.cell (World.block_lt_of_cell? w _ hx165_4)).trans hx165_4
      replace hx165_5 := (HB.out.cell (World.block_lt_of_cell? w _ hx165_5)).trans hx165_5
      replace hx165_6 := (HB.out.cell (World.block_lt_of_cell? w _ hx165_6)).trans hx165_6
      replace hx165_7 := (HB.out.cell (World.block_lt_of_cell? w _ hx165_7)).trans hx165_7
      have HR165_0 := Aside0.mk hi165_0
      have HC165_0 := Aside0.mk hl165_0
      clear hi165_0 hl165_0
      have HR165_1 := Aside0.mk hi165_1
      have HC165_1 := Aside0.mk hl165_1
      clear hi165_1 hl165_1
      have HR165_4 := Aside0.mk hi165_4
      have HC165_4 := Aside0.mk hl165_4
      clear hi165_4 hl165_4
      have HR165_7 := Aside0.mk hi165_7
      have HC165_7 := Aside0.mk hl165_7
      clear hi165_7 hl165_7
      replace p165 := eq_true p165
      replace q165 := eq_true q165
      go_wp2_with (first | ((with_reducible refine gate_callee (f := 68) rfl ?_); refine goesL_ (some 20) rfl rfl Tryd.func68 (by kernel_rfl) rfl #[.slice A165_0 ((rd_T76 l0_5 x5_1).f0).length c165_0, .slice A1 l1.length c1] rfl (by (try simp only [List.map_toArray, List.map_cons, List.map_nil]); first | done | rfl | (simp only [List.length_drop, List.length_take]; rfl)) ?_; (with_reducible refine (spec_l3same.calls _ _ ((rd_T76 l0_5 x5_1).f0) _ _ l1 false _ ?side1 ?side2 ?side3 ?side4 A6.out).mono ?_); (case side1 => repeat (first | exact (Kd.C_below HR165_0.out HB.out) | (with_reducible refine Kd.C_alloc ?_ _) | (with_reducible refine Kd.C_drewN ?_ _) | (with_reducible refine Kd.C_drew ?_))); (case side2 => exact HC165_0.out); (case side3 => repeat (first | exact (Kd.C_below HR1.out HB.out) | (with_reducible refine Kd.C_alloc ?_ _) | (with_reducible refine Kd.C_drewN ?_ _) | (with_reducible refine Kd.C_drew ?_))); (case side4 => exact HC1.out); rintro e w' ⟨rfl, ⟨nd, rfl⟩⟩; refine ⟨_, rfl, ?_⟩))
      go_roundg k1
      case measure => have := HK1.out; omega
      case rel => exact ⟨(wrap64 (x5_1 + 1)), (by first | rfl | (simp; done) | (simp [*]; done)), H', ⟨by have := HK1.out; omega⟩, ⟨by (with_reducible repeat (first | refine blk_drewN ?_ _ | refine blk_drew ?_ | refine blk_alloc ?_ _)); exact BK164.out⟩, ⟨by repeat (first | (with_reducible first | exact HB.out | apply below_alloc | apply pw_below_drewN | apply below_drew1 | refine below_set ?_ GE164.out) | exact HB.out)⟩⟩
    ·
     rw [if_neg c5] at H
     exact absurd H (by simp)
   ·
    rw [if_neg c4] at H
    have c4b0 : decide (x5_1 < (l0_5.length : Int)) = false := decide_eq_false c4
    clear c4
    obtain rfl := Option.some.inj H
    have hcz10_0 : wr.cell? ⟨gb164, 0, none⟩ = some (.int .u64 a0_0) := (blk_cell BK164.out 0).trans rfl
    have hcz10_1 : wr.cell? ⟨gb164, 1, none⟩ = some (.int .u64 a0_1) := (blk_cell BK164.out 1).trans rfl
    have hcz10_2 : wr.cell? ⟨gb164, 2, none⟩ = some (.int .u64 a0_2) := (blk_cell BK164.out 2).trans rfl
    have hcz10_3 : wr.cell? ⟨gb164, 3, none⟩ = some (.int .i64 a0_3) := (blk_cell BK164.out 3).trans rfl
    have hcz10_4 : wr.cell? ⟨gb164, 4, none⟩ = some (.slice A0_4 l0_4.length c0_4) := (blk_cell BK164.out 4).trans rfl
    have hcz10_5 : wr.cell? ⟨gb164, 5, none⟩ = some (.slice A0_5 l0_5.length c0_5) := (blk_cell BK164.out 5).trans rfl
    have hfz10_0 := blk_frozen BK164.out 0
    have hfz10_1 := blk_frozen BK164.out 1
    have hfz10_2 := blk_frozen BK164.out 2
    have hfz10_3 := blk_frozen BK164.out 3
    have hfz10_4 := blk_frozen BK164.out 4
    have hfz10_5 := blk_frozen BK164.out 5
    go_wp2
    go_ret
    exact ⟨by first | rfl | (simp [errW_none, errW_some] <;> rfl) | (simp [*, errW_none, errW_some] <;> rfl), by repeat (first | (with_reducible first | exact HB.out | apply below_alloc | apply pw_below_drewN | apply below_drew1 | refine below_set ?_ GE164.out) | exact HB.out)⟩
end Go.Proofs.YtbgbocdohadhoaaDoor.Print
namespace Go.Proofs.YtbgbocdohadhoaaDoor.Print
open Go Go.RowKit Go.Proofs.YtbgbocdohadhoaaDoorW.PrintWords Go.Proofs.YtbgbocdohadhoaaDoorW.PrintLast Go.Proofs.YtbgbocdohadhoaaDoorW.PrintMore
set_option linter.unusedVariables false
set_option linter.unusedSimpArgs false
theorem slash_const (w : World) : Kd.C (Kd.int .u8) (w.alloc (.cells #[.int .u8 47] 5 (1, 2))) (some ⟨w.heap.size, 0, none⟩) [(47 : Int)].length [47] :=
 Kd.C_of_reads (d := (0 : Int)) (h1 := fun _ => rfl) ⟨rfl, by simp, fun _ => ⟨⟨w.heap.size, 0, none⟩, rfl, fun j hj => by
  obtain rfl : j = 0 := by simpa using hj
  exact World.cell?_alloc_mark w #[.int .u8 47] 5 (1, 2) 0⟩⟩
set_option maxHeartbeats 4000000 in
set_option maxRecDepth 100000 in
theorem spec_parent_calls (A : Option Addr) (c : Nat) (p : List Int) (w : World) (h : Kd.C (Kd.int .u8) w A p.length p) (hc : p.length ≤ c) (hl : p.length ≤ 2097152) :
  Calls Tryd.prog 93 #[.slice A p.length c] w fun e w' => ∃ B d, e = .returned (.slice B (parentL p).length d) ∧ (parentL p).length ≤ d ∧ Kd.C (Kd.int .u8) w' B (parentL p).length (parentL p) ∧ Below w.heap.size w w' := by
 have HR := Aside0.mk h
 have HL := Aside0.mk (And.intro hc hl)
 have kc := fun (w : World) (C : Array Value) (n c : Nat) => Lib.run_convert_bytes_const (P := Tryd.prog) w 22 5 C n c Tryd.underlying22 Tryd.underlying5
 obtain ⟨i0, hi0, _, hsz0, _⟩ := info_parts info5
 have HCUT := Aside0.mk (fun (j : Int) (h0 : 0 ≤ j) (hm : j ≤ p.length) => print_take_of (P := Tryd.prog) (Value.int .u8) 0 22 5 .i64 Tryd.underlying22 hi0 hsz0 A c p j h0 hm hc)
 clear h hc hi0 hsz0
 go_enter Tryd.func93, Tryd.ntmps93
 go_wp2_with fail
 go_loop [3, 4] (fun v3 v4 => ∃ a i : Nat, v3 = .int .i64 a ∧ v4 = .int .i64 i ∧ Aside0 (i ≤ p.length ∧ a ≤ p.length) ∧ Aside0 (lastFrom p 0 0 = lastFrom (p.drop i) i a)) (fun _ v4 => p.length - (intOf v4).toNat)
 case atStart => exact ⟨0, 0, rfl, rfl, ⟨⟨by omega, by omega⟩⟩, ⟨rfl⟩⟩
 case round =>
  obtain ⟨a, i, rfl, rfl, HJ, HV⟩ := hrel
  have hj0 := HJ.out
  by_cases hj : i < p.length
  ·
   have c1 : decide ((i : Int) < (p.length : Int)) = true := decide_eq_true (by omega)
   have ci : (0 : Int) ≤ (i : Int) := by omega
   have ci2 : (i : Int) < (p.length : Int) := by omega
   obtain ⟨ad, rfl, hx⟩ := Kd.at_int HR.out (i : Int) (by omega) (by omega)
   rw [Int.toNat_natCast, rd_nat, getD_at p i hj] at hx
   have HN := Aside0.mk (show lastFrom p 0 0 = lastFrom (p.drop (i + 1)) (i + 1) (if p[i] = 47 then i else a) by rw [HV.out, List.drop_eq_getElem_cons hj, lastFrom])
   obtain ⟨x, hxx⟩ : ∃ x, p[i] = x := ⟨_, rfl⟩
   rw [hxx] at hx HN
   clear HV hxx HCUT kc
   by_cases h47 : x = 47
   ·
    subst h47
    have HN := Aside0.mk (show lastFrom p 0 0 = lastFrom (p.drop (i + 1)) (i + 1) i by rw [HN.out, if_pos rfl])
    go_wp2_with fail
    go_round
    case rel => exact ⟨i, i + 1, rfl, by go_num, ⟨⟨by omega, by omega⟩⟩, HN⟩
    case measure => simp [intOf]; omega
   ·
    have d2 : decide (x = 47) = false := decide_eq_false h47
    have d3 : (x == 47) = false := by rw [beq_eq_false_iff_ne]; exact h47
    have HN := Aside0.mk (show lastFrom p 0 0 = lastFrom (p.drop (i + 1)) (i + 1) a by rw [HN.out, if_neg h47])
    go_wp2_with fail
    go_round
    case rel => exact ⟨a, i + 1, rfl, by go_num, ⟨⟨by omega, by omega⟩⟩, HN⟩
    case measure => simp [intOf]; omega
  ·
   have c1 : decide ((i : Int) < (p.length : Int)) = false := decide_eq_false (by omega)
   have hi : i = p.length := by omega
   have HA := Aside0.mk (show lastFrom p 0 0 = a by rw [HV.out, hi, List.drop_length, lastFrom])
   have HC := HCUT.out (a : Int) (by omega) (by omega)
   have hcut := HC.1
   have HC2 := Aside0.mk HC.2
   rw [Int.toNat_natCast] at hcut HC2
   clear HC HCUT HV
   by_cases h0 : a = 0
   ·
    have d2 : decide ((a : Int) = 0) = true := decide_eq_true (by omega)
    have d3 : ((a : Int) == 0) = true := by rw [beq_iff_eq]; omega
    have HP := Aside0.mk (show parentL p = [47] by unfold parentL; rw [HA.out, if_pos h0])
    clear h0 hcut hi
    go_wp2_with fail
    go_ret
    rw [HP.out]
    exact ⟨some ⟨w.heap.size, 0, none⟩, 1, rfl, by simp, slash_const w, (Below.refl _ w).alloc (Nat.le_refl _) _⟩
   ·
    have d2 : decide ((a : Int) = 0) = false := decide_eq_false (by omega)
    have d3 : ((a : Int) == 0) = false := by rw [beq_eq_false_iff_ne]; omega
    have HP := Aside0.mk (show parentL p = p.take a by unfold parentL; rw [HA.out, if_neg h0])
    clear h0 hi
    go_wp2_with fail
    go_ret
    rw [HP.out]
    have hta : (p.take a).length = a := by rw [List.length_take]; have := hj0.2; omega
    exact ⟨A, c, by rw [hta]; rfl, HC2.out.2, Kd.C_of_reads (h1 := fun _ => rfl) (HC2.out.1 _ (Kd.reads_of_C HR.out)), Below.refl _ _⟩
theorem bytesOf_beq {a b : List Int} (ha : ∀ x ∈ a, 0 ≤ x ∧ x < 256) (hb : ∀ x ∈ b, 0 ≤ x ∧ x < 256) : (Lib.bytesOf a == Lib.bytesOf b) = (a == b) := by
 by_cases h : a = b
 ·
  rw [h, beq_self_eq_true, beq_self_eq_true]
 ·
  rw [beq_eq_false_iff_ne.2 h, beq_eq_false_iff_ne.2 (fun e => h (bytesOf_inj ha hb e))]
theorem same_f {a b : List Int} (ha : ∀ x ∈ a, 0 ≤ x ∧ x < 256) (hb : ∀ x ∈ b, 0 ≤ x ∧ x < 256) : spec_l3same.f a b = some (a == b) := by
 unfold spec_l3same.f
 rw [Lib.strOfNums_toList, Lib.strOfNums_toList, bytesOf_beq ha hb]
def ixOf (p : List Int) : List No → Nat → Option Nat
 | [], _ => none
 | n :: r, i => if n.f0 == p then some i else ixOf p r (i + 1)
theorem node_loop (p : List Int) (e g n t : Int) (xs : List Se) (ns : List No) (hl : ns.length ≤ 2097152) (hp : ∀ x ∈ p, 0 ≤ x ∧ x < 256) (hn : ∀ m ∈ ns, ∀ x ∈ m.f0, 0 ≤ x ∧ x < 256) : ∀ (d k i : Nat), i + d = ns.length → d < k →
  spec_l3node.l0 k p (i : Int) e g n t xs ns = some (match ixOf p (ns.drop i) i with | none => -1 | some j => (j : Int)) := by
 intro d
 induction d with
 | zero =>
  intro k i hi hk
  obtain ⟨k, rfl⟩ : ∃ m, k = m + 1 := ⟨k - 1, by omega⟩
  rw [spec_l3node.l0, if_neg (by omega), List.drop_eq_nil_of_le (by omega), ixOf]
 | succ d ih =>
  intro k i hi hk
  obtain ⟨k, rfl⟩ : ∃ m, k = m + 1 := ⟨k - 1, by omega⟩
  have hlt : i < ns.length := by omega
  have ex : rd_T76 ns (i : Int) = ns[i] := by unfold rd_T76; rw [Int.toNat_natCast, List.getD_eq_getElem?_getD, List.getElem?_eq_getElem hlt]; rfl
  rw [spec_l3node.l0, if_pos (by omega), if_pos (by omega), ex, same_f (hn _ (List.getElem_mem hlt)) hp, Option.bind_some, List.drop_eq_getElem_cons hlt, ixOf]
  by_cases c : (ns[i].f0 == p) = true
  ·
   rw [if_pos c, if_pos c]
  ·
   rw [if_neg c, if_neg c, wrap_up i (by omega), ih k (i + 1) (by omega) (by omega)]
theorem ixOf_find (p : List Int) : ∀ (ns : List No) (i : Nat), match ixOf p ns i with
  | none => ns.find? (fun n => n.f0 == p) = none
  | some j => i ≤ j ∧ j - i < ns.length ∧ ns.find? (fun n => n.f0 == p) = ns[j - i]?
 | [], i => by simp [ixOf]
 | n :: r, i => by
  rw [ixOf]
  by_cases c : (n.f0 == p) = true
  ·
   rw [if_pos c]
   simp only
   rw [show (n :: r).find? (fun n => n.f0 == p) = some n from by simp [List.find?_cons, c], Nat.sub_self]
   exact ⟨Nat.le_refl _, by simp, rfl⟩
  ·
   rw [if_neg c, show (n :: r).find? (fun n => n.f0 == p) = r.find? (fun n => n.f0 == p) from by simp [List.find?_cons, c]]
   have ih := ixOf_find p r (i + 1)
   cases hx : ixOf p r (i + 1) with
   | none => rw [hx] at ih; exact ih
   | some j =>
    rw [hx] at ih
    simp only at ih ⊢
    obtain ⟨h1, h2, h3⟩ := ih
    refine ⟨by omega, by simp; omega, ?_⟩
    rw [h3, show j - i = (j - (i + 1)) + 1 by omega, List.getElem?_cons_succ]
set_option maxHeartbeats 4000000 in
set_option maxRecDepth 100000 in
theorem spec_canParent_calls (e g n t : Int) (As : Option Addr) (cs : Nat) (xs : List Se) (An : Option Addr) (cn : Nat) (ns : List No) (A : Option Addr) (c : Nat) (p : List Int) (w : World) (h1 : Kd.C kSe w As xs.length xs) (hc1 : xs.length ≤ cs) (h2 : Kd.C kNo w An ns.length ns) (hc2 : ns.length ≤ cn) (h3 : Kd.C (Kd.int .u8) w A p.length p) (hc3 : p.length ≤ c) (hl : ns.length ≤ 2097152) (hp : ∀ x ∈ p, 0 ≤ x ∧ x < 256) (hn : ∀ m ∈ ns, ∀ x ∈ m.f0, 0 ≤ x ∧ x < 256) :
  Calls Tryd.prog 92 #[.agg #[.int .u64 e, .int .u64 g, .int .u64 n, .int .i64 t, .slice As xs.length cs, .slice An ns.length cn], .slice A p.length c] w fun r w' => r = .returned (.bool (canParB ns p)) ∧ Below w.heap.size w w' := by
 have HR := Aside0.mk (And.intro h1 (And.intro h2 h3))
 have HL := Aside0.mk (And.intro hc1 (And.intro hc2 hc3))
 have HN := Aside0.mk (node_loop p e g n t xs ns hl hp hn ns.length 3000000 0 (by omega) (by omega))
 have HF := Aside0.mk (ixOf_find p ns 0)
 have HS := Aside0.mk (same_f hp (show ∀ x ∈ [(47 : Int)], 0 ≤ x ∧ x < 256 by simp))
 have kc := fun (w : World) (C : Array Value) (n c : Nat) => Lib.run_convert_bytes_const (P := Tryd.prog) w 22 5 C n c Tryd.underlying22 Tryd.underlying5
 have kc2 := kc (w.alloc (.cells #[.int .u64 e, .int .u64 g, .int .u64 n, .int .i64 t, .slice As xs.length cs, .slice An ns.length cn] 36)) #[.int .u8 47] 1 1
 simp only [World.size_alloc] at kc2
 clear h1 hc1 h2 hc2 h3 hc3 hp hn kc
 go_enter Tryd.func92, Tryd.ntmps92
 go_wp2_with fail
 have hB := below_alloc (Below.refl w.heap.size w) (.cells #[.int .u64 e, .int .u64 g, .int .u64 n, .int .i64 t, .slice As xs.length cs, .slice An ns.length cn] 36)
 have b0 := blk_new w (.cells #[.int .u64 e, .int .u64 g, .int .u64 n, .int .i64 t, .slice As xs.length cs, .slice An ns.length cn] 36)
 have hWs : (w.alloc (.cells #[.int .u64 e, .int .u64 g, .int .u64 n, .int .i64 t, .slice As xs.length cs, .slice An ns.length cn] 36)).heap.size = w.heap.size + 1 := World.size_alloc _ _
 generalize (w.alloc (.cells #[.int .u64 e, .int .u64 g, .int .u64 n, .int .i64 t, .slice As xs.length cs, .slice An ns.length cn] 36)) = W at *
 have hsl := slash_const W
 rw [hWs] at hsl
 have hB2 : Below W.heap.size W (W.alloc (.cells #[.int .u8 47] 5 (1, 2))) := (Below.refl _ W).alloc (Nat.le_refl _) _
 have hB3 := below_step hB hB2
 obtain ⟨sb, hsb⟩ : ∃ sb, (p == [47]) = sb := ⟨_, rfl⟩
 rw [hsb] at HS
 have HSB := Aside0.mk hsb
 clear hsb
 refine (spec_l3same.calls A c p _ 1 [47] sb _ (Kd.C_below HR.out.2.2 hB3) HL.out.2.2 hsl (Nat.le_refl _) HS.out).mono ?_
 rintro r w2 ⟨rfl, hdr⟩
 have HB := Aside0.mk (below_step hB3 hdr.below)
 have BX := Aside0.mk (blk_below (blk_below b0 hB2) hdr.below)
 clear hdr hB hB2 hB3 b0 hsl hWs kc2
 cases sb with
 | true =>
  go_wp2_with fail
  go_ret
  rw [show canParB ns p = true by unfold canParB; rw [HSB.out]; rfl]
  exact ⟨rfl, HB.out⟩
 | false =>
  have z0 := blk_cell BX.out 0
  have z1 := blk_cell BX.out 1
  have z2 := blk_cell BX.out 2
  have z3 := blk_cell BX.out 3
  have z4 := blk_cell BX.out 4
  have z5 := blk_cell BX.out 5
  simp only [List.getElem?_toArray, List.getElem?_cons_zero, List.getElem?_cons_succ] at z0 z1 z2 z3 z4 z5
  have HC := Aside0.mk (show canParB ns p = match ns.find? (fun n => n.f0 == p) with | none => false | some n => n.f2 == 0 by unfold canParB; rw [HSB.out, Bool.false_or]; try (cases ns.find? (fun n => n.f0 == p) <;> rfl))
  clear HSB
  go_wp2_with fail
  refine (spec_l3node.calls 3000000 e g n t As cs xs An cn ns A c p _ _ (Kd.C_below HR.out.1 HB.out) HL.out.1 (Kd.C_below HR.out.2.1 HB.out) HL.out.2.1 (Kd.C_below HR.out.2.2 HB.out) HL.out.2.2 HN.out).mono ?_
  rintro r w3 ⟨rfl, hb⟩
  have HB2 := Aside0.mk (below_step HB.out hb)
  have BX2 := Aside0.mk (blk_below BX.out hb)
  clear hb HB BX z0 z1 z2 z3 z4 z5
  have z5 := blk_cell BX2.out 5
  simp only [List.getElem?_toArray, List.getElem?_cons_zero, List.getElem?_cons_succ] at z5
  rw [List.drop_zero]
  cases hx : ixOf p ns 0 with
  | none =>
   have hf := HF.out
   rw [hx] at hf
   simp only at hf
   have HC2 := Aside0.mk (show canParB ns p = false by rw [HC.out, hf])
   clear hf HC hx HF HN
   go_wp2_with fail
   go_ret
   rw [HC2.out]
   exact ⟨rfl, HB2.out⟩
  | some j =>
   have hf := HF.out
   rw [hx] at hf
   simp only at hf
   obtain ⟨_, hj, hfj⟩ := hf
   rw [Nat.sub_zero] at hj hfj
   have HC2 := Aside0.mk (show canParB ns p = (ns[j].f2 == 0) by rw [HC.out, hfj, List.getElem?_eq_getElem hj])
   have cj : (0 : Int) ≤ (j : Int) := by omega
   have cj2 : (j : Int) < (ns.length : Int) := by omega
   obtain ⟨ad, A0, c0_, A1, c1_, A4, c4_, A7, c7_, eA, hx0, hx1, hx2, _⟩ := at_T76 HR.out.2.1 (j : Int) (by omega) (by omega)
   have ex : rd_T76 ns (j : Int) = ns[j] := by unfold rd_T76; rw [Int.toNat_natCast, List.getD_eq_getElem?_getD, List.getElem?_eq_getElem hj]; rfl
   rw [ex] at hx2
   cases eA
   replace hx2 := (HB2.out.cell (World.block_lt_of_cell? w _ hx2)).trans hx2
   rw [Int.toNat_natCast] at hx2
   obtain ⟨x, hxx⟩ : ∃ x, ns[j].f2 = x := ⟨_, rfl⟩
   rw [hxx] at hx2 HC2
   clear hxx ex hx0 hx1 HC hx HF HN hfj
   go_wp2_with fail
   go_ret
   rw [HC2.out]
   exact ⟨rfl, HB2.out⟩
end Go.Proofs.YtbgbocdohadhoaaDoor.Print
namespace Go.Proofs.YtbgbocdohadhoaaDoor.Print
open Go Go.RowKit Go.Proofs.YtbgbocdohadhoaaDoorW.PrintWords Go.Proofs.YtbgbocdohadhoaaDoorW.PrintLast Go.Proofs.YtbgbocdohadhoaaDoorW.PrintMore
set_option linter.unusedVariables false
set_option linter.unusedSimpArgs false
theorem bl_cons (a b : UInt8) (x y : List UInt8) : Op.bytesLess (a :: x) (b :: y) = true ↔ a.toNat < b.toNat ∨ (a = b ∧ Op.bytesLess x y = true) := by
 rw [Op.bytesLess]
 simp only [Bool.or_eq_true, Bool.and_eq_true, decide_eq_true_eq, beq_iff_eq, UInt8.lt_iff_toNat_lt]
theorem bl_trans : ∀ (x y z : List UInt8), Op.bytesLess x y = true → Op.bytesLess y z = true → Op.bytesLess x z = true
 | _, [], z, h, _ => by cases ‹List UInt8› <;> simp [Op.bytesLess] at h
 | _, _ :: _, [], _, h => by simp [Op.bytesLess] at h
 | [], _ :: _, _ :: _, _, _ => by simp [Op.bytesLess]
 | a :: x, b :: y, c :: z, h1, h2 => by
  rw [bl_cons] at h1 h2 ⊢
  rcases h1 with h1 | ⟨rfl, h1⟩
  ·
   rcases h2 with h2 | ⟨rfl, h2⟩
   ·
    exact Or.inl (by omega)
   ·
    exact Or.inl h1
  ·
   rcases h2 with h2 | ⟨rfl, h2⟩
   ·
    exact Or.inl h2
   ·
    exact Or.inr ⟨rfl, bl_trans x y z h1 h2⟩
theorem bl_irrefl : ∀ x : List UInt8, Op.bytesLess x x = false
 | [] => rfl
 | a :: x => by
  rw [Bool.eq_false_iff, ne_eq, bl_cons, not_or, not_and]
  exact ⟨by omega, fun _ => by rw [bl_irrefl x]; exact Bool.false_ne_true⟩
theorem bl_tri : ∀ x y : List UInt8, Op.bytesLess x y = false → Op.bytesLess y x = false → x = y
 | [], [], _, _ => rfl
 | [], _ :: _, h, _ => by simp [Op.bytesLess] at h
 | _ :: _, [], _, h => by simp [Op.bytesLess] at h
 | a :: x, b :: y, h1, h2 => by
  rw [Bool.eq_false_iff, ne_eq, bl_cons, not_or, not_and] at h1 h2
  have e : a = b := UInt8.toNat_inj.1 (by omega)
  subst e
  rw [bl_tri x y (Bool.eq_false_iff.2 (h1.2 rfl)) (Bool.eq_false_iff.2 (h2.2 rfl))]
theorem bl_prefix : ∀ (x r : List UInt8), r ≠ [] → Op.bytesLess x (x ++ r) = true
 | [], [], h => absurd rfl h
 | [], _ :: _, _ => by simp [Op.bytesLess]
 | a :: x, r, h => by rw [List.cons_append, bl_cons]; exact Or.inr ⟨rfl, bl_prefix x r h⟩
def ltL (a b : List Int) : Prop := Op.bytesLess (Lib.bytesOf a) (Lib.bytesOf b) = true
theorem leB_false {a b : List Int} : leB b a = false ↔ ltL a b := by
 unfold leB ltL
 rw [Bool.or_eq_false_iff, beq_eq_false_iff_ne]
 constructor
 ·
  rintro ⟨h1, h2⟩
  cases h : Op.bytesLess (Lib.bytesOf a) (Lib.bytesOf b) with
  | true => rfl
  | false => exact absurd (bl_tri _ _ h1 h) h2
 ·
  intro h
  constructor
  ·
   cases h2 : Op.bytesLess (Lib.bytesOf b) (Lib.bytesOf a) with
   | false => rfl
   | true => exact absurd (bl_trans _ _ _ h h2) (by rw [bl_irrefl]; exact Bool.false_ne_true)
  ·
   intro e
   rw [e, bl_irrefl] at h
   exact absurd h Bool.false_ne_true
theorem ltL_ne {a b : List Int} (h : ltL a b) : a ≠ b := by
 rintro rfl
 unfold ltL at h
 rw [bl_irrefl] at h
 exact absurd h Bool.false_ne_true
theorem ltL_trans {a b c : List Int} (h1 : ltL a b) (h2 : ltL b c) : ltL a c := bl_trans _ _ _ h1 h2
theorem lastFrom_lt : ∀ (l : List Int) (i a m : Nat), a < m → i + l.length ≤ m → lastFrom l i a < m
 | [], _, _, _, h, _ => h
 | c :: r, i, a, m, h, hm => by
  rw [lastFrom]
  rw [List.length_cons] at hm
  exact lastFrom_lt r (i + 1) _ m (by split <;> omega) (by omega)
theorem parent_lt {p : List Int} (h : lastFrom p 0 0 ≠ 0) : ltL (p.take (lastFrom p 0 0)) p := by
 have hm : lastFrom p 0 0 < p.length := by
  cases p with
  | nil => exact absurd rfl h
  | cons c r => exact lastFrom_lt (c :: r) 0 0 _ (by simp) (by simp)
 obtain ⟨m, hmm⟩ : ∃ m, lastFrom p 0 0 = m := ⟨_, rfl⟩
 rw [hmm] at hm ⊢
 unfold ltL
 have e : Lib.bytesOf p = Lib.bytesOf (p.take m) ++ Lib.bytesOf (p.drop m) := by
  unfold Lib.bytesOf
  rw [← List.map_append, List.take_append_drop]
 rw [e]
 refine bl_prefix _ _ (fun e2 => ?_)
 have := congrArg List.length e2
 unfold Lib.bytesOf at this
 rw [List.length_map, List.length_drop, List.length_nil] at this
 omega
theorem asc_all (ns : List No) (h : ∀ k (hk : k < ns.length), 0 < k → leB ns[k].f0 (ns.getD (k - 1) zNo).f0 = false) (i : Nat) : ∀ (d : Nat) (hk : i + d < ns.length), d ≠ 0 → ltL (ns[i]'(by omega)).f0 ns[i + d].f0 := by
 intro d
 induction d with
 | zero => intro _ h0; exact absurd rfl h0
 | succ d ih =>
  intro hk _
  have h1 := leB_false.1 (h (i + (d + 1)) hk (by omega))
  have e : (ns.getD (i + (d + 1) - 1) zNo) = ns[i + d]'(by omega) := by
   rw [show i + (d + 1) - 1 = i + d by omega, List.getD_eq_getElem?_getD, List.getElem?_eq_getElem (by omega)]
   rfl
  rw [e] at h1
  by_cases d0 : d = 0
  ·
   subst d0
   exact h1
  ·
   exact ltL_trans (ih (by omega) d0) h1
theorem find_take (ns : List No) (i : Nat) (hi : i < ns.length) (q : List Int) (h : ∀ k (hk : k < ns.length), i ≤ k → ns[k].f0 ≠ q) : ns.find? (fun n => n.f0 == q) = (ns.take i).find? (fun n => n.f0 == q) := by
 conv => lhs; rw [← List.take_append_drop i ns]
 rw [List.find?_append]
 have : (ns.drop i).find? (fun n => n.f0 == q) = none := by
  rw [List.find?_eq_none]
  intro x hx
  obtain ⟨j, hj, rfl⟩ := List.mem_iff_getElem.1 hx
  rw [List.getElem_drop]
  rw [List.length_drop] at hj
  simpa using h (i + j) (by omega) (by omega)
 rw [this, Option.or_none]
theorem canPar_take (ns : List No) (h : ∀ k (hk : k < ns.length), 0 < k → leB ns[k].f0 (ns.getD (k - 1) zNo).f0 = false) (i : Nat) (hi : i < ns.length) : canParB ns (parentL ns[i].f0) = canParB (ns.take i) (parentL ns[i].f0) := by
 unfold canParB
 by_cases h0 : lastFrom ns[i].f0 0 0 = 0
 ·
  rw [show parentL ns[i].f0 = [47] by unfold parentL; rw [if_pos h0]]
  rfl
 ·
  rw [show parentL ns[i].f0 = ns[i].f0.take (lastFrom ns[i].f0 0 0) by unfold parentL; rw [if_neg h0]]
  have hp := parent_lt h0
  rw [find_take ns i hi _ ?_]
  intro k hk hik e
  by_cases hki : k = i
  ·
   subst hki
   exact ltL_ne hp e.symm
  ·
   have := asc_all ns h i (k - i) (by omega) (by omega)
   simp only [show i + (k - i) = k by omega] at this
   exact ltL_ne (ltL_trans hp this) e.symm
def ascB (l : List Int) : Bool := allI (fun i x => i == 0 || decide (l.getD (i - 1) 0 < x)) 0 l
theorem idsB_split (xs : List Se) (l : List Int) : idsB xs l = (ascB l && l.all (liveB xs)) := by
 rw [Bool.eq_iff_iff, Bool.and_eq_true]
 unfold idsB ascB
 rw [allI_iff, allI_iff, List.all_eq_true]
 constructor
 ·
  intro h
  refine ⟨fun j hj => (Bool.and_eq_true _ _ ▸ h j hj).2, fun x hx => ?_⟩
  obtain ⟨j, hj, rfl⟩ := List.mem_iff_getElem.1 hx
  exact (Bool.and_eq_true _ _ ▸ h j hj).1
 ·
  rintro ⟨h1, h2⟩ j hj
  rw [Bool.and_eq_true]
  exact ⟨h2 _ (List.getElem_mem hj), h1 j hj⟩
def nodeI (epoch gen : Int) (xs : List Se) (ns : List No) (i : Nat) (n : No) : Bool :=
 (pathB n.f0 && (i == 0 || !leB n.f0 (ns.getD (i - 1) zNo).f0) && decide (n.f1.length ≤ 40) && (n.f2 == 0 || liveB xs n.f2)) &&
  (ascB n.f4 && ascB n.f7 && n.f4.all (liveB xs) && n.f7.all (liveB xs) && lockB epoch gen n) && canParB (ns.take i) (parentL n.f0)
def validI (epoch gen next now : Int) (xs : List Se) (ns : List No) : Bool :=
 headB epoch gen next now xs.length ns.length && allI (sesB next xs) 0 xs && allI (nodeI epoch gen xs ns) 0 ns
theorem nodes_eq (e g : Int) (xs : List Se) (ns : List No) : allI (nodeI e g xs ns) 0 ns = allI (nodeB e g xs ns) 0 ns := by
 rw [Bool.eq_iff_iff, allI_iff, allI_iff]
 have asc : ∀ f : Nat → No → Bool, (∀ k n, f k n = true → (k == 0 || !leB n.f0 (ns.getD (k - 1) zNo).f0) = true) → (∀ j (h : j < ns.length), f (0 + j) ns[j] = true) → ∀ k (hk : k < ns.length), 0 < k → leB ns[k].f0 (ns.getD (k - 1) zNo).f0 = false := by
  intro f hf h k hk h0
  have := hf _ _ (h k hk)
  rw [Nat.zero_add, show (k == 0) = false from beq_eq_false_iff_ne.2 (by omega), Bool.false_or, Bool.not_eq_true'] at this
  exact this
 constructor
 ·
  intro h j hj
  have ha := asc _ (fun k n hk => by unfold nodeI at hk; simp only [Bool.and_eq_true] at hk; exact hk.1.1.1.1.2) h
  have hc := canPar_take ns ha j hj
  have hh := h j hj
  unfold nodeI at hh
  unfold nodeB
  rw [Nat.zero_add] at hh ⊢
  rw [idsB_split, idsB_split, hc]
  simp only [Bool.and_eq_true] at hh ⊢
  obtain ⟨⟨⟨⟨⟨a, b⟩, c⟩, d⟩, ⟨⟨⟨e1, e2⟩, e3⟩, e4⟩, e5⟩, e6⟩ := hh
  exact ⟨⟨⟨⟨⟨⟨⟨a, b⟩, e6⟩, c⟩, d⟩, e1, e3⟩, e2, e4⟩, e5⟩
 ·
  intro h j hj
  have ha := asc _ (fun k n hk => by unfold nodeB at hk; simp only [Bool.and_eq_true] at hk; exact hk.1.1.1.1.1.1.2) h
  have hc := canPar_take ns ha j hj
  have hh := h j hj
  unfold nodeB at hh
  unfold nodeI
  rw [Nat.zero_add] at hh ⊢
  rw [idsB_split, idsB_split, hc] at hh
  simp only [Bool.and_eq_true] at hh ⊢
  obtain ⟨⟨⟨⟨⟨⟨⟨a, b⟩, e6⟩, c⟩, d⟩, e1, e3⟩, e2, e4⟩, e5⟩ := hh
  exact ⟨⟨⟨⟨⟨a, b⟩, c⟩, d⟩, ⟨⟨⟨e1, e2⟩, e3⟩, e4⟩, e5⟩, e6⟩
theorem valid_eq (e g n t : Int) (xs : List Se) (ns : List No) : validI e g n t xs ns = validB e g n t xs ns := by unfold validI validB; rw [nodes_eq]
end Go.Proofs.YtbgbocdohadhoaaDoor.Print
namespace Go.Proofs.YtbgbocdohadhoaaDoor.Print
open Go.RowKit Go.Proofs.YtbgbocdohadhoaaDoorW.PrintWords Go.Proofs.YtbgbocdohadhoaaDoorW.PrintLast Go.Proofs.YtbgbocdohadhoaaDoorW.PrintMore
set_option linter.unusedVariables false
set_option linter.unusedSimpArgs false
def spec_l3nameByte.f (a0 : Int) : Option (Bool) := if a0 ≥ 97 then (if a0 ≤ 122 then (some true) else (if a0 ≥ 48 then (if a0 ≤ 57 then (some true) else (if a0 = 45 then (some true) else (some (a0 == 95)))) else (if a0 = 45 then (some true) else (some (a0 == 95))))) else (if a0 ≥ 48 then (if a0 ≤ 57 then (some true) else (if a0 = 45 then (some true) else (some (a0 == 95)))) else (if a0 = 45 then (some true) else (some (a0 == 95))))
set_option maxHeartbeats 8000000 in
set_option maxRecDepth 100000 in
theorem spec_l3nameByte.calls (a0 : Int) (r : Bool) (w : World) (h : spec_l3nameByte.f a0 = some r) :
  Calls Tryd.prog 86 #[.int .u8 a0] w fun e w' => e = .returned (.bool r) ∧ Drawn0 w w' := by
 have H : (if a0 ≥ 97 then (if a0 ≤ 122 then (some true) else (if a0 ≥ 48 then (if a0 ≤ 57 then (some true) else (if a0 = 45 then (some true) else (some (a0 == 95)))) else (if a0 = 45 then (some true) else (some (a0 == 95))))) else (if a0 ≥ 48 then (if a0 ≤ 57 then (some true) else (if a0 = 45 then (some true) else (some (a0 == 95)))) else (if a0 = 45 then (some true) else (some (a0 == 95))))) = some r := h
 clear h
 by_cases c2 : a0 ≥ 97
 ·
  rw [if_pos c2] at H
  have c2b0 : decide (97 ≤ a0) = true := decide_eq_true c2
  clear c2
  by_cases c3 : a0 ≤ 122
  ·
   rw [if_pos c3] at H
   have c3b0 : decide (a0 ≤ 122) = true := decide_eq_true c3
   clear c3
   obtain rfl := Option.some.inj H
   go_enter Tryd.func86, Tryd.ntmps86
   go_wp2
   go_ret
   exact ⟨by first | rfl | (simp; done) | (simp [*]; done), by repeat (first | exact Drawn0.refl _ | apply Drawn0.step)⟩
  ·
   rw [if_neg c3] at H
   have c3b0 : decide (a0 ≤ 122) = false := decide_eq_false c3
   clear c3
   by_cases c4 : a0 ≥ 48
   ·
    rw [if_pos c4] at H
    have c4b0 : decide (48 ≤ a0) = true := decide_eq_true c4
    clear c4
    by_cases c5 : a0 ≤ 57
    ·
     rw [if_pos c5] at H
     have c5b0 : decide (a0 ≤ 57) = true := decide_eq_true c5
     clear c5
     obtain rfl := Option.some.inj H
     go_enter Tryd.func86, Tryd.ntmps86
     go_wp2
     go_ret
     exact ⟨by first | rfl | (simp; done) | (simp [*]; done), by repeat (first | exact Drawn0.refl _ | apply Drawn0.step)⟩
    ·
     rw [if_neg c5] at H
     have c5b0 : decide (a0 ≤ 57) = false := decide_eq_false c5
     clear c5
     by_cases c6 : a0 = 45
     ·
      rw [if_pos c6] at H
      have c6b0 : (a0 == 45) = true := beq_iff_eq.mpr c6
      have c6b1 : (a0 != 45) = false := bne_eq_false_iff_eq.mpr c6
      clear c6
      obtain rfl := Option.some.inj H
      go_enter Tryd.func86, Tryd.ntmps86
      go_wp2
      go_ret
      exact ⟨by first | rfl | (simp; done) | (simp [*]; done), by repeat (first | exact Drawn0.refl _ | apply Drawn0.step)⟩
     ·
      rw [if_neg c6] at H
      have c6b0 : (a0 == 45) = false := beq_eq_false_iff_ne.mpr c6
      have c6b1 : (a0 != 45) = true := bne_iff_ne.mpr c6
      obtain rfl := Option.some.inj H
      go_enter Tryd.func86, Tryd.ntmps86
      go_wp2
      go_ret
      exact ⟨by first | rfl | (simp; done) | (simp [*]; done), by repeat (first | exact Drawn0.refl _ | apply Drawn0.step)⟩
   ·
    rw [if_neg c4] at H
    have c4b0 : decide (48 ≤ a0) = false := decide_eq_false c4
    clear c4
    by_cases c7 : a0 = 45
    ·
     rw [if_pos c7] at H
     have c7b0 : (a0 == 45) = true := beq_iff_eq.mpr c7
     have c7b1 : (a0 != 45) = false := bne_eq_false_iff_eq.mpr c7
     clear c7
     obtain rfl := Option.some.inj H
     go_enter Tryd.func86, Tryd.ntmps86
     go_wp2
     go_ret
     exact ⟨by first | rfl | (simp; done) | (simp [*]; done), by repeat (first | exact Drawn0.refl _ | apply Drawn0.step)⟩
    ·
     rw [if_neg c7] at H
     have c7b0 : (a0 == 45) = false := beq_eq_false_iff_ne.mpr c7
     have c7b1 : (a0 != 45) = true := bne_iff_ne.mpr c7
     obtain rfl := Option.some.inj H
     go_enter Tryd.func86, Tryd.ntmps86
     go_wp2
     go_ret
     exact ⟨by first | rfl | (simp; done) | (simp [*]; done), by repeat (first | exact Drawn0.refl _ | apply Drawn0.step)⟩
 ·
  rw [if_neg c2] at H
  have c2b0 : decide (97 ≤ a0) = false := decide_eq_false c2
  clear c2
  by_cases c8 : a0 ≥ 48
  ·
   rw [if_pos c8] at H
   have c8b0 : decide (48 ≤ a0) = true := decide_eq_true c8
   clear c8
   by_cases c9 : a0 ≤ 57
   ·
    rw [if_pos c9] at H
    have c9b0 : decide (a0 ≤ 57) = true := decide_eq_true c9
    clear c9
    obtain rfl := Option.some.inj H
    go_enter Tryd.func86, Tryd.ntmps86
    go_wp2
    go_ret
    exact ⟨by first | rfl | (simp; done) | (simp [*]; done), by repeat (first | exact Drawn0.refl _ | apply Drawn0.step)⟩
   ·
    rw [if_neg c9] at H
    have c9b0 : decide (a0 ≤ 57) = false := decide_eq_false c9
    clear c9
    by_cases c10 : a0 = 45
    ·
     rw [if_pos c10] at H
     have c10b0 : (a0 == 45) = true := beq_iff_eq.mpr c10
     have c10b1 : (a0 != 45) = false := bne_eq_false_iff_eq.mpr c10
     clear c10
     obtain rfl := Option.some.inj H
     go_enter Tryd.func86, Tryd.ntmps86
     go_wp2
     go_ret
     exact ⟨by first | rfl | (simp; done) | (simp [*]; done), by repeat (first | exact Drawn0.refl _ | apply Drawn0.step)⟩
    ·
     rw [if_neg c10] at H
     have c10b0 : (a0 == 45) = false := beq_eq_false_iff_ne.mpr c10
     have c10b1 : (a0 != 45) = true := bne_iff_ne.mpr c10
     obtain rfl := Option.some.inj H
     go_enter Tryd.func86, Tryd.ntmps86
     go_wp2
     go_ret
     exact ⟨by first | rfl | (simp; done) | (simp [*]; done), by repeat (first | exact Drawn0.refl _ | apply Drawn0.step)⟩
  ·
   rw [if_neg c8] at H
   have c8b0 : decide (48 ≤ a0) = false := decide_eq_false c8
   clear c8
   by_cases c11 : a0 = 45
   ·
    rw [if_pos c11] at H
    have c11b0 : (a0 == 45) = true := beq_iff_eq.mpr c11
    have c11b1 : (a0 != 45) = false := bne_eq_false_iff_eq.mpr c11
    clear c11
    obtain rfl := Option.some.inj H
    go_enter Tryd.func86, Tryd.ntmps86
    go_wp2
    go_ret
    exact ⟨by first | rfl | (simp; done) | (simp [*]; done), by repeat (first | exact Drawn0.refl _ | apply Drawn0.step)⟩
   ·
    rw [if_neg c11] at H
    have c11b0 : (a0 == 45) = false := beq_eq_false_iff_ne.mpr c11
    have c11b1 : (a0 != 45) = true := bne_iff_ne.mpr c11
    obtain rfl := Option.some.inj H
    go_enter Tryd.func86, Tryd.ntmps86
    go_wp2
    go_ret
    exact ⟨by first | rfl | (simp; done) | (simp [*]; done), by repeat (first | exact Drawn0.refl _ | apply Drawn0.step)⟩
end Go.Proofs.YtbgbocdohadhoaaDoor.Print
