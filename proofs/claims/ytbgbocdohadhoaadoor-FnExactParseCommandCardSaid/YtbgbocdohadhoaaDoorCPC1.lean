/- Texts of this session, joined by its own program. -/
import Derived.Deep.LoopGhost
import Derived.Shelf.Strings.Prefix
import Derived.Shelf.Strings.SplitCore
import Derived.Shelf.Strings.Count
import Derived.Shelf.SlicesE.DeleteFunc
import Derived.Lib.IndexBytes
import Derived.Test.YtbgbocdohadhoaaDoorCPC0
namespace Go.Proofs.YtbgbocdohadhoaaDoor.Print
open Go Go.RowKit Go.Proofs.YtbgbocdohadhoaaDoorW.PrintWords Go.Proofs.YtbgbocdohadhoaaDoorW.PrintLast Go.Proofs.YtbgbocdohadhoaaDoorW.PrintMore
set_option linter.unusedVariables false
set_option linter.unusedSimpArgs false
section
open Go.Shelf
def ltr (q : Int) : Prop := q = 115 ∨ q = 101 ∨ q = 103 ∨ q = 112 ∨ q = 118 ∨ q = 102 ∨ q = 109
theorem ofr_facts (w0 : List Int) : ∃ k sh b, ofrF w0 = (if b = true then some (k, sh) else none) ∧ (b = false → k = 0 ∧ sh = []) ∧ (Lib.trimSuffix (Lib.bytesOf sh) [118]).length = needF sh ∧ (∀ q ∈ sh, ltr q) ∧ sh.length ≤ 4 ∧ (sh.count 102 + sh.count 109 ≤ 1) := by
 unfold ofrF
 cases h : frmT.find? (fun x => x.1 == w0) with
 | none => exact ⟨0, [], false, rfl, fun _ => ⟨rfl, rfl⟩, by decide, by simp, by decide, by decide⟩
 | some x =>
  have hm := List.mem_of_find?_eq_some h
  refine ⟨x.2.1, x.2.2, true, rfl, by simp, ?_⟩
  clear h
  simp only [frmT, List.mem_cons, List.mem_nil_iff, or_false] at hm
  unfold ltr
  rcases hm with rfl | rfl | rfl | rfl | rfl | rfl | rfl | rfl | rfl | rfl | rfl | rfl | rfl <;> exact ⟨by decide, by decide, by decide, by decide⟩
def SRow (w : World) (ad : Addr) (ws : List (List Int)) : Prop := ∀ j, j < ws.length → w.cell? (ad.add j) = some (.string (strOfNums (ws.getD j [])))
theorem SRow.below {w w' : World} {ad : Addr} {ws : List (List Int)} (h : SRow w ad ws) (hb : Below w.heap.size w w') : SRow w' ad ws :=
 fun j hj => (hb.cell (World.block_lt_of_cell? w _ (h j hj))).trans (h j hj)
theorem MB.other {w0 W : World} {lo hi : Nat} {A : Option Addr} {c : Nat} {l : List Int} (h : MB w0 W lo hi A c l) {g : Nat} {t : TypeId} {cs : Array Value} (hg : W.heap[g]? = some (.cells cs t (0, 0))) (ht : t ≠ 5) (j : Nat) (v : Value) : MB w0 (W.setCell ⟨g, j, none⟩ v) lo hi A c l :=
 ⟨h.k, h.b, fun hp => by
  obtain ⟨g', o, cur, m, e, h1, h2, h3, h4, h5⟩ := h.r hp
  refine ⟨g', o, cur, m, e, h1, h2, (Below.heap_setCell W _ _ g' (fun q => ?_)).trans h3, h4, h5⟩
  rw [q] at h3
  rw [hg] at h3
  injection h3 with h3
  injection h3 with _ h3
  exact ht h3⟩
structure OPM (w0 W : World) (lo hi : Nat) (A2 : Option Addr) (c2 : Nat) (l2 : List Int) (A4 : Option Addr) (c4 : Nat) (l4 : List Int) : Prop where
 p : MB w0 W lo hi A2 c2 l2
 v : MB w0 W lo hi A4 c4 l4
 d : ∀ a b : Addr, A2 = some a → A4 = some b → a.block ≠ b.block
 h2 : ∀ a : Addr, A2 = some a → a.block < hi
 h4 : ∀ a : Addr, A4 = some a → a.block < hi
theorem OPM.below {w0 W W' : World} {lo hi : Nat} {A2 A4 : Option Addr} {c2 c4 : Nat} {l2 l4 : List Int} (h : OPM w0 W lo hi A2 c2 l2 A4 c4 l4) (hb : Below W.heap.size W W') : OPM w0 W' lo hi A2 c2 l2 A4 c4 l4 := ⟨h.p.below hb, h.v.below hb, h.d, h.h2, h.h4⟩
theorem OPM.kept {w0 W W' : World} {lo hi : Nat} {A2 A4 : Option Addr} {c2 c4 : Nat} {l2 l4 : List Int} {S : Nat → Prop} (h : OPM w0 W lo hi A2 c2 l2 A4 c4 l4) (hk : Kept W W' S) (hS : ∀ k, lo ≤ k → k < hi → ¬ S k) : OPM w0 W' lo hi A2 c2 l2 A4 c4 l4 := ⟨h.p.kept hk hS, h.v.kept hk hS, h.d, h.h2, h.h4⟩
theorem OPM.other {w0 W : World} {lo hi : Nat} {A2 A4 : Option Addr} {c2 c4 : Nat} {l2 l4 : List Int} (h : OPM w0 W lo hi A2 c2 l2 A4 c4 l4) {g : Nat} {t : TypeId} {cs : Array Value} (hg : W.heap[g]? = some (.cells cs t (0, 0))) (ht : t ≠ 5) (j : Nat) (v : Value) : OPM w0 (W.setCell ⟨g, j, none⟩ v) lo hi A2 c2 l2 A4 c4 l4 :=
 ⟨h.p.other hg ht j v, h.v.other hg ht j v, h.d, h.h2, h.h4⟩
theorem OPM.wide {w0 W : World} {lo lo' hi hi' : Nat} {A2 A4 : Option Addr} {c2 c4 : Nat} {l2 l4 : List Int} (h : OPM w0 W lo hi A2 c2 l2 A4 c4 l4) (h1 : lo' ≤ lo) (h2 : hi ≤ hi') (hb : w0.heap.size ≤ lo') : OPM w0 W lo' hi' A2 c2 l2 A4 c4 l4 :=
 ⟨h.p.wide h1 h2 hb, h.v.wide h1 h2 hb, h.d, fun a e => Nat.lt_of_lt_of_le (h.h2 a e) h2, fun a e => Nat.lt_of_lt_of_le (h.h4 a e) h2⟩
theorem OPM.nil {w0 W : World} {lo hi : Nat} (h : w0.heap.size ≤ lo) : OPM w0 W lo hi none 0 [] none 0 [] := ⟨MB.nil h, MB.nil h, (fun a b e => by cases e), (fun a e => by cases e), (fun a e => by cases e)⟩
theorem OPM.base {w0 w1 W : World} {lo hi : Nat} {A2 A4 : Option Addr} {c2 c4 : Nat} {l2 l4 : List Int} (h : OPM w0 W lo hi A2 c2 l2 A4 c4 l4) (hb : w1.heap.size ≤ lo) : OPM w1 W lo hi A2 c2 l2 A4 c4 l4 :=
 ⟨⟨h.p.k, hb, h.p.r⟩, ⟨h.v.k, hb, h.v.r⟩, h.d, h.h2, h.h4⟩
theorem OPM.path {w0 W : World} {lo : Nat} {A2 A4 : Option Addr} {c2 c4 : Nat} {l2 l4 : List Int} (h : OPM w0 W lo W.heap.size A2 c2 l2 A4 c4 l4) (q : List Int) (hq : ∀ x ∈ q, 0 ≤ x ∧ x < 256) (hlo : w0.heap.size ≤ lo ∧ lo ≤ W.heap.size) : OPM w0 (Lib.bytesWorld W 5 (strOfNums q)) lo (Lib.bytesWorld W 5 (strOfNums q)).heap.size (some ⟨W.heap.size, 0, none⟩) (grownCap W q.length 0 5) q A4 c4 l4 := by
 have hs := Lib.bytesWorld_size W 5 (strOfNums q)
 have hb := bytes_below (Below.refl W.heap.size W) (Nat.le_refl _) 5 (strOfNums q)
 refine ⟨(MB.conv w0 W q hq (by omega)).wide hlo.2 (Nat.le_refl _) hlo.1, (h.v.below hb).wide (Nat.le_refl _) (by omega) hlo.1, fun a b e1 e2 => ?_, fun a e => ?_, fun a e => ?_⟩
 ·
  cases e1
  have := h.h4 b e2
  intro e
  rw [← e] at this
  exact absurd this (Nat.lt_irrefl _)
 ·
  cases e
  rw [hs]
  exact Nat.lt_succ_self _
 have := h.h4 a e
 omega
theorem OPM.val {w0 W : World} {lo : Nat} {A2 A4 : Option Addr} {c2 c4 : Nat} {l2 l4 : List Int} (h : OPM w0 W lo W.heap.size A2 c2 l2 A4 c4 l4) (q : List Int) (hq : ∀ x ∈ q, 0 ≤ x ∧ x < 256) (hlo : w0.heap.size ≤ lo ∧ lo ≤ W.heap.size) : OPM w0 (Lib.bytesWorld W 5 (strOfNums q)) lo (Lib.bytesWorld W 5 (strOfNums q)).heap.size A2 c2 l2 (some ⟨W.heap.size, 0, none⟩) (grownCap W q.length 0 5) q := by
 have hs := Lib.bytesWorld_size W 5 (strOfNums q)
 have hb := bytes_below (Below.refl W.heap.size W) (Nat.le_refl _) 5 (strOfNums q)
 refine ⟨(h.p.below hb).wide (Nat.le_refl _) (by omega) hlo.1, (MB.conv w0 W q hq (by omega)).wide hlo.2 (Nat.le_refl _) hlo.1, fun a b e1 e2 => ?_, fun a e => ?_, fun a e => ?_⟩
 ·
  cases e2
  have := h.h2 a e1
  intro e
  rw [e] at this
  exact absurd this (Nat.lt_irrefl _)
 ·
  have := h.h2 a e
  omega
 cases e
 rw [hs]
 exact Nat.lt_succ_self _
theorem tsuf_calls (s : ByteArray) (w : World) (hs : s.size ≤ 2097152) :
  Calls Tryd.prog 117 #[.string s, .string ⟨#[118]⟩] w fun e w' => e = .returned (.string ⟨(Lib.trimSuffix s.data.toList [118]).toArray⟩) ∧ w' = w :=
 Any.strings_TrimSuffix Tryd.laysTSuf s ⟨#[118]⟩ w (by omega)
theorem bt_str (sh : List Int) (i : Nat) (hi : i < sh.length) (hb : 0 ≤ sh[i] ∧ sh[i] < 256) : bt (strOfNums sh) (i : Int) = sh[i] := by
 rw [← rd_bytesOf]
 unfold rd bytesOf
 rw [Int.toNat_natCast, strData]
 unfold Lib.bytesOf
 rw [List.map_map, List.getD_eq_getElem?_getD, List.getElem?_map, List.getElem?_eq_getElem hi]
 simp only [Option.map_some, Option.getD_some, Function.comp_apply, UInt8.toNat_ofNat']
 omega
theorem ofl_num (c : Cmd) (x : List Int) : ofl c 115 x = (if cntB x 4611686018427387904 = true then some { c with s := tkV x } else none) ∧ ofl c 101 x = (if cntB x 4611686018427387904 = true then some { c with e := tkV x } else none) ∧ ofl c 103 x = (if cntB x 4611686018427387904 = true then some { c with g := tkV x } else none) := by
 unfold ofl
 cases h : cntB x 4611686018427387904 with
 | true => simp [tkV_of h]
 | false => simp
theorem ofl_flag (c : Cmd) (x : List Int) (v : Int) (hv : v = 0 ∨ v = 1 ∨ v = -1) (h1 : x.length = 1 → v = at2 112 101 x) : ofl c 102 x = (if (decide (x.length = 1) && decide (0 ≤ v)) = true then some { c with f := v } else none) := by
 unfold ofl
 simp only [show ¬ ((102 : Int) = 115) by decide, show ¬ ((102 : Int) = 101) by decide, show ¬ ((102 : Int) = 103) by decide, show ¬ ((102 : Int) = 112) by decide, show ¬ ((102 : Int) = 118) by decide, if_false, if_true]
 by_cases hl : x.length = 1
 ·
  rw [h1 hl, decide_eq_true hl]
  unfold at2
  by_cases e1 : x = [112]
  ·
   simp [e1]
  rw [if_neg e1, if_neg e1]
  by_cases e2 : x = [101]
  ·
   simp [e2]
  simp [e2]
 rw [decide_eq_false hl, if_neg (fun e => hl (by rw [e]; rfl)), if_neg (fun e => hl (by rw [e]; rfl))]
 simp
theorem ofl_mode (c : Cmd) (x : List Int) (v : Int) (hv : v = 0 ∨ v = 1 ∨ v = -1) (h1 : x.length = 1 → v = at2 120 115 x) : ofl c 109 x = (if (decide (x.length = 1) && decide (1 ≤ v + 1)) = true then some { c with f := v + 1 } else none) := by
 unfold ofl
 simp only [show ¬ ((109 : Int) = 115) by decide, show ¬ ((109 : Int) = 101) by decide, show ¬ ((109 : Int) = 103) by decide, show ¬ ((109 : Int) = 112) by decide, show ¬ ((109 : Int) = 118) by decide, show ¬ ((109 : Int) = 102) by decide, if_false, if_true]
 by_cases hl : x.length = 1
 ·
  rw [h1 hl, decide_eq_true hl]
  unfold at2
  by_cases e1 : x = [120]
  ·
   simp [e1]
  rw [if_neg e1, if_neg e1]
  by_cases e2 : x = [115]
  ·
   simp [e2]
  simp [e2]
 rw [decide_eq_false hl, if_neg (fun e => hl (by rw [e]; rfl)), if_neg (fun e => hl (by rw [e]; rfl))]
 simp
theorem conv_run (x : List Int) (W : World) : (convert 9 22 (.string (strOfNums x))).run Tryd.prog W = .ok (.slice (some ⟨W.heap.size, 0, none⟩) x.length (grownCap W x.length 0 5)) (Lib.bytesWorld W 5 (strOfNums x)) := by
 have h := print_bytes (P := Tryd.prog) 9 22 5 Tryd.underlying9 Tryd.underlying22 Tryd.underlying5 (strOfNums x) W
 rw [strOfNums_size] at h
 exact h
theorem zero_form (w : World) : (zeroValue 153).run Tryd.prog w = .ok (.agg #[.int .i64 0, .string ByteArray.empty]) w := by kernel_rfl
theorem cells7 {w : World} {g t : Nat} {v0 v1 v2 v3 v4 v5 v6 : Value} (h : w.heap[g]? = some (.cells #[v0, v1, v2, v3, v4, v5, v6] t (0, 0))) : w.cell? ⟨g, 0, none⟩ = some v0 ∧ w.cell? ⟨g, 1, none⟩ = some v1 ∧ w.cell? ⟨g, 2, none⟩ = some v2 ∧ w.cell? ⟨g, 3, none⟩ = some v3 ∧ w.cell? ⟨g, 4, none⟩ = some v4 ∧ w.cell? ⟨g, 5, none⟩ = some v5 ∧ w.cell? ⟨g, 6, none⟩ = some v6 :=
 ⟨(blk_cell h 0).trans rfl, (blk_cell h 1).trans rfl, (blk_cell h 2).trans rfl, (blk_cell h 3).trans rfl, (blk_cell h 4).trans rfl, (blk_cell h 5).trans rfl, (blk_cell h 6).trans rfl⟩
theorem forms_look {w0 W : World} {b : Nat} (h : KM w0 W b formsL) (q : List Int) (hq : ∀ x ∈ q, 0 ≤ x ∧ x < 256) (k : Int) (sh : List Int) (ob : Bool) (ho : ofrF q = (if ob = true then some (k, sh) else none)) (hz : ob = false → k = 0 ∧ sh = []) :
  (Instr.lookup 155 (.map (some b)) (.string (strOfNums q)) true).run Tryd.prog W = .ok (.tuple #[.agg #[.int .i64 k, .string (strOfNums sh)], .bool ob]) W := by
 obtain ⟨es, c, h1, h2⟩ := h.m
 obtain ⟨f1, f2⟩ := forms_find q
 rw [run_lookupS Tryd.underlying155 Tryd.underlying9 h1 h2 h.k q hq _ (zero_form W), f1, f2, ho]
 cases ob with
 | true => rfl
 | false =>
  obtain ⟨rfl, rfl⟩ := hz rfl
  rfl
theorem blk_set7 {W : World} {g : Nat} {t : TypeId} {a0 a1 a2 a3 a4 a5 a6 v0 v1 v2 v3 v4 v5 v6 : Value} (h : W.heap[g]? = some (.cells #[a0, a1, a2, a3, a4, a5, a6] t (0, 0))) : (((((((W.setCell ⟨g, 0, none⟩ v0).setCell ⟨g, 1, none⟩ v1).setCell ⟨g, 2, none⟩ v2).setCell ⟨g, 3, none⟩ v3).setCell ⟨g, 4, none⟩ v4).setCell ⟨g, 5, none⟩ v5).setCell ⟨g, 6, none⟩ v6).heap[g]? = some (.cells #[v0, v1, v2, v3, v4, v5, v6] t (0, 0)) :=
 by
 have b0 := blk_put (cs' := #[v0, a1, a2, a3, a4, a5, a6]) h 0 v0 rfl
 have b1 := blk_put (cs' := #[v0, v1, a2, a3, a4, a5, a6]) b0 1 v1 rfl
 have b2 := blk_put (cs' := #[v0, v1, v2, a3, a4, a5, a6]) b1 2 v2 rfl
 have b3 := blk_put (cs' := #[v0, v1, v2, v3, a4, a5, a6]) b2 3 v3 rfl
 have b4 := blk_put (cs' := #[v0, v1, v2, v3, v4, a5, a6]) b3 4 v4 rfl
 have b5 := blk_put (cs' := #[v0, v1, v2, v3, v4, v5, a6]) b4 5 v5 rfl
 exact blk_put b5 6 v6 rfl
theorem below_set7 {g : Nat} {w W : World} {v0 v1 v2 v3 v4 v5 v6 : Value} (h : Below w.heap.size w W) (hg : w.heap.size ≤ g) : Below w.heap.size w (((((((W.setCell ⟨g, 0, none⟩ v0).setCell ⟨g, 1, none⟩ v1).setCell ⟨g, 2, none⟩ v2).setCell ⟨g, 3, none⟩ v3).setCell ⟨g, 4, none⟩ v4).setCell ⟨g, 5, none⟩ v5).setCell ⟨g, 6, none⟩ v6) :=
 below_set (below_set (below_set (below_set (below_set (below_set (below_set h hg) hg) hg) hg) hg) hg) hg
theorem size_set7 {W : World} {g : Nat} {v0 v1 v2 v3 v4 v5 v6 : Value} : (((((((W.setCell ⟨g, 0, none⟩ v0).setCell ⟨g, 1, none⟩ v1).setCell ⟨g, 2, none⟩ v2).setCell ⟨g, 3, none⟩ v3).setCell ⟨g, 4, none⟩ v4).setCell ⟨g, 5, none⟩ v5).setCell ⟨g, 6, none⟩ v6).heap.size = W.heap.size := by simp [World.setCell]
theorem OPM.set7 {w0 W : World} {lo hi : Nat} {A2 A4 : Option Addr} {c2 c4 : Nat} {l2 l4 : List Int} (h : OPM w0 W lo hi A2 c2 l2 A4 c4 l4) {g : Nat} {t : TypeId} {a0 a1 a2 a3 a4 a5 a6 v0 v1 v2 v3 v4 v5 v6 : Value} (hg : W.heap[g]? = some (.cells #[a0, a1, a2, a3, a4, a5, a6] t (0, 0))) (ht : t ≠ 5) : OPM w0 (((((((W.setCell ⟨g, 0, none⟩ v0).setCell ⟨g, 1, none⟩ v1).setCell ⟨g, 2, none⟩ v2).setCell ⟨g, 3, none⟩ v3).setCell ⟨g, 4, none⟩ v4).setCell ⟨g, 5, none⟩ v5).setCell ⟨g, 6, none⟩ v6) lo hi A2 c2 l2 A4 c4 l4 := by
 have b0 := blk_put (cs' := #[v0, a1, a2, a3, a4, a5, a6]) hg 0 v0 rfl
 have b1 := blk_put (cs' := #[v0, v1, a2, a3, a4, a5, a6]) b0 1 v1 rfl
 have b2 := blk_put (cs' := #[v0, v1, v2, a3, a4, a5, a6]) b1 2 v2 rfl
 have b3 := blk_put (cs' := #[v0, v1, v2, v3, a4, a5, a6]) b2 3 v3 rfl
 have b4 := blk_put (cs' := #[v0, v1, v2, v3, v4, a5, a6]) b3 4 v4 rfl
 have b5 := blk_put (cs' := #[v0, v1, v2, v3, v4, v5, a6]) b4 5 v5 rfl
 have o0 := h.other hg ht 0 v0
 have o1 := o0.other b0 ht 1 v1
 have o2 := o1.other b1 ht 2 v2
 have o3 := o2.other b2 ht 3 v3
 have o4 := o3.other b3 ht 4 v4
 have o5 := o4.other b4 ht 5 v5
 exact o5.other b5 ht 6 v6
theorem opOf_no {w W : World} {w0 : List Int} {r : List (List Int)} (hb : Below w.heap.size w W) (ho : opF w0 r = none) : ∃ (b : Bool) (c : Cmd) (A2 : Option Addr) (d2 : Nat) (A4 : Option Addr) (d4 : Nat), Ending.returned (.tuple #[.agg #[.int .i64 0, .int .u64 0, .slice none 0 0, .int .i64 0, .slice none 0 0, .int .u64 0, .int .u64 0], .bool false]) = .returned (.tuple #[.agg #[.int .i64 c.ok, .int .u64 c.s, .slice A2 c.p.length d2, .int .i64 c.f, .slice A4 c.v.length d4, .int .u64 c.e, .int .u64 c.g], .bool b]) ∧ opF w0 r = (if b = true then some c else none) ∧ (c.kd = 0 ∧ c.n = 0 ∧ c.m = 0) ∧ OPM w (((((((W.setCell ⟨w.heap.size, 0, none⟩ (.int .i64 0)).setCell ⟨w.heap.size, 1, none⟩ (.int .u64 0)).setCell ⟨w.heap.size, 2, none⟩ (.slice none 0 0)).setCell ⟨w.heap.size, 3, none⟩ (.int .i64 0)).setCell ⟨w.heap.size, 4, none⟩ (.slice none 0 0)).setCell ⟨w.heap.size, 5, none⟩ (.int .u64 0)).setCell ⟨w.heap.size, 6, none⟩ (.int .u64 0)) w.heap.size (((((((W.setCell ⟨w.heap.size, 0, none⟩ (.int .i64 0)).setCell ⟨w.heap.size, 1, none⟩ (.int .u64 0)).setCell ⟨w.heap.size, 2, none⟩ (.slice none 0 0)).setCell ⟨w.heap.size, 3, none⟩ (.int .i64 0)).setCell ⟨w.heap.size, 4, none⟩ (.slice none 0 0)).setCell ⟨w.heap.size, 5, none⟩ (.int .u64 0)).setCell ⟨w.heap.size, 6, none⟩ (.int .u64 0)).heap.size A2 d2 c.p A4 d4 c.v ∧ Below w.heap.size w (((((((W.setCell ⟨w.heap.size, 0, none⟩ (.int .i64 0)).setCell ⟨w.heap.size, 1, none⟩ (.int .u64 0)).setCell ⟨w.heap.size, 2, none⟩ (.slice none 0 0)).setCell ⟨w.heap.size, 3, none⟩ (.int .i64 0)).setCell ⟨w.heap.size, 4, none⟩ (.slice none 0 0)).setCell ⟨w.heap.size, 5, none⟩ (.int .u64 0)).setCell ⟨w.heap.size, 6, none⟩ (.int .u64 0)) :=
 ⟨false, zCmd, none, 0, none, 0, rfl, ho, ⟨rfl, rfl, rfl⟩, OPM.nil (Nat.le_refl _), below_set7 hb (Nat.le_refl _)⟩
set_option maxHeartbeats 4000000 in
set_option maxRecDepth 100000 in
theorem opOf_calls (ad : Addr) (cap : Nat) (w0 : List Int) (r : List (List Int)) (w : World) (hR : SRow w ad (w0 :: r)) (hc : r.length + 1 ≤ cap) (hl : r.length ≤ 2097152) (hq : ∀ ws ∈ w0 :: r, (∀ x ∈ ws, 0 ≤ x ∧ x < 256) ∧ ws.length ≤ 2097152 ∧ 1 ≤ ws.length) :
  Calls Tryd.prog 82 #[.slice (some ad) (r.length + 1) cap] w fun e w' => ∃ (b : Bool) (c : Cmd) (A2 : Option Addr) (d2 : Nat) (A4 : Option Addr) (d4 : Nat), e = .returned (.tuple #[.agg #[.int .i64 c.ok, .int .u64 c.s, .slice A2 c.p.length d2, .int .i64 c.f, .slice A4 c.v.length d4, .int .u64 c.e, .int .u64 c.g], .bool b]) ∧ opF w0 r = (if b = true then some c else none) ∧ (c.kd = 0 ∧ c.n = 0 ∧ c.m = 0) ∧ OPM w w' w.heap.size w'.heap.size A2 d2 c.p A4 d4 c.v ∧ Below w.heap.size w w' := by
 obtain ⟨k, sh, ob, ho, hz, htl, hlt, hs4, hcn⟩ := ofr_facts w0
 have hO : opF w0 r = (if ob = true then (if r.length < needF sh ∨ sh.length < r.length then none else oflA ⟨0, k, 0, [], 0, [], 0, 0, 0, 0⟩ sh r) else none) := by
  unfold opF
  rw [ho]
  cases ob <;> rfl
 have HO := Aside0.mk hO
 have HS := Aside0.mk hR
 have HQ := Aside0.mk hq
 have HL := Aside0.mk (And.intro hlt (And.intro hs4 hcn))
 have h00 : w.cell? ad = some (.string (strOfNums w0)) := by
  have := hR 0 (by simp)
  simpa [Addr.add] using this
 have HLK := Aside0.mk (fun (W0 W : World) (b : Nat) (h : KM W0 W b formsL) => forms_look h w0 (hq w0 (by simp)).1 k sh ob ho hz)
 have HT := Aside0.mk htl
 have HBW := Aside0.mk (Below.refl w.heap.size w)
 clear ho hz htl hlt hs4 hO hR hq hcn
 go_enter Tryd.func82, Tryd.ntmps82
 go_upto_region 1 with (fail)
 have BZ := Aside0.mk (blk_new w (.cells #[.int .i64 0, .int .u64 0, .slice none 0 0, .int .i64 0, .slice none 0 0, .int .u64 0, .int .u64 0] 50))
 have HB := Aside0.mk (below_alloc (Below.refl w.heap.size w) (.cells #[.int .i64 0, .int .u64 0, .slice none 0 0, .int .i64 0, .slice none 0 0, .int .u64 0, .int .u64 0] 50))
 have h01 := ((below_alloc (Below.refl w.heap.size w) (.cells #[.int .i64 0, .int .u64 0, .slice none 0 0, .int .i64 0, .slice none 0 0, .int .u64 0, .int .u64 0] 50)).cell (World.block_lt_of_cell? w _ h00)).trans h00
 generalize w.alloc (.cells #[.int .i64 0, .int .u64 0, .slice none 0 0, .int .i64 0, .slice none 0 0, .int .u64 0, .int .u64 0] 50) = W1 at *
 go_cut [4, 5] from 10 to 17 (fun v4 v5 wx => ∃ (g : Nat), v4 = .pointer (some ⟨g, 0, none⟩) ∧ v5 = .bool ob ∧ Aside0 (w.heap.size < g) ∧ Aside0 (wx.heap[g]? = some (.cells #[.int .i64 k, .string (strOfNums sh)] 153 (0, 0))) ∧ Aside0 (Below W1.heap.size W1 wx))
 case first =>
  have HC := Aside0.mk (show ∀ W : World, Below W1.heap.size W1 W → W.cell? ad = some (.string (strOfNums w0)) from fun W hb => (hb.cell (World.block_lt_of_cell? W1 _ h01)).trans h01)
  go_region_held3 (fun w' => w'.cell? ad = some (.string (strOfNums w0))) (exact HC.out _ (by with_reducible repeat (first | exact HW.out | exact Below.refl _ _ | refine below_set ?_ (Nat.le_refl _) | apply below_drew1 | apply below_alloc))) (first | (go_at_call 116; refine (forms_calls _).mono ?_; rintro e wf ⟨b, rfl, hk⟩; have HW := Aside0.mk (show Below W1.heap.size W1 wf from below_step (by repeat (first | exact Below.refl _ _ | apply below_drew1 | apply below_alloc)) hk.be); have hlk := HLK.out _ _ _ hk; have hlk2 := HLK.out _ _ _ (hk.below (below_alloc (Below.refl _ _) (.cells #[.int .i64 0, .string ⟨#[]⟩] 153))); have h02 := HC.out _ HW.out; (first | (have HX := Aside0.mk (blk_below (blk_new _ _) hk.be)) | (have HX := Aside0.mk (blk_below (blk_drew (blk_new _ _)) hk.be)) | skip); (try (have xz0 := blk_cell HX.out 0; have xz1 := blk_cell HX.out 1; simp only [List.getElem?_toArray, List.getElem?_cons_zero, List.getElem?_cons_succ] at xz0 xz1; have xf0 := blk_frozen HX.out 0; have xf1 := blk_frozen HX.out 1)); have HK := Aside0.mk hk; clear hk))
  all_goals
   go_wp2_with fail
   go_meet
   refine ⟨_, rfl, rfl, ⟨?_⟩, ⟨?_⟩, ⟨?_⟩⟩
   ·
    have h1 := blk_lt BZ.out; have h2 := HW.out.size; omega
   ·
    first | exact blk_new _ _ | exact blk_put (cs := #[.int .i64 k, .string ⟨#[]⟩]) (cs' := #[.int .i64 k, .string (strOfNums sh)]) (blk_put (cs := #[.int .i64 0, .string ⟨#[]⟩]) (cs' := #[.int .i64 k, .string ⟨#[]⟩]) HX.out 0 _ rfl) 1 _ rfl
   first | exact below_alloc HW.out _ | exact below_set (below_set HW.out (Nat.le_refl _)) (Nat.le_refl _)
 case rest =>
  obtain ⟨g1, rfl, rfl, HG, BF, HW⟩ := hcut
  have BZ2 := Aside0.mk (blk_below BZ.out HW.out)
  have HB2 := Aside0.mk (below_step HB.out HW.out)
  clear HB BZ HW h01 h00 HLK
  have f0 := (blk_cell BF.out 0).trans rfl
  have f1 := (blk_cell BF.out 1).trans rfl
  go_upto_region 3 with (fail)
  have bo := blk_new wc (.cells #[.int .i64 k, .int .u64 0, .slice none 0 0, .int .i64 0, .slice none 0 0, .int .u64 0, .int .u64 0] 50)
  have hba := below_alloc (Below.refl wc.heap.size wc) (.cells #[.int .i64 k, .int .u64 0, .slice none 0 0, .int .i64 0, .slice none 0 0, .int .u64 0, .int .u64 0] 50)
  have BF3 := Aside0.mk (blk_below BF.out hba)
  have BZ3 := Aside0.mk (blk_below BZ2.out hba)
  have HB3 := Aside0.mk (below_step HB2.out hba)
  have HGL := Aside0.mk (And.intro HG.out (And.intro (blk_lt BF.out) (blk_lt BZ2.out)))
  obtain ⟨g6, hg6⟩ : ∃ g6, wc.heap.size = g6 := ⟨_, rfl⟩
  generalize wc.alloc (.cells #[.int .i64 k, .int .u64 0, .slice none 0 0, .int .i64 0, .slice none 0 0, .int .u64 0, .int .u64 0] 50) = W2 at *
  rw [hg6] at bo HGL ⊢
  have BO := Aside0.mk bo
  clear bo hba BF BZ2 HB2 HG f0 f1 hg6
  go_cut [0] from 21 to 22 (fun v0 wx => ∃ (ad1 : Addr) (c1 : Nat), v0 = .slice (some ad1) r.length c1 ∧ wx = W2 ∧ Aside0 (SRow w ad1 r))
  case first =>
   by_cases hcap : cap = 1
   ·
    subst hcap
    have hr0 : r.length = 0 := by omega
    go_wp2_with fail
    go_meet
    refine ⟨ad, 0, by rw [hr0], rfl, ⟨fun j hj => by omega⟩⟩
   have c1 : (1 : Int) ≤ (cap : Int) := by omega
   go_wp2_with fail
   go_meet
   refine ⟨ad.add 1, cap - 1, by first | rfl | simp, rfl, ⟨fun j hj => ?_⟩⟩
   have := HS.out (j + 1) (by simp; omega)
   rw [show (ad.add 1).add j = ad.add (j + 1) from by unfold Addr.add; by_cases h : j = 0 <;> simp [h]; try omega]
   simpa using this
  case rest =>
   obtain ⟨ad1, c1, rfl, hww, HR⟩ := hcut
   obtain rfl : W2 = wc := hww.symm
   clear HS
   have f1 := (blk_cell BF3.out 1).trans rfl
   have hss : (strOfNums sh).size = sh.length := strOfNums_size sh
   have hts := tsuf_calls (strOfNums sh) W2 (by rw [hss]; have := HL.out.2.1; omega)
   obtain ⟨t, ht⟩ : ∃ t : ByteArray, (⟨(Lib.trimSuffix (strOfNums sh).data.toList [118]).toArray⟩ : ByteArray) = t := ⟨_, rfl⟩
   have hsz : t.size = needF sh := by
    rw [← HT.out, ← ht, strData]
    exact List.size_toArray
   rw [ht] at hts
   obtain ⟨nd, hnd⟩ : ∃ nd, needF sh = nd := ⟨_, rfl⟩
   rw [hnd] at hsz HO
   obtain ⟨fs, hfs⟩ : ∃ fs, strOfNums sh = fs := ⟨_, rfl⟩
   rw [hfs] at f1 hss hts BF3
   have HTS := Aside0.mk hts
   have HSZ := Aside0.mk (And.intro hsz (And.intro hss hfs))
   clear hts hsz hss hfs hnd ht
   go_wp2_with fail
   refine HTS.out.mono ?_
   rintro e w' ⟨rfl, hww⟩
   obtain rfl : W2 = w' := hww.symm
   clear HTS hww
   cases ob with
   | false =>
    obtain ⟨z0, z1, z2, z3, z4, z5, z6⟩ := cells7 BZ3.out
    have y0 := blk_frozen BZ3.out 0
    have y1 := blk_frozen BZ3.out 1
    have y2 := blk_frozen BZ3.out 2
    have y3 := blk_frozen BZ3.out 3
    have y4 := blk_frozen BZ3.out 4
    have y5 := blk_frozen BZ3.out 5
    have y6 := blk_frozen BZ3.out 6
    go_wp2_with fail
    refine bodyPost_ret (results_ct rfl _ _ w.heap.size 50 #[.int .i64 0, .int .u64 0, .slice none 0 0, .int .i64 0, .slice none 0 0, .int .u64 0, .int .u64 0] (0, 0) _ rfl (blk_set7 BZ3.out) Tryd.underlying50 rfl (by kernel_rfl)) rfl ?_
    have ho := HO.out
    rw [if_neg (by decide)] at ho
    exact opOf_no HB3.out ho
   | true =>
    have ho := HO.out
    rw [if_pos rfl] at ho
    obtain ⟨hsz, hss, hfs⟩ := HSZ.out
    by_cases hn1 : r.length < nd
    ·
     have d1 : decide ((r.length : Int) < (t.size : Int)) = true := decide_eq_true (by omega)
     have d2 : decide (r.length < t.size) = true := decide_eq_true (by omega)
     rw [if_pos (Or.inl hn1)] at ho
     replace HO := Aside0.mk ho
     clear ho hsz hss hfs
     obtain ⟨z0, z1, z2, z3, z4, z5, z6⟩ := cells7 BZ3.out
     have y0 := blk_frozen BZ3.out 0
     have y1 := blk_frozen BZ3.out 1
     have y2 := blk_frozen BZ3.out 2
     have y3 := blk_frozen BZ3.out 3
     have y4 := blk_frozen BZ3.out 4
     have y5 := blk_frozen BZ3.out 5
     have y6 := blk_frozen BZ3.out 6
     go_wp2_with fail
     refine bodyPost_ret (results_ct rfl _ _ w.heap.size 50 #[.int .i64 0, .int .u64 0, .slice none 0 0, .int .i64 0, .slice none 0 0, .int .u64 0, .int .u64 0] (0, 0) _ rfl (blk_set7 BZ3.out) Tryd.underlying50 rfl (by kernel_rfl)) rfl ?_
     exact opOf_no HB3.out HO.out
    have d1 : decide ((r.length : Int) < (t.size : Int)) = false := decide_eq_false (by omega)
    have d2 : decide (r.length < t.size) = false := decide_eq_false (by omega)
    by_cases hn2 : sh.length < r.length
    ·
     have d3 : decide ((fs.size : Int) < (r.length : Int)) = true := decide_eq_true (by omega)
     have d4 : decide (fs.size < r.length) = true := decide_eq_true (by omega)
     rw [if_pos (Or.inr hn2)] at ho
     replace HO := Aside0.mk ho
     clear ho hsz hss hfs
     obtain ⟨z0, z1, z2, z3, z4, z5, z6⟩ := cells7 BZ3.out
     have y0 := blk_frozen BZ3.out 0
     have y1 := blk_frozen BZ3.out 1
     have y2 := blk_frozen BZ3.out 2
     have y3 := blk_frozen BZ3.out 3
     have y4 := blk_frozen BZ3.out 4
     have y5 := blk_frozen BZ3.out 5
     have y6 := blk_frozen BZ3.out 6
     go_wp2_with fail
     refine bodyPost_ret (results_ct rfl _ _ w.heap.size 50 #[.int .i64 0, .int .u64 0, .slice none 0 0, .int .i64 0, .slice none 0 0, .int .u64 0, .int .u64 0] (0, 0) _ rfl (blk_set7 BZ3.out) Tryd.underlying50 rfl (by kernel_rfl)) rfl ?_
     exact opOf_no HB3.out HO.out
    have d3 : decide ((fs.size : Int) < (r.length : Int)) = false := decide_eq_false (by omega)
    have d4 : decide (fs.size < r.length) = false := decide_eq_false (by omega)
    rw [if_neg (fun h => h.elim hn1 hn2)] at ho
    replace HO := Aside0.mk ho
    have HN := Aside0.mk hn2
    clear ho hsz hss hfs hn1 hn2
    go_wp2_with fail
    go_loopg [5, 46] (r.length + 1) (fun kq v5 v46 w' => ∃ (i : Nat) (c : Cmd) (A2 : Option Addr) (d2 : Nat) (A4 : Option Addr) (d4 : Nat), v5 = .bool true ∧ v46 = .int .i64 i ∧ Aside0 (kq + i = r.length + 1 ∧ i ≤ r.length) ∧ Aside0 (opF w0 r = oflA c (sh.drop i) (r.drop i) ∧ (c.kd = 0 ∧ c.n = 0 ∧ c.m = 0)) ∧ Aside0 (w'.heap[g6]? = some (.cells #[.int .i64 c.ok, .int .u64 c.s, .slice A2 c.p.length d2, .int .i64 c.f, .slice A4 c.v.length d4, .int .u64 c.e, .int .u64 c.g] 50 (0, 0))) ∧ Aside0 (w'.heap[w.heap.size]? = some (.cells #[.int .i64 0, .int .u64 0, .slice none 0 0, .int .i64 0, .slice none 0 0, .int .u64 0, .int .u64 0] 50 (0, 0))) ∧ Aside0 (w'.heap[g1]? = some (.cells #[.int .i64 k, .string fs] 153 (0, 0))) ∧ Aside0 (OPM w w' w.heap.size w'.heap.size A2 d2 c.p A4 d4 c.v) ∧ Aside0 (Below w.heap.size w w'))
    case atStart => exact ⟨0, ⟨0, k, 0, [], 0, [], 0, 0, 0, 0⟩, none, 0, none, 0, rfl, rfl, ⟨⟨rfl, Nat.zero_le _⟩⟩, ⟨⟨by rw [List.drop_zero, List.drop_zero]; exact HO.out, rfl, rfl, rfl⟩⟩, BO, BZ3, BF3, ⟨OPM.nil (Nat.le_refl _)⟩, HB3⟩
    case round =>
     clear HO BO BZ3 BF3 HB3 d1 d2 d3 d4 f1
     obtain ⟨i, c, A2, d2, A4, d4, rfl, rfl, HI, HO, BO, BZ, BF, HM, HB⟩ := hrel
     have hi0 := HI.out
     by_cases hi : i < r.length
     ·
      obtain ⟨gk1, rfl⟩ : ∃ k1, gk = k1 + 1 := ⟨gk - 1, by omega⟩
      have c1 : decide ((i : Int) < (r.length : Int)) = true := decide_eq_true (by omega)
      have c2 : decide (i < r.length) = true := decide_eq_true hi
      have hsh : i < sh.length := by have := HN.out; omega
      have x0 := (HR.out.below HB.out) i hi
      have e1 : r.drop i = r[i] :: r.drop (i + 1) := List.drop_eq_getElem_cons hi
      have e2 : sh.drop i = sh[i] :: sh.drop (i + 1) := List.drop_eq_getElem_cons hsh
      have e3 : r.getD i [] = r[i] := by rw [List.getD_eq_getElem?_getD, List.getElem?_eq_getElem hi]; rfl
      have hlet := HL.out.1 sh[i] (List.getElem_mem hsh)
      have hxq := HQ.out r[i] (List.mem_cons_of_mem _ (List.getElem_mem hi))
      have hbt : bt fs (i : Int) = sh[i] := by
       rw [← HSZ.out.2.2]
       refine bt_str sh i hsh ?_
       have hz := hlet
       unfold ltr at hz
       omega
      have hod := HO.out.1
      rw [e1, e2] at hod
      rw [e3] at x0
      generalize r[i] = x at *
      generalize sh[i] = q at *
      have hfz : i < fs.size := by have := HSZ.out.2.1; omega
      have hb1 := bt_at fs (i : Int)
      rw [hbt] at hb1
      have hb2 : ∀ h : i < fs.size, ((fs[i]'h).toNat : Int) = q := fun h => hb1 h
      have c3 : decide (i < fs.size) = true := decide_eq_true hfz
      have c4 : (i : Int) < (fs.size : Int) := by omega
      have c5 : (0 : Int) ≤ (i : Int) := by omega
      have f1 := (blk_cell BF.out 1).trans rfl
      go_upto_block 2 with (fail)
      go_cut [5] from 55 to 115 (fun v5 wx => ∃ (okb : Bool) (c' : Cmd) (A2' : Option Addr) (d2' : Nat) (A4' : Option Addr) (d4' : Nat), v5 = .bool okb ∧ Aside0 (ofl c q x = (if okb = true then some c' else none) ∧ (c'.kd = 0 ∧ c'.n = 0 ∧ c'.m = 0)) ∧ Aside0 (wx.heap[g6]? = some (.cells #[.int .i64 c'.ok, .int .u64 c'.s, .slice A2' c'.p.length d2', .int .i64 c'.f, .slice A4' c'.v.length d4', .int .u64 c'.e, .int .u64 c'.g] 50 (0, 0))) ∧ Aside0 (OPM w wx w.heap.size wx.heap.size A2' d2' c'.p A4' d4' c'.v) ∧ Aside0 (wx.heap[w.heap.size]? = some (.cells #[.int .i64 0, .int .u64 0, .slice none 0 0, .int .i64 0, .slice none 0 0, .int .u64 0, .int .u64 0] 50 (0, 0))) ∧ Aside0 (wx.heap[g1]? = some (.cells #[.int .i64 k, .string fs] 153 (0, 0))) ∧ Aside0 (Below w.heap.size w wx))
      case first =>
       have hx1 : 1 ≤ x.length := hxq.2.2
       unfold ltr at hlet
       clear hod x0 hi0 HI
       rcases hlet with rfl | rfl | rfl | rfl | rfl | rfl | rfl
       ·
        go_wp2_with fail
        refine (counter_calls x hxq.1 hxq.2.1 wr).mono ?_
        rintro e w2 ⟨rfl, hb⟩
        have BO2 := Aside0.mk (blk_below BO.out hb)
        have BZ2 := Aside0.mk (blk_below BZ.out hb)
        have BF2 := Aside0.mk (blk_below BF.out hb)
        have HB2 := Aside0.mk (below_step HB.out hb)
        have HM2 := Aside0.mk ((HM.out.below hb).wide (Nat.le_refl _) hb.size (Nat.le_refl _))
        have z1 := (cells7 BO2.out).2.1
        have y1 := blk_frozen BO2.out 1
        clear hb
        have hofl := (ofl_num c x).1
        have HF := Aside0.mk hofl
        clear hofl
        generalize cntB x 4611686018427387904 = okb at *
        go_wp2_with fail
        go_meet
        have hgl := HGL.out
        exact ⟨okb, { c with s := tkV x }, A2, d2, A4, d4, rfl, ⟨⟨HF.out, HO.out.2⟩⟩, ⟨blk_put (cs' := #[.int .i64 c.ok, .int .u64 (tkV x), .slice A2 c.p.length d2, .int .i64 c.f, .slice A4 c.v.length d4, .int .u64 c.e, .int .u64 c.g]) BO2.out 1 (.int .u64 (tkV x)) rfl⟩, ⟨(HM2.out.other BO2.out (by decide) 1 _).wide (Nat.le_refl _) (by simp [World.setCell]) (Nat.le_refl _)⟩, ⟨blk_far (p := ⟨g6, 1, none⟩) BZ2.out (show w.heap.size ≠ g6 by omega) _⟩, ⟨blk_far (p := ⟨g6, 1, none⟩) BF2.out (show g1 ≠ g6 by omega) _⟩, ⟨below_set HB2.out (show w.heap.size ≤ g6 by omega)⟩⟩
       ·
        go_wp2_with fail
        refine (counter_calls x hxq.1 hxq.2.1 wr).mono ?_
        rintro e w2 ⟨rfl, hb⟩
        have BO2 := Aside0.mk (blk_below BO.out hb)
        have BZ2 := Aside0.mk (blk_below BZ.out hb)
        have BF2 := Aside0.mk (blk_below BF.out hb)
        have HB2 := Aside0.mk (below_step HB.out hb)
        have HM2 := Aside0.mk ((HM.out.below hb).wide (Nat.le_refl _) hb.size (Nat.le_refl _))
        have z5 := (cells7 BO2.out).2.2.2.2.2.1
        have y5 := blk_frozen BO2.out 5
        clear hb
        have hofl := (ofl_num c x).2.1
        have HF := Aside0.mk hofl
        clear hofl
        generalize cntB x 4611686018427387904 = okb at *
        go_wp2_with fail
        go_meet
        have hgl := HGL.out
        exact ⟨okb, { c with e := tkV x }, A2, d2, A4, d4, rfl, ⟨⟨HF.out, HO.out.2⟩⟩, ⟨blk_put (cs' := #[.int .i64 c.ok, .int .u64 c.s, .slice A2 c.p.length d2, .int .i64 c.f, .slice A4 c.v.length d4, .int .u64 (tkV x), .int .u64 c.g]) BO2.out 5 (.int .u64 (tkV x)) rfl⟩, ⟨(HM2.out.other BO2.out (by decide) 5 _).wide (Nat.le_refl _) (by simp [World.setCell]) (Nat.le_refl _)⟩, ⟨blk_far (p := ⟨g6, 5, none⟩) BZ2.out (show w.heap.size ≠ g6 by omega) _⟩, ⟨blk_far (p := ⟨g6, 5, none⟩) BF2.out (show g1 ≠ g6 by omega) _⟩, ⟨below_set HB2.out (show w.heap.size ≤ g6 by omega)⟩⟩
       ·
        go_wp2_with fail
        refine (counter_calls x hxq.1 hxq.2.1 wr).mono ?_
        rintro e w2 ⟨rfl, hb⟩
        have BO2 := Aside0.mk (blk_below BO.out hb)
        have BZ2 := Aside0.mk (blk_below BZ.out hb)
        have BF2 := Aside0.mk (blk_below BF.out hb)
        have HB2 := Aside0.mk (below_step HB.out hb)
        have HM2 := Aside0.mk ((HM.out.below hb).wide (Nat.le_refl _) hb.size (Nat.le_refl _))
        have z6 := (cells7 BO2.out).2.2.2.2.2.2
        have y6 := blk_frozen BO2.out 6
        clear hb
        have hofl := (ofl_num c x).2.2
        have HF := Aside0.mk hofl
        clear hofl
        generalize cntB x 4611686018427387904 = okb at *
        go_wp2_with fail
        go_meet
        have hgl := HGL.out
        exact ⟨okb, { c with g := tkV x }, A2, d2, A4, d4, rfl, ⟨⟨HF.out, HO.out.2⟩⟩, ⟨blk_put (cs' := #[.int .i64 c.ok, .int .u64 c.s, .slice A2 c.p.length d2, .int .i64 c.f, .slice A4 c.v.length d4, .int .u64 c.e, .int .u64 (tkV x)]) BO2.out 6 (.int .u64 (tkV x)) rfl⟩, ⟨(HM2.out.other BO2.out (by decide) 6 _).wide (Nat.le_refl _) (by simp [World.setCell]) (Nat.le_refl _)⟩, ⟨blk_far (p := ⟨g6, 6, none⟩) BZ2.out (show w.heap.size ≠ g6 by omega) _⟩, ⟨blk_far (p := ⟨g6, 6, none⟩) BF2.out (show g1 ≠ g6 by omega) _⟩, ⟨below_set HB2.out (show w.heap.size ≤ g6 by omega)⟩⟩
       ·
        have kb := conv_run x wr
        have hb := bytes_below (Below.refl wr.heap.size wr) (Nat.le_refl _) 5 (strOfNums x)
        have BO2 := Aside0.mk (blk_below BO.out hb)
        have BZ2 := Aside0.mk (blk_below BZ.out hb)
        have BF2 := Aside0.mk (blk_below BF.out hb)
        have HB2 := Aside0.mk (below_step HB.out hb)
        have HM2 := Aside0.mk (HM.out.path x hxq.1 ⟨Nat.le_refl _, HB.out.size⟩)
        clear hb
        generalize Lib.bytesWorld wr 5 (strOfNums x) = w2 at *
        have z2 := (cells7 BO2.out).2.2.1
        have y2 := blk_frozen BO2.out 2
        go_wp2_with fail
        go_meet
        have hgl := HGL.out
        exact ⟨true, { c with p := x }, (some ⟨wr.heap.size, 0, none⟩), (grownCap wr x.length 0 5), A4, d4, rfl, ⟨⟨rfl, HO.out.2⟩⟩, ⟨blk_put (cs' := #[.int .i64 c.ok, .int .u64 c.s, .slice (some ⟨wr.heap.size, 0, none⟩) x.length (grownCap wr x.length 0 5), .int .i64 c.f, .slice A4 c.v.length d4, .int .u64 c.e, .int .u64 c.g]) BO2.out 2 (.slice (some ⟨wr.heap.size, 0, none⟩) x.length (grownCap wr x.length 0 5)) rfl⟩, ⟨(HM2.out.other BO2.out (by decide) 2 _).wide (Nat.le_refl _) (by simp [World.setCell]) (Nat.le_refl _)⟩, ⟨blk_far (p := ⟨g6, 2, none⟩) BZ2.out (show w.heap.size ≠ g6 by omega) _⟩, ⟨blk_far (p := ⟨g6, 2, none⟩) BF2.out (show g1 ≠ g6 by omega) _⟩, ⟨below_set HB2.out (show w.heap.size ≤ g6 by omega)⟩⟩
       ·
        have kb := conv_run x wr
        have hb := bytes_below (Below.refl wr.heap.size wr) (Nat.le_refl _) 5 (strOfNums x)
        have BO2 := Aside0.mk (blk_below BO.out hb)
        have BZ2 := Aside0.mk (blk_below BZ.out hb)
        have BF2 := Aside0.mk (blk_below BF.out hb)
        have HB2 := Aside0.mk (below_step HB.out hb)
        have HM2 := Aside0.mk (HM.out.val x hxq.1 ⟨Nat.le_refl _, HB.out.size⟩)
        clear hb
        generalize Lib.bytesWorld wr 5 (strOfNums x) = w2 at *
        have z4 := (cells7 BO2.out).2.2.2.2.1
        have y4 := blk_frozen BO2.out 4
        go_wp2_with fail
        go_meet
        have hgl := HGL.out
        exact ⟨true, { c with v := x }, A2, d2, (some ⟨wr.heap.size, 0, none⟩), (grownCap wr x.length 0 5), rfl, ⟨⟨rfl, HO.out.2⟩⟩, ⟨blk_put (cs' := #[.int .i64 c.ok, .int .u64 c.s, .slice A2 c.p.length d2, .int .i64 c.f, .slice (some ⟨wr.heap.size, 0, none⟩) x.length (grownCap wr x.length 0 5), .int .u64 c.e, .int .u64 c.g]) BO2.out 4 (.slice (some ⟨wr.heap.size, 0, none⟩) x.length (grownCap wr x.length 0 5)) rfl⟩, ⟨(HM2.out.other BO2.out (by decide) 4 _).wide (Nat.le_refl _) (by simp [World.setCell]) (Nat.le_refl _)⟩, ⟨blk_far (p := ⟨g6, 4, none⟩) BZ2.out (show w.heap.size ≠ g6 by omega) _⟩, ⟨blk_far (p := ⟨g6, 4, none⟩) BF2.out (show g1 ≠ g6 by omega) _⟩, ⟨below_set HB2.out (show w.heap.size ≤ g6 by omega)⟩⟩
       ·
        have HX := Aside0.mk (index2_calls 112 101 (by decide) (by decide) x hxq.1 hx1 hxq.2.1 wr)
        have hss : (strOfNums x).size = x.length := strOfNums_size x
        have z3 := (cells7 BO.out).2.2.2.1
        have y3 := blk_frozen BO.out 3
        go_wp2_with fail
        refine HX.out.mono ?_
        rintro e w2 ⟨v, rfl, hv, hv1, hww⟩
        obtain rfl : wr = w2 := hww.symm
        clear HX hww
        have HF := Aside0.mk (ofl_flag c x v hv hv1)
        have BO2 := Aside0.mk (blk_put (cs' := #[.int .i64 c.ok, .int .u64 c.s, .slice A2 c.p.length d2, .int .i64 v, .slice A4 c.v.length d4, .int .u64 c.e, .int .u64 c.g]) BO.out 3 (.int .i64 v) rfl)
        have k3 := (cells7 BO2.out).2.2.2.1
        by_cases hl : x.length = 1
        ·
         have e1 : ((strOfNums x).size == 1) = true := by rw [hss]; simpa using hl
         have e2 : (((strOfNums x).size : Int) == 1) = true := by rw [hss, hl]; rfl
         have e3 : (strOfNums x).size = 1 := by omega
         by_cases hvv : 0 ≤ v
         ·
          have e4 : decide (0 ≤ v) = true := decide_eq_true hvv
          have e5 : (decide (x.length = 1) && decide (0 ≤ v)) = true := by rw [decide_eq_true hl, e4]; rfl
          have HV := Aside0.mk (And.intro hv e5)
          clear hv hv1 hl hvv e5 hss
          go_wp2_with fail
          go_meet
          have hgl := HGL.out
          exact ⟨true, { c with f := v }, A2, d2, A4, d4, rfl, ⟨⟨by rw [HF.out, HV.out.2], HO.out.2⟩⟩, BO2, ⟨(HM.out.other BO.out (by decide) 3 _).wide (Nat.le_refl _) (by simp [World.setCell]) (Nat.le_refl _)⟩, ⟨blk_far (p := ⟨g6, 3, none⟩) BZ.out (show w.heap.size ≠ g6 by omega) _⟩, ⟨blk_far (p := ⟨g6, 3, none⟩) BF.out (show g1 ≠ g6 by omega) _⟩, ⟨below_set HB.out (show w.heap.size ≤ g6 by omega)⟩⟩
         have e4 : decide (0 ≤ v) = false := decide_eq_false hvv
         have e5 : (decide (x.length = 1) && decide (0 ≤ v)) = false := by rw [e4, Bool.and_false]
         have HV := Aside0.mk (And.intro hv e5)
         clear hv hv1 hl hvv e5 hss
         go_wp2_with fail
         go_meet
         have hgl := HGL.out
         exact ⟨false, { c with f := v }, A2, d2, A4, d4, rfl, ⟨⟨by rw [HF.out, HV.out.2], HO.out.2⟩⟩, BO2, ⟨(HM.out.other BO.out (by decide) 3 _).wide (Nat.le_refl _) (by simp [World.setCell]) (Nat.le_refl _)⟩, ⟨blk_far (p := ⟨g6, 3, none⟩) BZ.out (show w.heap.size ≠ g6 by omega) _⟩, ⟨blk_far (p := ⟨g6, 3, none⟩) BF.out (show g1 ≠ g6 by omega) _⟩, ⟨below_set HB.out (show w.heap.size ≤ g6 by omega)⟩⟩
        have e1 : ((strOfNums x).size == 1) = false := by rw [hss]; exact beq_eq_false_iff_ne.2 hl
        have e2 : (((strOfNums x).size : Int) == 1) = false := beq_eq_false_iff_ne.2 (by omega)
        have e3 : ¬ (strOfNums x).size = 1 := by omega
        have e5 : (decide (x.length = 1) && decide (0 ≤ v)) = false := by rw [decide_eq_false hl]; rfl
        have HV := Aside0.mk (And.intro hv e5)
        clear hv hv1 hl e5 hss
        go_wp2_with fail
        go_meet
        have hgl := HGL.out
        exact ⟨false, { c with f := v }, A2, d2, A4, d4, rfl, ⟨⟨by rw [HF.out, HV.out.2], HO.out.2⟩⟩, BO2, ⟨(HM.out.other BO.out (by decide) 3 _).wide (Nat.le_refl _) (by simp [World.setCell]) (Nat.le_refl _)⟩, ⟨blk_far (p := ⟨g6, 3, none⟩) BZ.out (show w.heap.size ≠ g6 by omega) _⟩, ⟨blk_far (p := ⟨g6, 3, none⟩) BF.out (show g1 ≠ g6 by omega) _⟩, ⟨below_set HB.out (show w.heap.size ≤ g6 by omega)⟩⟩
       have HX := Aside0.mk (index2_calls 120 115 (by decide) (by decide) x hxq.1 hx1 hxq.2.1 wr)
       have hss : (strOfNums x).size = x.length := strOfNums_size x
       have z3 := (cells7 BO.out).2.2.2.1
       have y3 := blk_frozen BO.out 3
       go_wp2_with fail
       refine HX.out.mono ?_
       rintro e w2 ⟨v, rfl, hv, hv1, hww⟩
       obtain rfl : wr = w2 := hww.symm
       clear HX hww
       have HF := Aside0.mk (ofl_mode c x v hv hv1)
       have HW := Aside0.mk (show wrap64 (v + 1) = v + 1 by unfold wrap64; omega)
       have BO2 := Aside0.mk (blk_put (cs' := #[.int .i64 c.ok, .int .u64 c.s, .slice A2 c.p.length d2, .int .i64 (v + 1), .slice A4 c.v.length d4, .int .u64 c.e, .int .u64 c.g]) BO.out 3 (.int .i64 (v + 1)) rfl)
       have k3 := (cells7 BO2.out).2.2.2.1
       by_cases hl : x.length = 1
       ·
        have e1 : ((strOfNums x).size == 1) = true := by rw [hss]; simpa using hl
        have e2 : (((strOfNums x).size : Int) == 1) = true := by rw [hss, hl]; rfl
        have e3 : (strOfNums x).size = 1 := by omega
        by_cases hvv : 1 ≤ (v + 1)
        ·
         have e4 : decide (1 ≤ (v + 1)) = true := decide_eq_true hvv
         have e5 : (decide (x.length = 1) && decide (1 ≤ (v + 1))) = true := by rw [decide_eq_true hl, e4]; rfl
         have HV := Aside0.mk (And.intro hv e5)
         have ew := HW.out
         clear hv hv1 hl hvv e5 hss
         go_wp2_with fail
         go_meet
         have hgl := HGL.out
         exact ⟨true, { c with f := (v + 1) }, A2, d2, A4, d4, rfl, ⟨⟨by rw [HF.out, HV.out.2], HO.out.2⟩⟩, BO2, ⟨(HM.out.other BO.out (by decide) 3 _).wide (Nat.le_refl _) (by simp [World.setCell]) (Nat.le_refl _)⟩, ⟨blk_far (p := ⟨g6, 3, none⟩) BZ.out (show w.heap.size ≠ g6 by omega) _⟩, ⟨blk_far (p := ⟨g6, 3, none⟩) BF.out (show g1 ≠ g6 by omega) _⟩, ⟨below_set HB.out (show w.heap.size ≤ g6 by omega)⟩⟩
        have e4 : decide (1 ≤ (v + 1)) = false := decide_eq_false hvv
        have e5 : (decide (x.length = 1) && decide (1 ≤ (v + 1))) = false := by rw [e4, Bool.and_false]
        have HV := Aside0.mk (And.intro hv e5)
        have ew := HW.out
        clear hv hv1 hl hvv e5 hss
        go_wp2_with fail
        go_meet
        have hgl := HGL.out
        exact ⟨false, { c with f := (v + 1) }, A2, d2, A4, d4, rfl, ⟨⟨by rw [HF.out, HV.out.2], HO.out.2⟩⟩, BO2, ⟨(HM.out.other BO.out (by decide) 3 _).wide (Nat.le_refl _) (by simp [World.setCell]) (Nat.le_refl _)⟩, ⟨blk_far (p := ⟨g6, 3, none⟩) BZ.out (show w.heap.size ≠ g6 by omega) _⟩, ⟨blk_far (p := ⟨g6, 3, none⟩) BF.out (show g1 ≠ g6 by omega) _⟩, ⟨below_set HB.out (show w.heap.size ≤ g6 by omega)⟩⟩
       have e1 : ((strOfNums x).size == 1) = false := by rw [hss]; exact beq_eq_false_iff_ne.2 hl
       have e2 : (((strOfNums x).size : Int) == 1) = false := beq_eq_false_iff_ne.2 (by omega)
       have e3 : ¬ (strOfNums x).size = 1 := by omega
       have e5 : (decide (x.length = 1) && decide (1 ≤ (v + 1))) = false := by rw [decide_eq_false hl]; rfl
       have HV := Aside0.mk (And.intro hv e5)
       have ew := HW.out
       clear hv hv1 hl e5 hss
       go_wp2_with fail
       go_meet
       have hgl := HGL.out
       exact ⟨false, { c with f := (v + 1) }, A2, d2, A4, d4, rfl, ⟨⟨by rw [HF.out, HV.out.2], HO.out.2⟩⟩, BO2, ⟨(HM.out.other BO.out (by decide) 3 _).wide (Nat.le_refl _) (by simp [World.setCell]) (Nat.le_refl _)⟩, ⟨blk_far (p := ⟨g6, 3, none⟩) BZ.out (show w.heap.size ≠ g6 by omega) _⟩, ⟨blk_far (p := ⟨g6, 3, none⟩) BF.out (show g1 ≠ g6 by omega) _⟩, ⟨below_set HB.out (show w.heap.size ≤ g6 by omega)⟩⟩
      case rest =>
       obtain ⟨okb, c', A2', d2', A4', d4', rfl, HF, BO', HM', BZ', BF', HB'⟩ := hcut
       have HOD := Aside0.mk hod
       clear hod hbt x0 e3 HO BO BZ BF HM HB hlet
       cases okb with
       | false =>
        have ho : opF w0 r = none := by
         rw [HOD.out, oflA, HF.out.1]
         rfl
        obtain ⟨z0, z1, z2, z3, z4, z5, z6⟩ := cells7 BZ'.out
        have y0 := blk_frozen BZ'.out 0
        have y1 := blk_frozen BZ'.out 1
        have y2 := blk_frozen BZ'.out 2
        have y3 := blk_frozen BZ'.out 3
        have y4 := blk_frozen BZ'.out 4
        have y5 := blk_frozen BZ'.out 5
        have y6 := blk_frozen BZ'.out 6
        have HNO := Aside0.mk ho
        clear ho
        go_wp2_with fail
        refine bodyPost_ret (results_ct rfl _ _ w.heap.size 50 #[.int .i64 0, .int .u64 0, .slice none 0 0, .int .i64 0, .slice none 0 0, .int .u64 0, .int .u64 0] (0, 0) _ rfl (blk_set7 BZ'.out) Tryd.underlying50 rfl (by kernel_rfl)) rfl ?_
        exact opOf_no HB'.out HNO.out
       | true =>
        go_wp2_with fail
        go_roundg gk1
        case measure => have := HI.out; omega
        case rel =>
         refine ⟨i + 1, c', A2', d2', A4', d4', rfl, by go_num, ⟨by have := HI.out; omega⟩, ⟨⟨?_, HF.out.2⟩⟩, BO', BZ', BF', HM', HB'⟩
         rw [HOD.out, oflA, HF.out.1]
         rfl
     have hir : i = r.length := by omega
     subst hir
     have c1 : decide ((r.length : Int) < (r.length : Int)) = false := decide_eq_false (by omega)
     have c2 : decide (r.length < r.length) = false := decide_eq_false (by omega)
     obtain ⟨b0, b1, b2, b3, b4, b5, b6⟩ := cells7 BO.out
     obtain ⟨z0, z1, z2, z3, z4, z5, z6⟩ := cells7 BZ.out
     have y0 := blk_frozen BZ.out 0
     have y1 := blk_frozen BZ.out 1
     have y2 := blk_frozen BZ.out 2
     have y3 := blk_frozen BZ.out 3
     have y4 := blk_frozen BZ.out 4
     have y5 := blk_frozen BZ.out 5
     have y6 := blk_frozen BZ.out 6
     go_wp2_with fail
     refine bodyPost_ret (results_ct rfl _ _ w.heap.size 50 #[.int .i64 c.ok, .int .u64 c.s, .slice A2 c.p.length d2, .int .i64 c.f, .slice A4 c.v.length d4, .int .u64 c.e, .int .u64 c.g] (0, 0) _ rfl (blk_set7 BZ.out) Tryd.underlying50 rfl (by kernel_rfl)) rfl ?_
     refine ⟨true, c, A2, d2, A4, d4, rfl, ?_, HO.out.2, (HM.out.set7 BZ.out (by decide)).wide (Nat.le_refl _) (by rw [size_set7]; exact Nat.le_refl _) (Nat.le_refl _), below_set7 HB.out (Nat.le_refl _)⟩
     rw [HO.out.1, List.drop_length]
     cases sh.drop r.length <;> rfl
end
section
open Go.Shelf
def encS (q : List Int) : Value := .string (strOfNums q)
theorem splG_len : ∀ (l one : List Int), (splG one l).length ≤ l.length + 1
 | [], one => by simp [splG]
 | c :: r, one => by
  unfold splG
  split
  ·
   have := splG_len r []
   simp only [List.length_cons]
   omega
  have := splG_len r (one ++ [c])
  simp only [List.length_cons]
  omega
theorem genS_calls (l : List Int) (hr : ∀ x ∈ l, 0 ≤ x ∧ x < 256) (hl : l.length ≤ 2097152) (w : World) :
  Calls Tryd.prog 114 #[.string (strOfNums l), .string ⟨#[32]⟩, .int .i64 0, .int .i64 (-1)] w fun e w' => e = .returned (.slice (some ⟨w.heap.size, 0, none⟩) (splG [] l).length (splG [] l).length) ∧ w' = w.alloc (.cells ((splG [] l).map encS).toArray 9) := by
 have hs : (strOfNums l).size = l.length := strOfNums_size l
 have hp := split_pieces l hr ⟨#[32]⟩ rfl
 have hall := Lib.splitB_all ⟨#[32]⟩ (by decide) 0 _ (strOfNums l) rfl
 have hle := Lib.countB_le ⟨#[32]⟩ (by decide) (strOfNums l).size (strOfNums l) (Nat.le_refl _)
 have hk := Any.strings_genSplit_core Tryd.laysGenS (by kernel_rfl) (strOfNums l) ⟨#[32]⟩ 0 (-1) (Lib.countB (strOfNums l) ⟨#[32]⟩ + 1) w (by omega) (by decide) (Nat.zero_le _)
  (fun x c hx => (Any.strings_Index_one { Tryd.laysGenS with } x 32 _).mono fun e w' ⟨he, hw⟩ => ⟨by rw [he]; congr 2; exact (Lib.index_one x.data.toList 32).symm, hw⟩)
  ((Any.strings_Count_one { Tryd.laysGenS with } (strOfNums l) 32 w).mono fun e w' ⟨he, hw⟩ => ⟨by
   rw [he]
   show _ = Ending.returned (Value.int .i64 ((Lib.count (strOfNums l).data.toList [32] : Nat) : Int))
   rw [Lib.count_one]
   rfl, hw⟩) (by decide) (by decide) (by rw [if_pos (by decide)]; omega)
 rw [Nat.add_sub_cancel, hp, List.length_map] at hk
 rw [hp, List.length_map] at hall
 refine hk.mono ?_
 rintro e w' ⟨rfl, rfl⟩
 rw [← hall]
 refine ⟨rfl, ?_⟩
 congr 2
 have := Lib.cellsOf_full ((splG [] l).map strOfNums)
 rw [List.length_map] at this
 rw [this, List.map_map]
 rfl
set_option maxHeartbeats 2000000 in
set_option maxRecDepth 100000 in
theorem splitS_calls (l : List Int) (hr : ∀ x ∈ l, 0 ≤ x ∧ x < 256) (hl : l.length ≤ 2097152) (w : World) :
  Calls Tryd.prog 79 #[.string (strOfNums l), .string ⟨#[32]⟩] w fun e w' => e = .returned (.slice (some ⟨w.heap.size, 0, none⟩) (splG [] l).length (splG [] l).length) ∧ w' = w.alloc (.cells ((splG [] l).map encS).toArray 9) := by
 have HC := Aside0.mk (genS_calls l hr hl w)
 generalize ((splG [] l).map encS).toArray = cs at *
 generalize (splG [] l).length = n at *
 clear hr hl
 go_enter Tryd.func79, Tryd.ntmps79
 go_wp2_with fail
 refine HC.out.mono ?_
 rintro e w' ⟨rfl, rfl⟩
 go_wp2_with fail
 go_ret
 exact ⟨rfl, rfl⟩
theorem empty_gives (q : List Int) (W : World) : Go.Proofs.FnGives Tryd.prog 80 #[] #[encS q] (.bool (decide (q = []))) W := by
 show Calls Tryd.prog 80 #[.string (strOfNums q)] W _
 have ht : (strOfNums q).toList = Lib.bytesOf q := by rw [Lib.toList_data, strData]
 by_cases h : q = []
 ·
  subst h
  have e1 : (strOfNums []).toList = [] := ht
  have e2 : (strOfNums []).toList.isEmpty = true := by rw [e1]; rfl
  clear ht
  go_enter Tryd.func80, Tryd.ntmps80
  go_wp2_with fail
  go_ret
  exact ⟨rfl, 0, rfl⟩
 have hne : ¬ (strOfNums q).toList = [] := by rw [ht]; unfold Lib.bytesOf; simpa using h
 have e1 : (strOfNums q).toList ≠ [] := hne
 have e2 : (strOfNums q).toList.isEmpty = false := by simpa using hne
 have HD := Aside0.mk (decide_eq_false h)
 clear ht hne h
 generalize strOfNums q = s at *
 go_enter Tryd.func80, Tryd.ntmps80
 go_wp2_with fail
 go_ret
 rw [HD.out]
 exact ⟨rfl, 0, rfl⟩
theorem del_calls (w0 : World) (P : List (List Int)) (blk : Nat) (w : World) (hb : w.heap[blk]? = some (.cells (P.map encS).toArray 9 (0, 0))) (hB : Below w0.heap.size w0 w) (hlo : w0.heap.size ≤ blk) (hl : P.length ≤ 2097153) :
  Calls Tryd.prog 78 #[.slice (some ⟨blk, 0, none⟩) P.length P.length, .func (.func 80) #[] #[]] w fun e w' => e = .returned (.slice (some ⟨blk, 0, none⟩) (P.filter fun x => !decide (x = [])).length P.length) ∧ SRow w' ⟨blk, 0, none⟩ (P.filter fun x => !decide (x = [])) ∧ Below w0.heap.size w0 w' := by
 have hH : Go.Sort.Holds encS w blk 0 P.toArray := fun j hj => by
  have hj' : j < P.length := by simpa using hj
  refine ⟨?_, blk_frozen hb _⟩
  rw [blk_cell hb]
  simp [hj', List.getElem?_map]
 have eg : ∀ args w, (callFunc 80 args).run Tryd.prog w = .ok (.enter 80 args) w := enters_of Tryd.func80 (by kernel_rfl) rfl
 have hk := AnyE.slices_DeleteFunc Tryd.laysDel encS (fun _ => rfl) (fun x => decide (x = [])) 80 #[] eg [] Tryd.zeroValue9 blk 0 P.length P.toArray w
  (fun W x _ => empty_gives x W) (fun n os dk x _ => empty_gives x _) hH (by simp; omega) (by simp)
 simp only [List.size_toArray] at hk
 refine hk.mono ?_
 rintro e w' ⟨rfl, q, rfl⟩
 have hlen : (P.filter fun x => !decide (x = [])).length ≤ P.length := List.length_filter_le _ _
 refine ⟨rfl, fun j hj => ?_, ?_⟩
 ·
  have hc := Go.Sort.cell?_putRow encS (Go.Sort.ahead w q) blk 0 P.toArray ((P.filter fun x => !decide (x = [])) ++ List.replicate (P.length - (P.filter fun x => !decide (x = [])).length) []).toArray (Go.Sort.holds_ahead encS w q blk 0 P.toArray hH) (by simp; omega) j (by simp; omega)
  have ea : (⟨blk, 0, none⟩ : Addr).add j = ⟨blk, 0 + j, none⟩ := by unfold Addr.add; split <;> simp_all
  rw [ea]
  refine hc.trans ?_
  rw [getElem!_pos _ j (by simp; omega)]
  simp only [List.getElem_toArray, List.getElem_append_left hj, List.getD_eq_getElem?_getD, List.getElem?_eq_getElem hj, Option.getD_some]
  rfl
 refine ⟨hB.os, hB.tape, hB.output, ?_, fun i hi => ?_⟩
 ·
  rw [Go.Sort.size_putRow]
  exact hB.size
 have hne : i ≠ blk := by omega
 have h1 : (Go.Sort.putRow encS (Go.Sort.ahead w q) blk 0 ((P.filter fun x => !decide (x = [])) ++ List.replicate (P.length - (P.filter fun x => !decide (x = [])).length) []).toArray).heap[i]? = w.heap[i]? := by
  unfold Go.Sort.putRow Go.Sort.mapBlock
  simp only [Go.Sort.ahead]
  rw [Array.getElem?_modify, if_neg (by omega)]
 exact h1.trans (hB.block i hi)
end
section
open Go.Shelf
theorem wdsG_facts : ∀ (l one : List Int), (∀ x ∈ one, 0 ≤ x ∧ x < 256) → (∀ x ∈ l, 0 ≤ x ∧ x < 256) → (∀ q ∈ wdsG one l, (∀ x ∈ q, 0 ≤ x ∧ x < 256) ∧ q.length ≤ one.length + l.length ∧ 1 ≤ q.length)
 | [], one, h1, h2 => by
  intro q hq
  unfold wdsG at hq
  split at hq
  ·
   simp at hq
  rename_i hne
  simp only [List.mem_singleton] at hq
  subst hq
  refine ⟨h1, by simp, ?_⟩
  cases q with
  | nil => exact absurd rfl hne
  | cons a b => simp
 | c :: r, one, h1, h2 => by
  intro q hq
  have hr : ∀ x ∈ r, 0 ≤ x ∧ x < 256 := fun x hx => h2 x (by simp [hx])
  unfold wdsG at hq
  split at hq
  ·
   split at hq
   ·
    have := wdsG_facts r [] (by simp) hr q hq
    simp only [List.length_cons, List.length_nil] at *
    exact ⟨this.1, by omega, this.2.2⟩
   rename_i hne
   rcases List.mem_cons.1 hq with hq | hq
   ·
    subst hq
    refine ⟨h1, by simp, ?_⟩
    cases q with
    | nil => exact absurd rfl hne
    | cons a b => simp
   have := wdsG_facts r [] (by simp) hr q hq
   simp only [List.length_cons, List.length_nil] at *
   exact ⟨this.1, by omega, this.2.2⟩
  have := wdsG_facts r (one ++ [c]) (fun x hx => by
   rcases List.mem_append.1 hx with hx | hx
   ·
    exact h1 x hx
   simp only [List.mem_singleton] at hx
   subst hx
   exact h2 x (by simp)) hr q hq
  simp only [List.length_append, List.length_cons, List.length_nil] at *
  exact ⟨this.1, by omega, this.2.2⟩
theorem wds_count (l : List Int) : (wds l).length ≤ l.length + 1 := by
 unfold wds
 rw [← splG_wds]
 exact Nat.le_trans (List.length_filter_le _ _) (splG_len l [])
def ofO : Option Cmd → Cmd × Int
 | some C => (C, 0)
 | none => (zCmd, 2)
def ansI (l : List Int) : Cmd × Int := ofO (cmdI (wds l))
theorem cmdI_cons (w0 : List Int) (r : List (List Int)) : cmdI (w0 :: r) = if (bareF w0).isSome = true ∧ r.length = 0 then some ⟨(bareF w0).getD 0, 0, 0, [], 0, [], 0, 0, 0, 0⟩ else if w0 = kTick ∧ r.length = 1 ∧ gdB r = true then some ⟨1, 0, 0, [], 0, [], 0, 0, tkV (r.getD 0 []), 0⟩ else if w0 = kCrash ∧ r.length = 1 ∧ gdB r = true then some ⟨5, 0, 0, [], 0, [], 0, 0, tkV (r.getD 0 []), 5⟩ else if w0 = kCrash ∧ r.length = 2 ∧ gdB r = true ∧ tkV (r.getD 1 []) < 5 then some ⟨5, 0, 0, [], 0, [], 0, 0, tkV (r.getD 0 []), tkV (r.getD 1 [])⟩ else if w0 = kSnapcrash ∧ r.length = 2 ∧ gdB r = true ∧ tkV (r.getD 0 []) ≤ 5 then some ⟨6, 0, 0, [], 0, [], 0, 0, tkV (r.getD 0 []), tkV (r.getD 1 [])⟩ else opF w0 r := rfl
def bareL : List (List Int × Value) := [(kSweep, .int .i64 2), (kFlush, .int .i64 3), (kSnap, .int .i64 4)]
theorem bare_find (q : List Int) : ((bareL.find? (fun p => p.1 == q)).map (·.2)).getD (.int .i64 0) = .int .i64 ((bareF q).getD 0) ∧ (bareL.find? (fun p => p.1 == q)).isSome = (bareF q).isSome := by
 unfold bareL bareF
 by_cases h1 : q = kSweep
 ·
  subst h1; exact ⟨by rfl, by rfl⟩
 by_cases h2 : q = kFlush
 ·
  subst h2; exact ⟨by rfl, by rfl⟩
 by_cases h3 : q = kSnap
 ·
  subst h3; exact ⟨by rfl, by rfl⟩
 rw [if_neg h1, if_neg h2, if_neg h3]
 rw [List.find?_cons_of_neg (by simp; exact fun e => h1 e.symm), List.find?_cons_of_neg (by simp; exact fun e => h2 e.symm), List.find?_cons_of_neg (by simp; exact fun e => h3 e.symm)]
 exact ⟨rfl, rfl⟩
theorem zero_int (w : World) : (zeroValue 3).run Tryd.prog w = .ok (.int .i64 0) w := by kernel_rfl
theorem bare_look {w0 W : World} {b : Nat} (h : KM w0 W b bareL) (q : List Int) (hq : ∀ x ∈ q, 0 ≤ x ∧ x < 256) :
  (Instr.lookup 118 (.map (some b)) (.string (strOfNums q)) true).run Tryd.prog W = .ok (.tuple #[.int .i64 ((bareF q).getD 0), .bool (bareF q).isSome]) W := by
 obtain ⟨es, c, h1, h2⟩ := h.m
 obtain ⟨f1, f2⟩ := bare_find q
 rw [run_lookupS Tryd.underlying118 Tryd.underlying9 h1 h2 h.k q hq _ (zero_int W), f1, f2]
theorem key_eq {q key : List Int} (hq : ∀ x ∈ q, 0 ≤ x ∧ x < 256) (hk : ∀ x ∈ key, 0 ≤ x ∧ x < 256) {L : List UInt8} (hL : Lib.bytesOf key = L) : (strOfNums q).toList = L ↔ q = key := by
 constructor
 ·
  intro h
  refine strOf_inj hq hk (bytes_eq ?_)
  rw [← Lib.toList_data, h, strData, hL]
 rintro rfl
 rw [Lib.toList_data, strData, hL]
theorem cmdI_op {w0 : List Int} {r : List (List Int)} (h1 : ¬ ((bareF w0).isSome = true ∧ r.length = 0)) (h2 : ¬ (w0 = kTick ∧ r.length = 1 ∧ gdB r = true)) (h3 : ¬ (w0 = kCrash ∧ r.length = 1 ∧ gdB r = true)) (h4 : ¬ (w0 = kCrash ∧ r.length = 2 ∧ gdB r = true ∧ tkV (r.getD 1 []) < 5)) (h5 : ¬ (w0 = kSnapcrash ∧ r.length = 2 ∧ gdB r = true ∧ tkV (r.getD 0 []) ≤ 5)) : cmdI (w0 :: r) = opF w0 r := by
 rw [cmdI_cons, if_neg h1, if_neg h2, if_neg h3, if_neg h4, if_neg h5]
theorem tk_small {x : List Int} (h : cntB x 1000000 = true) : tkI x = tkV x ∧ 0 ≤ tkV x ∧ tkV x ≤ 1000000 := by
 have h1 := (cnt_form h).2
 have h2 := tkV_of h
 have h3 := (tkV_range x).1
 refine ⟨?_, h3, by omega⟩
 unfold tkI wrap64
 omega
theorem gd_at {r : List (List Int)} (h : gdB r = true) (j : Nat) (hj : j < r.length) : cntB (r.getD j []) 1000000 = true := by
 unfold gdB at h
 rw [List.all_eq_true] at h
 have := h r[j] (List.getElem_mem hj)
 rw [List.getD_eq_getElem?_getD, List.getElem?_eq_getElem hj]
 exact this
theorem num_cells {W : World} {A : Option Addr} {r : List (List Int)} (h : Kd.C (Kd.int .i64) W A (r.map tkI).length (r.map tkI)) (hp : 0 < r.length) : ∃ ad, A = some ad ∧ ∀ j, j < r.length → W.cell? (ad.add j) = some (.int .i64 (tkI (r.getD j []))) := by
 have hr := Kd.reads_of_C (d := (0 : Int)) h
 obtain ⟨ad, e, hc⟩ := hr.2.2 (by rw [List.length_map]; exact hp)
 refine ⟨ad, e, fun j hj => ?_⟩
 rw [hc j (by rw [List.length_map]; exact hj)]
 congr 2
 rw [List.getD_eq_getElem?_getD, List.getElem?_map, List.getElem?_eq_getElem hj, List.getD_eq_getElem?_getD, List.getElem?_eq_getElem hj]
 rfl
theorem blk_set10 {W : World} {g : Nat} {t : TypeId} {a0 a1 a2 a3 a4 a5 a6 a7 a8 a9 v0 v1 v2 v3 v4 v5 v6 v7 v8 v9 : Value} (h : W.heap[g]? = some (.cells #[a0, a1, a2, a3, a4, a5, a6, a7, a8, a9] t (0, 0))) : ((((((((((W.setCell ⟨g, 0, none⟩ v0).setCell ⟨g, 1, none⟩ v1).setCell ⟨g, 2, none⟩ v2).setCell ⟨g, 3, none⟩ v3).setCell ⟨g, 4, none⟩ v4).setCell ⟨g, 5, none⟩ v5).setCell ⟨g, 6, none⟩ v6).setCell ⟨g, 7, none⟩ v7).setCell ⟨g, 8, none⟩ v8).setCell ⟨g, 9, none⟩ v9).heap[g]? = some (.cells #[v0, v1, v2, v3, v4, v5, v6, v7, v8, v9] t (0, 0)) := by
 have b0 := blk_put (cs' := #[v0, a1, a2, a3, a4, a5, a6, a7, a8, a9]) h 0 v0 rfl
 have b1 := blk_put (cs' := #[v0, v1, a2, a3, a4, a5, a6, a7, a8, a9]) b0 1 v1 rfl
 have b2 := blk_put (cs' := #[v0, v1, v2, a3, a4, a5, a6, a7, a8, a9]) b1 2 v2 rfl
 have b3 := blk_put (cs' := #[v0, v1, v2, v3, a4, a5, a6, a7, a8, a9]) b2 3 v3 rfl
 have b4 := blk_put (cs' := #[v0, v1, v2, v3, v4, a5, a6, a7, a8, a9]) b3 4 v4 rfl
 have b5 := blk_put (cs' := #[v0, v1, v2, v3, v4, v5, a6, a7, a8, a9]) b4 5 v5 rfl
 have b6 := blk_put (cs' := #[v0, v1, v2, v3, v4, v5, v6, a7, a8, a9]) b5 6 v6 rfl
 have b7 := blk_put (cs' := #[v0, v1, v2, v3, v4, v5, v6, v7, a8, a9]) b6 7 v7 rfl
 have b8 := blk_put (cs' := #[v0, v1, v2, v3, v4, v5, v6, v7, v8, a9]) b7 8 v8 rfl
 exact blk_put b8 9 v9 rfl
theorem below_set10 {g : Nat} {w W : World} {v0 v1 v2 v3 v4 v5 v6 v7 v8 v9 : Value} (h : Below w.heap.size w W) (hg : w.heap.size ≤ g) : Below w.heap.size w ((((((((((W.setCell ⟨g, 0, none⟩ v0).setCell ⟨g, 1, none⟩ v1).setCell ⟨g, 2, none⟩ v2).setCell ⟨g, 3, none⟩ v3).setCell ⟨g, 4, none⟩ v4).setCell ⟨g, 5, none⟩ v5).setCell ⟨g, 6, none⟩ v6).setCell ⟨g, 7, none⟩ v7).setCell ⟨g, 8, none⟩ v8).setCell ⟨g, 9, none⟩ v9) :=
 (below_set (below_set (below_set (below_set (below_set (below_set (below_set (below_set (below_set (below_set h hg) hg) hg) hg) hg) hg) hg) hg) hg) hg)
theorem size_set10 {W : World} {g : Nat} {v0 v1 v2 v3 v4 v5 v6 v7 v8 v9 : Value} : ((((((((((W.setCell ⟨g, 0, none⟩ v0).setCell ⟨g, 1, none⟩ v1).setCell ⟨g, 2, none⟩ v2).setCell ⟨g, 3, none⟩ v3).setCell ⟨g, 4, none⟩ v4).setCell ⟨g, 5, none⟩ v5).setCell ⟨g, 6, none⟩ v6).setCell ⟨g, 7, none⟩ v7).setCell ⟨g, 8, none⟩ v8).setCell ⟨g, 9, none⟩ v9).heap.size = W.heap.size := by simp [World.setCell]
theorem OPM.set10 {w0 W : World} {lo hi : Nat} {A2 A4 : Option Addr} {c2 c4 : Nat} {l2 l4 : List Int} (h : OPM w0 W lo hi A2 c2 l2 A4 c4 l4) {g : Nat} {t : TypeId} {a0 a1 a2 a3 a4 a5 a6 a7 a8 a9 v0 v1 v2 v3 v4 v5 v6 v7 v8 v9 : Value} (hg : W.heap[g]? = some (.cells #[a0, a1, a2, a3, a4, a5, a6, a7, a8, a9] t (0, 0))) (ht : t ≠ 5) : OPM w0 ((((((((((W.setCell ⟨g, 0, none⟩ v0).setCell ⟨g, 1, none⟩ v1).setCell ⟨g, 2, none⟩ v2).setCell ⟨g, 3, none⟩ v3).setCell ⟨g, 4, none⟩ v4).setCell ⟨g, 5, none⟩ v5).setCell ⟨g, 6, none⟩ v6).setCell ⟨g, 7, none⟩ v7).setCell ⟨g, 8, none⟩ v8).setCell ⟨g, 9, none⟩ v9) lo hi A2 c2 l2 A4 c4 l4 := by
 have b0 := blk_put (cs' := #[v0, a1, a2, a3, a4, a5, a6, a7, a8, a9]) hg 0 v0 rfl
 have b1 := blk_put (cs' := #[v0, v1, a2, a3, a4, a5, a6, a7, a8, a9]) b0 1 v1 rfl
 have b2 := blk_put (cs' := #[v0, v1, v2, a3, a4, a5, a6, a7, a8, a9]) b1 2 v2 rfl
 have b3 := blk_put (cs' := #[v0, v1, v2, v3, a4, a5, a6, a7, a8, a9]) b2 3 v3 rfl
 have b4 := blk_put (cs' := #[v0, v1, v2, v3, v4, a5, a6, a7, a8, a9]) b3 4 v4 rfl
 have b5 := blk_put (cs' := #[v0, v1, v2, v3, v4, v5, a6, a7, a8, a9]) b4 5 v5 rfl
 have b6 := blk_put (cs' := #[v0, v1, v2, v3, v4, v5, v6, a7, a8, a9]) b5 6 v6 rfl
 have b7 := blk_put (cs' := #[v0, v1, v2, v3, v4, v5, v6, v7, a8, a9]) b6 7 v7 rfl
 have b8 := blk_put (cs' := #[v0, v1, v2, v3, v4, v5, v6, v7, v8, a9]) b7 8 v8 rfl
 have o0 := h.other hg ht 0 v0
 have o1 := o0.other b0 ht 1 v1
 have o2 := o1.other b1 ht 2 v2
 have o3 := o2.other b2 ht 3 v3
 have o4 := o3.other b3 ht 4 v4
 have o5 := o4.other b4 ht 5 v5
 have o6 := o5.other b5 ht 6 v6
 have o7 := o6.other b6 ht 7 v7
 have o8 := o7.other b7 ht 8 v8
 exact o8.other b8 ht 9 v9
theorem cells10 {w : World} {g t : Nat} {v0 v1 v2 v3 v4 v5 v6 v7 v8 v9 : Value} (h : w.heap[g]? = some (.cells #[v0, v1, v2, v3, v4, v5, v6, v7, v8, v9] t (0, 0))) : w.cell? ⟨g, 0, none⟩ = some v0 ∧ w.cell? ⟨g, 1, none⟩ = some v1 ∧ w.cell? ⟨g, 2, none⟩ = some v2 ∧ w.cell? ⟨g, 3, none⟩ = some v3 ∧ w.cell? ⟨g, 4, none⟩ = some v4 ∧ w.cell? ⟨g, 5, none⟩ = some v5 ∧ w.cell? ⟨g, 6, none⟩ = some v6 ∧ w.cell? ⟨g, 7, none⟩ = some v7 ∧ w.cell? ⟨g, 8, none⟩ = some v8 ∧ w.cell? ⟨g, 9, none⟩ = some v9 :=
 ⟨(blk_cell h 0).trans rfl, (blk_cell h 1).trans rfl, (blk_cell h 2).trans rfl, (blk_cell h 3).trans rfl, (blk_cell h 4).trans rfl, (blk_cell h 5).trans rfl, (blk_cell h 6).trans rfl, (blk_cell h 7).trans rfl, (blk_cell h 8).trans rfl, (blk_cell h 9).trans rfl⟩
set_option maxHeartbeats 4000000 in
set_option maxRecDepth 100000 in
theorem impl_ParseCommand_ok (w0 : World) (A : Option Addr) (c : Nat) (l : List Int) (w : World) (hB0 : w0.heap.size ≤ w.heap.size) (h0 : Kd.C (Kd.int .u8) w A l.length l) (hc : l.length ≤ c) (hl : l.length ≤ 1048576) (hbr : ∀ x ∈ l, 0 ≤ x ∧ x < 256) :
  Calls Tryd.prog 32 #[.slice A l.length c] w fun r w' => ∃ A2 d2 A4 d4, r = .returned (.tuple #[.agg #[.int .i64 (ansI l).1.kd, .int .i64 (ansI l).1.ok, .int .u64 (ansI l).1.s, .slice A2 (ansI l).1.p.length d2, .int .i64 (ansI l).1.f, .slice A4 (ansI l).1.v.length d4, .int .u64 (ansI l).1.e, .int .u64 (ansI l).1.g, .int .i64 (ansI l).1.n, .int .i64 (ansI l).1.m], .int .i64 (ansI l).2]) ∧ OPM w0 w' w.heap.size w'.heap.size A2 d2 (ansI l).1.p A4 d4 (ansI l).1.v ∧ Below w.heap.size w w' := by
 have HBR := Aside0.mk hbr
 have HB0 := Aside0.mk hB0
 have HWF := Aside0.mk (wdsG_facts l [] (by simp) hbr)
 have HWC := Aside0.mk (wds_count l)
 have hcv := Kd.C_string (P := Tryd.prog) (A := A) (c := c) Tryd.underlying22 Tryd.underlying5 Tryd.underlying9 (Kd.C_below h0 (below_alloc (Below.refl w.heap.size w) (.cells #[.int .i64 0, .int .i64 0, .int .u64 0, .slice none 0 0, .int .i64 0, .slice none 0 0, .int .u64 0, .int .u64 0, .int .i64 0, .int .i64 0] 52)))
 clear hbr hB0 h0 hc
 go_enter Tryd.func32, Tryd.ntmps32
 go_upto_region 1 with (fail)
 have BZ := Aside0.mk (blk_new w (.cells #[.int .i64 0, .int .i64 0, .int .u64 0, .slice none 0 0, .int .i64 0, .slice none 0 0, .int .u64 0, .int .u64 0, .int .i64 0, .int .i64 0] 52))
 have HB := Aside0.mk (below_alloc (Below.refl w.heap.size w) (.cells #[.int .i64 0, .int .i64 0, .int .u64 0, .slice none 0 0, .int .i64 0, .slice none 0 0, .int .u64 0, .int .u64 0, .int .i64 0, .int .i64 0] 52))
 generalize w.alloc (.cells #[.int .i64 0, .int .i64 0, .int .u64 0, .slice none 0 0, .int .i64 0, .slice none 0 0, .int .u64 0, .int .u64 0, .int .i64 0, .int .i64 0] 52) = W1 at *
 go_wp2_with fail
 refine (splitS_calls l HBR.out (by omega) W1).mono ?_
 rintro e w2 ⟨rfl, rfl⟩
 clear hcv
 have hpl := splG_len l []
 have hfw := splG_wds l []
 have hdel := del_calls W1 (splG [] l) W1.heap.size _ (blk_new W1 (.cells ((splG [] l).map encS).toArray 9)) (below_alloc (Below.refl W1.heap.size W1) _) (Nat.le_refl _) (by omega)
 rw [hfw] at hdel
 change Calls Tryd.prog 78 #[.slice (some ⟨W1.heap.size, 0, none⟩) (splG [] l).length (splG [] l).length, .func (.func 80) #[] #[]] _ (fun e w' => e = .returned (.slice (some ⟨W1.heap.size, 0, none⟩) (wds l).length (splG [] l).length) ∧ SRow w' ⟨W1.heap.size, 0, none⟩ (wds l) ∧ Below W1.heap.size W1 w') at hdel
 have hwp : (wds l).length ≤ (splG [] l).length := by
  show (wdsG [] l).length ≤ _
  rw [← hfw]
  exact List.length_filter_le _ _
 obtain ⟨n, hn⟩ : ∃ n, (splG [] l).length = n := ⟨_, rfl⟩
 rw [hn] at hdel hwp hpl ⊢
 have HDEL := Aside0.mk hdel
 have HN := Aside0.mk (And.intro hwp hpl)
 clear hdel hfw hn hwp hpl
 generalize W1.alloc (.cells ((splG [] l).map encS).toArray 9) = W2 at *
 have HA := Aside0.mk (show ansI l = ofO (cmdI (wds l)) from rfl)
 have HWF2 := Aside0.mk (show ∀ q ∈ wds l, (∀ x ∈ q, 0 ≤ x ∧ x < 256) ∧ q.length ≤ 0 + l.length ∧ 1 ≤ q.length from HWF.out)
 clear HWF
 go_wp2_with fail
 refine HDEL.out.mono ?_
 rintro e w3 ⟨rfl, hS, hb⟩
 clear HDEL
 replace BZ := Aside0.mk (blk_below BZ.out hb)
 replace HB := Aside0.mk (below_step HB.out hb)
 have HS := Aside0.mk hS
 obtain ⟨B, hB⟩ : ∃ B, W1.heap.size = B := ⟨_, rfl⟩
 rw [hB] at HS ⊢
 clear hb hS hB
 obtain ⟨ws, hws⟩ : ∃ ws, wds l = ws := ⟨_, rfl⟩
 rw [hws] at HS HA HWF2 HN HWC ⊢
 clear hws
 cases ws with
 | nil =>
  have HE := Aside0.mk (show ansI l = (zCmd, 2) from HA.out)
  obtain ⟨z0, z1, z2, z3, z4, z5, z6, z7, z8, z9⟩ := cells10 BZ.out
  have y0 := blk_frozen BZ.out 0
  have y1 := blk_frozen BZ.out 1
  have y2 := blk_frozen BZ.out 2
  have y3 := blk_frozen BZ.out 3
  have y4 := blk_frozen BZ.out 4
  have y5 := blk_frozen BZ.out 5
  have y6 := blk_frozen BZ.out 6
  have y7 := blk_frozen BZ.out 7
  have y8 := blk_frozen BZ.out 8
  have y9 := blk_frozen BZ.out 9
  go_wp2_with fail
  refine bodyPost_ret (results_ct rfl _ _ w.heap.size 52 #[.int .i64 0, .int .i64 0, .int .u64 0, .slice none 0 0, .int .i64 0, .slice none 0 0, .int .u64 0, .int .u64 0, .int .i64 0, .int .i64 0] (0, 0) _ rfl (blk_set10 BZ.out) Tryd.underlying52 rfl (by kernel_rfl)) rfl ?_
  rw [HE.out]
  exact ⟨none, 0, none, 0, rfl, OPM.nil HB0.out, below_set10 HB.out (Nat.le_refl _)⟩
 | cons w00 r =>
  rw [show (w00 :: r).length = r.length + 1 from rfl] at HN ⊢
  have e1 : ((r.length : Int) + 1 == 0) = false := beq_eq_false_iff_ne.2 (by omega)
  have e2 : ¬ ((r.length : Int) + 1 = 0) := by omega
  go_upto_region 6 with (fail)
  clear e1 e2
  have bn := blk_new w3 (.cells #[] 3)
  have HR := Aside0.mk (show Kd.R (Kd.int .i64) 3 (w3.alloc (.cells #[] 3)) w3.heap.size (fun _ => True) (.slice (some ⟨w3.heap.size, 0, none⟩) 0 0) [] from ⟨fun _ _ => trivial, [], ⟨by simp, Or.inr ⟨w3.heap.size, 0, #[], rfl, Nat.le_refl _, bn, Nat.le_refl _, Nat.zero_le _, by simp, by simp⟩⟩, ⟨by simp, fun j p hj => by simp at hj⟩⟩)
  have HB3 := Aside0.mk (below_alloc (Below.refl w3.heap.size w3) (.cells #[] 3))
  clear bn
  generalize w3.alloc (.cells #[] 3) = W4 at *
  go_cut [26, 27, 28] from 25 to 28 (fun v26 v27 v28 wx => ∃ (ad1 : Addr) (c1 : Nat), v26 = .slice (some ad1) r.length c1 ∧ v27 = .int .i64 r.length ∧ v28 = .int .i64 0 ∧ wx = W4 ∧ Aside0 (SRow w3 ad1 r))
  case first =>
   by_cases hcap : n = 1
   ·
    subst hcap
    have hr0 : r.length = 0 := by have := HN.out; omega
    go_wp2_with fail
    go_meet
    refine ⟨⟨B, 0, none⟩, 0, by rw [hr0], by first | rfl | rw [hr0]; rfl, rfl, rfl, ⟨fun j hj => by omega⟩⟩
   have c1 : (1 : Int) ≤ (n : Int) := by have := HN.out; omega
   go_wp2_with fail
   go_meet
   refine ⟨⟨B, 1, none⟩, n - 1, by first | rfl | simp, by first | rfl | simp, rfl, rfl, ⟨fun j hj => ?_⟩⟩
   have := HS.out (j + 1) (by simp; omega)
   rw [show (⟨B, 1, none⟩ : Addr).add j = (⟨B, 0, none⟩ : Addr).add (j + 1) from by unfold Addr.add; by_cases h : j = 0 <;> simp [h]; try omega]
   simpa using this
  case rest =>
   obtain ⟨ad1, c1, rfl, rfl, rfl, hww, HS1⟩ := hcut
   obtain rfl : W4 = wc := hww.symm
   clear hww
   have HL := Aside0.mk (show r.length ≤ 1048577 by have := HN.out; omega)
   go_wp2_with fail
   go_loopg [5, 6, 28] (r.length + 1) (fun kq v5 v6 v28 w' => ∃ (i : Nat), v6 = .bool ((r.take i).all fun x => cntB x 1000000) ∧ v28 = .int .i64 i ∧ Aside0 (kq + i = r.length + 1 ∧ i ≤ r.length) ∧ Aside0 (Kd.R (Kd.int .i64) 3 w' w3.heap.size (fun _ => True) v5 ((r.take i).map tkI)) ∧ Aside0 (Below w3.heap.size w3 w'))
   case atStart => exact ⟨0, by simp, rfl, ⟨⟨by omega, Nat.zero_le _⟩⟩, ⟨by rw [List.take_zero]; exact HR.out⟩, HB3⟩
   case round =>
    clear HR HB3
    obtain ⟨i, rfl, rfl, HJ, HR, HB3⟩ := hrel
    have hj0 := HJ.out
    by_cases hi : i < r.length
    ·
     obtain ⟨gk1, rfl⟩ : ∃ k1, gk = k1 + 1 := ⟨gk - 1, by omega⟩
     have c1 : decide ((i : Int) < (r.length : Int)) = true := decide_eq_true (by omega)
     have c2 : decide (i < r.length) = true := decide_eq_true hi
     have ci : (0 : Int) ≤ (i : Int) := by omega
     have ci2 : (i : Int) < (r.length : Int) := by omega
     have ci3 : (i : Int) ≤ 2000000 := by have := HL.out; omega
     have x0 := (HS1.out.below HB3.out) i hi
     have e3 : r.getD i [] = r[i] := by rw [List.getD_eq_getElem?_getD, List.getElem?_eq_getElem hi]; rfl
     have hxq := HWF2.out r[i] (List.mem_cons_of_mem _ (List.getElem_mem hi))
     have ht1 : (r.take (i + 1)).map tkI = (r.take i).map tkI ++ [tkI r[i]] := by rw [List.take_succ_eq_append_getElem hi, List.map_append]; rfl
     have ht2 : ((r.take (i + 1)).all fun x => cntB x 1000000) = (((r.take i).all fun x => cntB x 1000000) && cntB r[i] 1000000) := by rw [List.take_succ_eq_append_getElem hi, List.all_append]; simp
     have hlen : ((r.take i).map tkI).length ≤ 1048577 := by rw [List.length_map, List.length_take]; have := HL.out; omega
     rw [e3] at x0
     have HC := Aside0.mk (fun W => ticks_calls r[i] hxq.1 (by have := hxq.2.1; omega) W)
     generalize r[i] = x at *
     generalize (r.take i).map tkI = ns at *
     generalize ((r.take i).all fun x => cntB x 1000000) = gb at *
     have HT := Aside0.mk (And.intro ht1 ht2)
     have HLE := Aside0.mk hlen
     have HB4 := HB3
     have HR4 := HR
     clear ht1 ht2 hlen HB3 HR hj0
     go_wp2_with fail
     refine (HC.out wr).mono ?_
     rintro e w5 ⟨rfl, hb⟩
     have HR5 := Aside0.mk (Kd.R_below HR4.out hb)
     have HB5 := Aside0.mk (below_step HB4.out hb)
     clear hb HC x0 HR4 HB4
     generalize cntB x 1000000 = okx at *
     generalize tkI x = tv at *
     cases gb with
     | true =>
      go_wp2_with (first | ((with_reducible refine gate_builtin (b := .append) (xs := #[.tmp 37, .tmp 39]) rfl ?_); at_builtin; refine Kd.R_append (Kd.int .i64) (w0 := w3) w3.heap.size rfl (.tmp 37) (.tmp 39) 116 3 (.int .i64 0) 8 rfl Tryd.underlying116 (by kernel_rfl) rfl (by decide) (by omega) u5 ns tv [.int .i64 tv] (fun _ => True) (fun _ => False) rfl rfl ?aP (fun _ hk => hk.elim) ?aF ?aO ?aB ?aS ?aL ?_; (case aP => exact rfl); (case aB => exact HB5.out); (case aF => exact (fun _ _ => trivial)); (case aO => exact HR5.out); (case aS => exact HB5.out.size); (case aL => have := HLE.out; omega); intro v5 w6 ho hb hg hat; have HB6 := Aside0.mk hb; have HR6 := Aside0.mk ho; clear ho hb hg hat))
      go_roundg gk1
      case measure => have := HJ.out; omega
      case rel => exact ⟨i + 1, by rw [HT.out.2]; simp, by go_num, ⟨by have := HJ.out; omega⟩, ⟨by rw [HT.out.1]; exact HR6.out⟩, HB6⟩
     | false =>
      go_wp2_with (first | ((with_reducible refine gate_builtin (b := .append) (xs := #[.tmp 37, .tmp 39]) rfl ?_); at_builtin; refine Kd.R_append (Kd.int .i64) (w0 := w3) w3.heap.size rfl (.tmp 37) (.tmp 39) 116 3 (.int .i64 0) 8 rfl Tryd.underlying116 (by kernel_rfl) rfl (by decide) (by omega) u5 ns tv [.int .i64 tv] (fun _ => True) (fun _ => False) rfl rfl ?aP (fun _ hk => hk.elim) ?aF ?aO ?aB ?aS ?aL ?_; (case aP => exact rfl); (case aB => exact HB5.out); (case aF => exact (fun _ _ => trivial)); (case aO => exact HR5.out); (case aS => exact HB5.out.size); (case aL => have := HLE.out; omega); intro v5 w6 ho hb hg hat; have HB6 := Aside0.mk hb; have HR6 := Aside0.mk ho; clear ho hb hg hat))
      go_roundg gk1
      case measure => have := HJ.out; omega
      case rel => exact ⟨i + 1, by rw [HT.out.2]; simp, by go_num, ⟨by have := HJ.out; omega⟩, ⟨by rw [HT.out.1]; exact HR6.out⟩, HB6⟩
    obtain rfl : i = r.length := by omega
    have c1 : decide ((r.length : Int) < (r.length : Int)) = false := decide_eq_false (by omega)
    have c2 : decide (r.length < r.length) = false := decide_eq_false (by omega)
    rw [List.take_length] at HR
    rw [List.take_length]
    obtain ⟨A5, c5, rfl⟩ := Kd.R_slice HR.out
    rw [show (r.all fun x => cntB x 1000000) = gdB r from rfl, List.length_map]
    have hmm := @run_makeMap Tryd.prog
    have HK := Aside0.mk (KM.new (Below.refl wr.heap.size wr))
    have hrn := HL.out
    clear hi hj0 HJ
    go_upto_region 14 with (refine wpList_insertS (w := wr) rfl 118 9 3 (.tmp 46) _ _ rfl Tryd.underlying118 Tryd.underlying9 rfl HK.out (by kernel_rfl) _ rfl ?_; intro W' h'; have n_ := Aside0.mk h'; clear HK h'; have HK := n_; clear n_)
    have HKB := Aside0.mk (show Below wr.heap.size wr W' from HK.out.be)
    have hlk := bare_look (show KM _ _ _ bareL from HK.out) w00 (HWF2.out w00 (by simp)).1
    have HBW := Aside0.mk (show Below w3.heap.size w3 W' from below_step HB3.out HK.out.be)
    have hx0 : W'.cell? ⟨B, 0, none⟩ = some (.string (strOfNums w00)) := by
     have := (HS.out.below HBW.out) 0 (by simp)
     simpa [Addr.add] using this
    clear hmm HK c1 c2
    go_upto_block 2 with (fail)
    have hC := Kd.C_below (Kd.C_below (Kd.R_reads' HR.out).2.2 (Below.refl _ _)) HKB.out
    have hq0 := (HWF2.out w00 (by simp)).1
    have iT := key_eq (key := kTick) hq0 (by decide) (L := [116, 105, 99, 107]) rfl
    have iC := key_eq (key := kCrash) hq0 (by decide) (L := [99, 114, 97, 115, 104]) rfl
    have iS := key_eq (key := kSnapcrash) hq0 (by decide) (L := [115, 110, 97, 112, 99, 114, 97, 115, 104]) rfl
    have HI := Aside0.mk (And.intro iT (And.intro iC iS))
    have HCN := Aside0.mk hC
    have BZ := Aside0.mk (blk_below BZ.out HBW.out)
    have HBB := Aside0.mk (below_step HB.out HBW.out)
    have HQ0 := Aside0.mk hq0
    clear hC iT iC iS HR HB3 HB hq0 hrn hlk
    obtain ⟨gd, hgd⟩ : ∃ gd, gdB r = gd := ⟨_, rfl⟩
    obtain ⟨isb, hisb⟩ : ∃ isb, (bareF w00).isSome = isb := ⟨_, rfl⟩
    rw [hgd, hisb]
    have HGD := Aside0.mk (And.intro hgd hisb)
    clear hgd hisb
    go_cut [] from 56 to 143 (fun wx => wx = W' ∧ Aside0 (cmdI (w00 :: r) = opF w00 r))
    case first =>
     obtain ⟨iT, iC, iS⟩ := HI.out
     by_cases kT : w00 = kTick
     ·
      have t1 := iT.2 kT
      have t2 : ¬ (strOfNums w00).toList = [99, 114, 97, 115, 104] := fun e => kT1 (kT.symm.trans (iC.1 e))
      have t3 : ¬ (strOfNums w00).toList = [115, 110, 97, 112, 99, 114, 97, 115, 104] := fun e => kT2 (kT.symm.trans (iS.1 e))
      have e0 : isb = false := by rw [← HGD.out.2, kT]; rfl
      subst e0
      have NC := Aside0.mk (show ¬ w00 = kCrash from fun e => kT1 (kT.symm.trans e))
      have NS := Aside0.mk (show ¬ w00 = kSnapcrash from fun e => kT2 (kT.symm.trans e))
      have NB := Aside0.mk (show ¬ (bareF w00).isSome = true by rw [HGD.out.2]; decide)
      have KT := Aside0.mk kT
      clear iT iC iS kT
      by_cases l1 : r.length = 1
      ·
       have L1 := Aside0.mk l1
       have f2 : ((r.length : Int) + 1 == 2) = true := by rw [beq_iff_eq]; omega
       cases gd with
       | true =>
        obtain ⟨adN, rfl, hN⟩ := num_cells HCN.out (by omega)
        have hg := HGD.out.1
        have n0 : W'.cell? adN = some (.int .i64 (tkI (r.getD 0 []))) := by have := hN 0 (by omega); simpa only [Addr.add, if_true] using this
        have i0 : (0 : Int) < (r.length : Int) := by omega
        have i1 : 0 < r.length := by omega
        have s0 := tk_small (gd_at hg 0 (by omega))
        rw [s0.1] at n0
        obtain ⟨p0, hp0⟩ : ∃ p, tkV (r.getD 0 []) = p := ⟨_, rfl⟩
        rw [hp0] at n0
        have HP0 := Aside0.mk hp0
        have HG := Aside0.mk hg
        clear hN s0 hp0 hg
        clear l1
        have HE := Aside0.mk (show ansI l = ((⟨1, 0, 0, [], 0, [], 0, 0, p0, 0⟩ : Cmd), 0) from by rw [HA.out, cmdI_cons, if_neg (fun h => NB.out h.1), if_pos ⟨KT.out, L1.out, HG.out⟩, HP0.out]; rfl)
        obtain ⟨z0, z1, z2, z3, z4, z5, z6, z7, z8, z9⟩ := cells10 BZ.out
        have y0 := blk_frozen BZ.out 0
        have y1 := blk_frozen BZ.out 1
        have y2 := blk_frozen BZ.out 2
        have y3 := blk_frozen BZ.out 3
        have y4 := blk_frozen BZ.out 4
        have y5 := blk_frozen BZ.out 5
        have y6 := blk_frozen BZ.out 6
        have y7 := blk_frozen BZ.out 7
        have y8 := blk_frozen BZ.out 8
        have y9 := blk_frozen BZ.out 9
        go_wp2_with fail
        refine bodyPost_ret (results_ct rfl _ _ w.heap.size 52 #[.int .i64 1, .int .i64 0, .int .u64 0, .slice none 0 0, .int .i64 0, .slice none 0 0, .int .u64 0, .int .u64 0, .int .i64 p0, .int .i64 0] (0, 0) _ rfl (blk_set10 BZ.out) Tryd.underlying52 rfl (by kernel_rfl)) rfl ?_
        rw [HE.out]
        exact ⟨none, 0, none, 0, rfl, OPM.nil HB0.out, below_set10 HBB.out (Nat.le_refl _)⟩
       | false =>
        clear l1
        go_wp2_with fail
        go_meet
        exact ⟨rfl, ⟨cmdI_op (fun h => NB.out h.1) (fun h => absurd (HGD.out.1.symm.trans h.2.2) (by decide)) (fun h => NC.out h.1) (fun h => NC.out h.1) (fun h => NS.out h.1)⟩⟩
      have L1 := Aside0.mk l1
      have f2 : ((r.length : Int) + 1 == 2) = false := beq_eq_false_iff_ne.2 (by omega)
      clear l1
      go_wp2_with fail
      go_meet
      exact ⟨rfl, ⟨cmdI_op (fun h => NB.out h.1) (fun h => L1.out h.2.1) (fun h => NC.out h.1) (fun h => NC.out h.1) (fun h => NS.out h.1)⟩⟩
     have t1 : ¬ (strOfNums w00).toList = [116, 105, 99, 107] := fun e => kT (iT.1 e)
     have NT := Aside0.mk kT
     clear kT
     by_cases kC : w00 = kCrash
     ·
      have t2 := iC.2 kC
      have t3 : ¬ (strOfNums w00).toList = [115, 110, 97, 112, 99, 114, 97, 115, 104] := fun e => kC2 (kC.symm.trans (iS.1 e))
      have e0 : isb = false := by rw [← HGD.out.2, kC]; rfl
      subst e0
      have NS := Aside0.mk (show ¬ w00 = kSnapcrash from fun e => kC2 (kC.symm.trans e))
      have NB := Aside0.mk (show ¬ (bareF w00).isSome = true by rw [HGD.out.2]; decide)
      have KC := Aside0.mk kC
      clear iT iC iS kC
      by_cases l1 : r.length = 1
      ·
       have L1 := Aside0.mk l1
       have f2 : ((r.length : Int) + 1 == 2) = true := by rw [beq_iff_eq]; omega
       have f3 : ((r.length : Int) + 1 == 3) = false := beq_eq_false_iff_ne.2 (by omega)
       cases gd with
       | true =>
        obtain ⟨adN, rfl, hN⟩ := num_cells HCN.out (by omega)
        have hg := HGD.out.1
        have n0 : W'.cell? adN = some (.int .i64 (tkI (r.getD 0 []))) := by have := hN 0 (by omega); simpa only [Addr.add, if_true] using this
        have i0 : (0 : Int) < (r.length : Int) := by omega
        have i1 : 0 < r.length := by omega
        have s0 := tk_small (gd_at hg 0 (by omega))
        rw [s0.1] at n0
        obtain ⟨p0, hp0⟩ : ∃ p, tkV (r.getD 0 []) = p := ⟨_, rfl⟩
        rw [hp0] at n0
        have HP0 := Aside0.mk hp0
        have HG := Aside0.mk hg
        clear hN s0 hp0 hg
        clear l1
        have HE := Aside0.mk (show ansI l = ((⟨5, 0, 0, [], 0, [], 0, 0, p0, 5⟩ : Cmd), 0) from by rw [HA.out, cmdI_cons, if_neg (fun h => NB.out h.1), if_neg (fun h => NT.out h.1), if_pos ⟨KC.out, L1.out, HG.out⟩, HP0.out]; rfl)
        obtain ⟨z0, z1, z2, z3, z4, z5, z6, z7, z8, z9⟩ := cells10 BZ.out
        have y0 := blk_frozen BZ.out 0
        have y1 := blk_frozen BZ.out 1
        have y2 := blk_frozen BZ.out 2
        have y3 := blk_frozen BZ.out 3
        have y4 := blk_frozen BZ.out 4
        have y5 := blk_frozen BZ.out 5
        have y6 := blk_frozen BZ.out 6
        have y7 := blk_frozen BZ.out 7
        have y8 := blk_frozen BZ.out 8
        have y9 := blk_frozen BZ.out 9
        go_wp2_with fail
        refine bodyPost_ret (results_ct rfl _ _ w.heap.size 52 #[.int .i64 5, .int .i64 0, .int .u64 0, .slice none 0 0, .int .i64 0, .slice none 0 0, .int .u64 0, .int .u64 0, .int .i64 p0, .int .i64 5] (0, 0) _ rfl (blk_set10 BZ.out) Tryd.underlying52 rfl (by kernel_rfl)) rfl ?_
        rw [HE.out]
        exact ⟨none, 0, none, 0, rfl, OPM.nil HB0.out, below_set10 HBB.out (Nat.le_refl _)⟩
       | false =>
        clear l1
        go_wp2_with fail
        go_meet
        exact ⟨rfl, ⟨cmdI_op (fun h => NB.out h.1) (fun h => NT.out h.1) (fun h => absurd (HGD.out.1.symm.trans h.2.2) (by decide)) (fun h => absurd h.2.1 (by have := L1.out; omega)) (fun h => NS.out h.1)⟩⟩
      have L1 := Aside0.mk l1
      have f2 : ((r.length : Int) + 1 == 2) = false := beq_eq_false_iff_ne.2 (by omega)
      by_cases l2 : r.length = 2
      ·
       have L2 := Aside0.mk l2
       have f3 : ((r.length : Int) + 1 == 3) = true := by rw [beq_iff_eq]; omega
       cases gd with
       | true =>
        obtain ⟨adN, rfl, hN⟩ := num_cells HCN.out (by omega)
        have hg := HGD.out.1
        have n0 : W'.cell? adN = some (.int .i64 (tkI (r.getD 0 []))) := by have := hN 0 (by omega); simpa only [Addr.add, if_true] using this
        have n1 : W'.cell? ⟨adN.block, adN.off + 1, none⟩ = some (.int .i64 (tkI (r.getD 1 []))) := by have := hN 1 (by omega); simpa only [Addr.add, if_neg (show ¬ (1 : Nat) = 0 by decide)] using this
        have i0 : (0 : Int) < (r.length : Int) := by omega
        have i1 : 0 < r.length := by omega
        have i2 : (1 : Int) < (r.length : Int) := by omega
        have i3 : 1 < r.length := by omega
        have s0 := tk_small (gd_at hg 0 (by omega))
        rw [s0.1] at n0
        obtain ⟨p0, hp0⟩ : ∃ p, tkV (r.getD 0 []) = p := ⟨_, rfl⟩
        rw [hp0] at n0
        have HP0 := Aside0.mk hp0
        have s1 := tk_small (gd_at hg 1 (by omega))
        rw [s1.1] at n1
        obtain ⟨p1, hp1⟩ : ∃ p, tkV (r.getD 1 []) = p := ⟨_, rfl⟩
        rw [hp1] at n1
        have HP1 := Aside0.mk hp1
        clear s1 hp1
        have HG := Aside0.mk hg
        clear hN s0 hp0 hg
        clear l1 l2
        by_cases m5 : p1 < 5
        ·
         have d5 : decide (p1 < 5) = true := decide_eq_true m5
         have HM5 := Aside0.mk m5
         clear m5
         have HE := Aside0.mk (show ansI l = ((⟨5, 0, 0, [], 0, [], 0, 0, p0, p1⟩ : Cmd), 0) from by rw [HA.out, cmdI_cons, if_neg (fun h => NB.out h.1), if_neg (fun h => NT.out h.1), if_neg (fun h => L1.out h.2.1), if_pos ⟨KC.out, L2.out, HG.out, by rw [HP1.out]; exact HM5.out⟩, HP0.out, HP1.out]; rfl)
         obtain ⟨z0, z1, z2, z3, z4, z5, z6, z7, z8, z9⟩ := cells10 BZ.out
         have y0 := blk_frozen BZ.out 0
         have y1 := blk_frozen BZ.out 1
         have y2 := blk_frozen BZ.out 2
         have y3 := blk_frozen BZ.out 3
         have y4 := blk_frozen BZ.out 4
         have y5 := blk_frozen BZ.out 5
         have y6 := blk_frozen BZ.out 6
         have y7 := blk_frozen BZ.out 7
         have y8 := blk_frozen BZ.out 8
         have y9 := blk_frozen BZ.out 9
         go_wp2_with fail
         go_big_region
         go_wp2_with fail
         refine bodyPost_ret (results_ct rfl _ _ w.heap.size 52 #[.int .i64 5, .int .i64 0, .int .u64 0, .slice none 0 0, .int .i64 0, .slice none 0 0, .int .u64 0, .int .u64 0, .int .i64 p0, .int .i64 p1] (0, 0) _ rfl (blk_drew (blk_set10 BZ.out)) Tryd.underlying52 rfl (by kernel_rfl)) rfl ?_
         rw [HE.out]
         exact ⟨none, 0, none, 0, rfl, OPM.nil HB0.out, below_drew1 (below_set10 HBB.out (Nat.le_refl _))⟩
        have d5 : decide (p1 < 5) = false := decide_eq_false m5
        have HM5 := Aside0.mk m5
        clear m5
        go_wp2_with fail
        go_meet
        exact ⟨rfl, ⟨cmdI_op (fun h => NB.out h.1) (fun h => NT.out h.1) (fun h => L1.out h.2.1) (fun h => by have h1 := h.2.2.2; rw [HP1.out] at h1; have h2 := HM5.out; omega) (fun h => NS.out h.1)⟩⟩
       | false =>
        clear l1 l2
        go_wp2_with fail
        go_meet
        exact ⟨rfl, ⟨cmdI_op (fun h => NB.out h.1) (fun h => NT.out h.1) (fun h => L1.out h.2.1) (fun h => absurd (HGD.out.1.symm.trans h.2.2.1) (by decide)) (fun h => NS.out h.1)⟩⟩
      have L2 := Aside0.mk l2
      have f3 : ((r.length : Int) + 1 == 3) = false := beq_eq_false_iff_ne.2 (by omega)
      clear l1 l2
      go_wp2_with fail
      go_meet
      exact ⟨rfl, ⟨cmdI_op (fun h => NB.out h.1) (fun h => NT.out h.1) (fun h => L1.out h.2.1) (fun h => L2.out h.2.1) (fun h => NS.out h.1)⟩⟩
     have t2 : ¬ (strOfNums w00).toList = [99, 114, 97, 115, 104] := fun e => kC (iC.1 e)
     have NC := Aside0.mk kC
     clear kC
     by_cases kS : w00 = kSnapcrash
     ·
      have t3 := iS.2 kS
      have e0 : isb = false := by rw [← HGD.out.2, kS]; rfl
      subst e0
      have NB := Aside0.mk (show ¬ (bareF w00).isSome = true by rw [HGD.out.2]; decide)
      have KS := Aside0.mk kS
      clear iT iC iS kS
      by_cases l2 : r.length = 2
      ·
       have L2 := Aside0.mk l2
       have f3 : ((r.length : Int) + 1 == 3) = true := by rw [beq_iff_eq]; omega
       cases gd with
       | true =>
        obtain ⟨adN, rfl, hN⟩ := num_cells HCN.out (by omega)
        have hg := HGD.out.1
        have n0 : W'.cell? adN = some (.int .i64 (tkI (r.getD 0 []))) := by have := hN 0 (by omega); simpa only [Addr.add, if_true] using this
        have n1 : W'.cell? ⟨adN.block, adN.off + 1, none⟩ = some (.int .i64 (tkI (r.getD 1 []))) := by have := hN 1 (by omega); simpa only [Addr.add, if_neg (show ¬ (1 : Nat) = 0 by decide)] using this
        have i0 : (0 : Int) < (r.length : Int) := by omega
        have i1 : 0 < r.length := by omega
        have i2 : (1 : Int) < (r.length : Int) := by omega
        have i3 : 1 < r.length := by omega
        have s0 := tk_small (gd_at hg 0 (by omega))
        rw [s0.1] at n0
        obtain ⟨p0, hp0⟩ : ∃ p, tkV (r.getD 0 []) = p := ⟨_, rfl⟩
        rw [hp0] at n0
        have HP0 := Aside0.mk hp0
        have s1 := tk_small (gd_at hg 1 (by omega))
        rw [s1.1] at n1
        obtain ⟨p1, hp1⟩ : ∃ p, tkV (r.getD 1 []) = p := ⟨_, rfl⟩
        rw [hp1] at n1
        have HP1 := Aside0.mk hp1
        clear s1 hp1
        have HG := Aside0.mk hg
        clear hN s0 hp0 hg
        clear l2
        by_cases m5 : p0 ≤ 5
        ·
         have d5 : decide (p0 ≤ 5) = true := decide_eq_true m5
         have HM5 := Aside0.mk m5
         clear m5
         have HE := Aside0.mk (show ansI l = ((⟨6, 0, 0, [], 0, [], 0, 0, p0, p1⟩ : Cmd), 0) from by rw [HA.out, cmdI_cons, if_neg (fun h => NB.out h.1), if_neg (fun h => NT.out h.1), if_neg (fun h => NC.out h.1), if_neg (fun h => NC.out h.1), if_pos ⟨KS.out, L2.out, HG.out, by rw [HP0.out]; exact HM5.out⟩, HP0.out, HP1.out]; rfl)
         obtain ⟨z0, z1, z2, z3, z4, z5, z6, z7, z8, z9⟩ := cells10 BZ.out
         have y0 := blk_frozen BZ.out 0
         have y1 := blk_frozen BZ.out 1
         have y2 := blk_frozen BZ.out 2
         have y3 := blk_frozen BZ.out 3
         have y4 := blk_frozen BZ.out 4
         have y5 := blk_frozen BZ.out 5
         have y6 := blk_frozen BZ.out 6
         have y7 := blk_frozen BZ.out 7
         have y8 := blk_frozen BZ.out 8
         have y9 := blk_frozen BZ.out 9
         go_wp2_with fail
         go_big_region
         go_wp2_with fail
         refine bodyPost_ret (results_ct rfl _ _ w.heap.size 52 #[.int .i64 6, .int .i64 0, .int .u64 0, .slice none 0 0, .int .i64 0, .slice none 0 0, .int .u64 0, .int .u64 0, .int .i64 p0, .int .i64 p1] (0, 0) _ rfl (blk_drew (blk_set10 BZ.out)) Tryd.underlying52 rfl (by kernel_rfl)) rfl ?_
         rw [HE.out]
         exact ⟨none, 0, none, 0, rfl, OPM.nil HB0.out, below_drew1 (below_set10 HBB.out (Nat.le_refl _))⟩
        have d5 : decide (p0 ≤ 5) = false := decide_eq_false m5
        have HM5 := Aside0.mk m5
        clear m5
        go_wp2_with fail
        go_meet
        exact ⟨rfl, ⟨cmdI_op (fun h => NB.out h.1) (fun h => NT.out h.1) (fun h => NC.out h.1) (fun h => NC.out h.1) (fun h => by have h1 := h.2.2.2; rw [HP0.out] at h1; have h2 := HM5.out; omega)⟩⟩
       | false =>
        clear l2
        go_wp2_with fail
        go_meet
        exact ⟨rfl, ⟨cmdI_op (fun h => NB.out h.1) (fun h => NT.out h.1) (fun h => NC.out h.1) (fun h => NC.out h.1) (fun h => absurd (HGD.out.1.symm.trans h.2.2.1) (by decide))⟩⟩
      have L2 := Aside0.mk l2
      have f3 : ((r.length : Int) + 1 == 3) = false := beq_eq_false_iff_ne.2 (by omega)
      clear l2
      go_wp2_with fail
      go_meet
      exact ⟨rfl, ⟨cmdI_op (fun h => NB.out h.1) (fun h => NT.out h.1) (fun h => NC.out h.1) (fun h => NC.out h.1) (fun h => L2.out h.2.1)⟩⟩
     have t3 : ¬ (strOfNums w00).toList = [115, 110, 97, 112, 99, 114, 97, 115, 104] := fun e => kS (iS.1 e)
     have NS := Aside0.mk kS
     clear iT iC iS kS
     cases isb with
     | true =>
      by_cases l0 : r.length = 0
      ·
       have HQ := Aside0.mk (And.intro HGD.out.2 l0)
       have f1 : ((r.length : Int) + 1 == 1) = true := by rw [beq_iff_eq]; omega
       obtain ⟨bk, hbk⟩ : ∃ bk, (bareF w00).getD 0 = bk := ⟨_, rfl⟩
       rw [hbk]
       have HBK := Aside0.mk hbk
       clear l0 hbk
       have HE := Aside0.mk (show ansI l = ((⟨bk, 0, 0, [], 0, [], 0, 0, 0, 0⟩ : Cmd), 0) from by rw [HA.out, cmdI_cons, if_pos HQ.out, HBK.out]; rfl)
       obtain ⟨z0, z1, z2, z3, z4, z5, z6, z7, z8, z9⟩ := cells10 BZ.out
       have y0 := blk_frozen BZ.out 0
       have y1 := blk_frozen BZ.out 1
       have y2 := blk_frozen BZ.out 2
       have y3 := blk_frozen BZ.out 3
       have y4 := blk_frozen BZ.out 4
       have y5 := blk_frozen BZ.out 5
       have y6 := blk_frozen BZ.out 6
       have y7 := blk_frozen BZ.out 7
       have y8 := blk_frozen BZ.out 8
       have y9 := blk_frozen BZ.out 9
       go_wp2_with fail
       refine bodyPost_ret (results_ct rfl _ _ w.heap.size 52 #[.int .i64 bk, .int .i64 0, .int .u64 0, .slice none 0 0, .int .i64 0, .slice none 0 0, .int .u64 0, .int .u64 0, .int .i64 0, .int .i64 0] (0, 0) _ rfl (blk_set10 BZ.out) Tryd.underlying52 rfl (by kernel_rfl)) rfl ?_
       rw [HE.out]
       exact ⟨none, 0, none, 0, rfl, OPM.nil HB0.out, below_set10 HBB.out (Nat.le_refl _)⟩
      have L0 := Aside0.mk l0
      have f1 : ((r.length : Int) + 1 == 1) = false := beq_eq_false_iff_ne.2 (by omega)
      clear l0
      go_wp2_with fail
      go_meet
      exact ⟨rfl, ⟨cmdI_op (fun h => L0.out h.2) (fun h => NT.out h.1) (fun h => NC.out h.1) (fun h => NC.out h.1) (fun h => NS.out h.1)⟩⟩
     | false =>
      go_wp2_with fail
      go_meet
      exact ⟨rfl, ⟨cmdI_op (fun h => absurd (HGD.out.2.symm.trans h.1) (by decide)) (fun h => NT.out h.1) (fun h => NC.out h.1) (fun h => NC.out h.1) (fun h => NS.out h.1)⟩⟩
    case rest =>
     obtain ⟨hww, HOP⟩ := hcut
     obtain rfl : W' = wc := hww.symm
     clear hww
     have hop := opOf_calls ⟨B, 0, none⟩ n w00 r W' (HS.out.below HBW.out) HN.out.1 (by have := HL.out; omega) (fun q hq => by have := HWF2.out q hq; exact ⟨this.1, by have := this.2.1; omega, this.2.2⟩)
     have HOPF := Aside0.mk hop
     clear hop hx0
     go_wp2_with fail
     refine HOPF.out.mono ?_
     rintro e w7 ⟨b, ⟨kd, ok, s, p, f, v, ep, g, nn, mm⟩, A2, d2, A4, d4, rfl, ho, hz, hM, hb⟩
     simp only at ho hz hM ⊢
     obtain ⟨rfl, rfl, rfl⟩ := hz
     have HO := Aside0.mk ho
     have BZ2 := Aside0.mk (blk_alloc (blk_below BZ.out hb) (.cells #[.int .i64 ok, .int .u64 s, .slice A2 p.length d2, .int .i64 f, .slice A4 v.length d4, .int .u64 ep, .int .u64 g] 50))
     have hba := below_alloc (Below.refl w7.heap.size w7) (.cells #[.int .i64 ok, .int .u64 s, .slice A2 p.length d2, .int .i64 f, .slice A4 v.length d4, .int .u64 ep, .int .u64 g] 50)
     have BX := Aside0.mk (blk_new w7 (.cells #[.int .i64 ok, .int .u64 s, .slice A2 p.length d2, .int .i64 f, .slice A4 v.length d4, .int .u64 ep, .int .u64 g] 50))
     have HB7 := Aside0.mk (below_step (below_step HBB.out hb) hba)
     have HM7 := Aside0.mk ((((hM.base (Nat.le_trans HB0.out HBB.out.size)).below hba).wide HBB.out.size hba.size (Nat.le_trans HB0.out (Nat.le_refl _))))
     clear ho hM hb HOPF
     go_upto_region 26 with (fail)
     generalize w7.alloc (.cells #[.int .i64 ok, .int .u64 s, .slice A2 p.length d2, .int .i64 f, .slice A4 v.length d4, .int .u64 ep, .int .u64 g] 50) = w8 at *
     generalize w7.heap.size = g7 at *
     obtain ⟨z0, z1, z2, z3, z4, z5, z6, z7, z8, z9⟩ := cells10 BZ2.out
     have y0 := blk_frozen BZ2.out 0
     have y1 := blk_frozen BZ2.out 1
     have y2 := blk_frozen BZ2.out 2
     have y3 := blk_frozen BZ2.out 3
     have y4 := blk_frozen BZ2.out 4
     have y5 := blk_frozen BZ2.out 5
     have y6 := blk_frozen BZ2.out 6
     have y7 := blk_frozen BZ2.out 7
     have y8 := blk_frozen BZ2.out 8
     have y9 := blk_frozen BZ2.out 9
     cases b with
     | false =>
      have HE := Aside0.mk (show ansI l = (zCmd, 2) from by rw [HA.out, HOP.out, HO.out]; rfl)
      go_wp2_with fail
      refine bodyPost_ret (results_ct rfl _ _ w.heap.size 52 #[.int .i64 0, .int .i64 0, .int .u64 0, .slice none 0 0, .int .i64 0, .slice none 0 0, .int .u64 0, .int .u64 0, .int .i64 0, .int .i64 0] (0, 0) _ rfl (blk_set10 BZ2.out) Tryd.underlying52 rfl (by kernel_rfl)) rfl ?_
      rw [HE.out]
      exact ⟨none, 0, none, 0, rfl, OPM.nil HB0.out, below_set10 HB7.out (Nat.le_refl _)⟩
     | true =>
      have HE := Aside0.mk (show ansI l = ((⟨0, ok, s, p, f, v, ep, g, 0, 0⟩ : Cmd), 0) from by rw [HA.out, HOP.out, HO.out]; rfl)
      obtain ⟨x0, x1, x2, x3, x4, x5, x6⟩ := cells7 BX.out
      go_wp2_with fail
      refine bodyPost_ret (results_ct rfl _ _ w.heap.size 52 #[.int .i64 0, .int .i64 ok, .int .u64 s, .slice A2 p.length d2, .int .i64 f, .slice A4 v.length d4, .int .u64 ep, .int .u64 g, .int .i64 0, .int .i64 0] (0, 0) _ rfl (blk_set10 BZ2.out) Tryd.underlying52 rfl (by kernel_rfl)) rfl ?_
      rw [HE.out]
      exact ⟨A2, d2, A4, d4, rfl, (HM7.out.set10 BZ2.out (by decide)).wide (Nat.le_refl _) (by rw [size_set10]; exact Nat.le_refl _) HB0.out, below_set10 HB7.out (Nat.le_refl _)⟩
end
theorem toByteS_bk (k : Nat) (w0 : World) (A : Option Addr) (c : Nat) (l : List Int) (w : World) (hB : Below w0.heap.size w0 w) (h0 : Kd.C (Kd.int .u8) w A l.length l) (hc : l.length ≤ c) (hl : l.length ≤ 2097152) (hk : 2097152 < k) :
  Calls Tryd.prog 10 #[.slice A l.length c] w fun e w' => ∃ B d, e = .returned (.slice B l.length d) ∧ BK w0 w' w.heap.size w'.heap.size B d l ∧ Below w.heap.size w w' := by
 refine (laws_toByteS.calls k A c l l w h0 hc (toByteS_f l (by omega) k (by omega))).mono ?_
 rintro e w' ⟨v, rfl, hr, hb⟩
 obtain ⟨B, d, rfl⟩ := Kd.R_slice hr
 exact ⟨B, d, rfl, BK.of hr hB, hb⟩
end Go.Proofs.YtbgbocdohadhoaaDoor.Print
