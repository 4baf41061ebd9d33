/- Texts of this session, joined by its own program. -/
import Derived.Shelf.SlBridgeP
import Derived.Shelf.Bytes.SlIndexAt
import Derived.Shelf.Bytes.SlCountOne
import Derived.Shelf.Bytes.SlCountWhole
import Derived.Lib.SlSplitV
import Derived.Lib.SlBytesConst
import Derived.Deep.OwnRows
import Derived.Deep.LoopGhost
import Derived.Shelf.SlicesE.IndexFunc
import Derived.Maps.OwnSet
import Derived.Laws.Cover1
import Derived.Lib.BytesEntry
import Derived.Laws.Externs
import Derived.Lib.ConvBytes
import Derived.Laws.AppendOwn
import Derived.Test.YtbgbocdohadhoaaGreatDoorCRG10
namespace Go.Proofs.YtbgbocdohadhoaaGreatDoor.Print
open Go Go.RowKit Go.Proofs.YtbgbocdohadhoaaGreatDoorW.PrintWords Go.Proofs.YtbgbocdohadhoaaGreatDoorW.PrintLast Go.Proofs.YtbgbocdohadhoaaGreatDoorW.PrintMore
set_option linter.unusedVariables false
set_option linter.unusedSimpArgs false
section
open Go.Shelf
def PV (w : World) (v : Value) (p : List Int) : Prop := ∃ A c, v = .slice A p.length c ∧ p.length ≤ c ∧ Kd.C (Kd.int .u8) w A p.length p
def PVs (w : World) (vs : List Value) (ps : List (List Int)) : Prop := vs.length = ps.length ∧ ∀ (j : Nat) v p, vs[j]? = some v → ps[j]? = some p → PV w v p
theorem PVs.snoc {w : World} {vs : List Value} {ps : List (List Int)} {v : Value} {p : List Int} (h : PVs w vs ps) (hv : PV w v p) : PVs w (vs ++ [v]) (ps ++ [p]) := by
 refine ⟨by simp [h.1], fun j u q h1 h2 => ?_⟩
 rcases Nat.lt_or_ge j vs.length with hj | hj
 ·
  rw [List.getElem?_append_left hj] at h1
  rw [List.getElem?_append_left (by rw [← h.1]; exact hj)] at h2
  exact h.2 j u q h1 h2
 ·
  rw [List.getElem?_append_right hj] at h1
  rw [List.getElem?_append_right (by rw [← h.1]; exact hj), ← h.1] at h2
  cases hk : j - vs.length with
  | zero =>
   rw [hk] at h1 h2
   simp only [List.getElem?_cons_zero, Option.some.injEq] at h1 h2
   rw [← h1, ← h2]
   exact hv
  | succ k =>
   rw [hk] at h1
   simp at h1
theorem PV.of {w : World} {a : Addr} {p : List Int} {n c : Nat} (hn : p.length = n) (hl : n ≤ c) (hb : n ≤ 1000) (h : ∀ j, j < n → w.cell? (a.add j) = some (.int .u8 (p.getD j 0))) : PV w (.slice (some a) n c) p := by
 subst hn
 exact ⟨some a, c, rfl, hl, Kd.C_of_reads (d := (0 : Int)) (h1 := fun _ => rfl) ⟨rfl, by omega, fun _ => ⟨a, rfl, h⟩⟩⟩
theorem add_add_ (a : Addr) (i j : Nat) : (a.add (i + 1)).add j = a.add (i + 1 + j) := by
 unfold Addr.add
 by_cases hj : j = 0
 ·
  subst hj; simp
 ·
  simp [hj]; omega
theorem count_bytes : ∀ (l : List Int), (∀ x ∈ l, 0 ≤ x ∧ x < 256) → Lib.countByte (Lib.bytesOf l) 47 = l.count 47
 | [], _ => rfl
 | c :: l, hr => by
  have ih := count_bytes l (fun x hx => hr x (by simp [hx]))
  have hc := hr c (by simp)
  unfold Lib.countByte at ih ⊢
  rw [show Lib.bytesOf (c :: l) = UInt8.ofNat c.toNat :: Lib.bytesOf l from rfl]
  by_cases h : c = 47
  ·
   rw [(byte_eq hc).2 h, List.count_cons_self, ih, h, List.count_cons_self]
  ·
   rw [List.count_cons_of_ne (fun e => h ((byte_eq hc).1 e)), ih, List.count_cons_of_ne (fun e => h e)]
theorem pieces_count : ∀ (l : List Int), (pieces l).length = l.count 47 + 1
 | [] => rfl
 | c :: l => by
  have ih := pieces_count l
  by_cases h : c = 47
  ·
   rw [h, pieces_slash, List.length_cons, ih, List.count_cons_self]
  ·
   obtain ⟨a, t, e, e'⟩ := pieces_char c l h
   rw [e', List.count_cons_of_ne (fun e => h e), ← ih, e]
   rfl
theorem pieces_none : ∀ (l : List Int), l.count 47 = 0 → pieces l = [l]
 | [], _ => rfl
 | c :: l, h => by
  by_cases hc : c = 47
  ·
   rw [hc, List.count_cons_self] at h
   omega
  ·
   rw [List.count_cons_of_ne (fun e => hc e)] at h
   obtain ⟨a, t, e, e'⟩ := pieces_char c l hc
   rw [pieces_none l h] at e
   simp only [List.cons.injEq] at e
   rw [e', ← e.1, ← e.2]
theorem pieces_hit : ∀ (l : List Int), (∀ x ∈ l, 0 ≤ x ∧ x < 256) → 0 < l.count 47 → ∃ i : Nat, Lib.indexByte (Lib.bytesOf l) 47 = i ∧ i < l.length ∧ pieces l = l.take i :: pieces (l.drop (i + 1)) ∧ (l.drop (i + 1)).count 47 + 1 = l.count 47
 | [], _, h => by simp at h
 | c :: l, hr, h => by
  have hc := hr c (by simp)
  have e0 : Lib.bytesOf (c :: l) = UInt8.ofNat c.toNat :: Lib.bytesOf l := rfl
  by_cases hcc : c = 47
  ·
   refine ⟨0, ?_, by simp, ?_, ?_⟩
   ·
    rw [e0, (byte_eq hc).2 hcc, Lib.indexByte, if_pos (by rfl)]
    rfl
   ·
    rw [hcc, pieces_slash]
    rfl
   ·
    rw [hcc, List.count_cons_self]
    rfl
  ·
   rw [List.count_cons_of_ne (fun e => hcc e)] at h
   obtain ⟨i, h1, h2, h3, h4⟩ := pieces_hit l (fun x hx => hr x (by simp [hx])) h
   obtain ⟨a, t, e, e'⟩ := pieces_char c l hcc
   refine ⟨i + 1, ?_, by simp; omega, ?_, ?_⟩
   ·
    rw [e0, Lib.indexByte, if_neg (by simp only [beq_iff_eq]; exact fun q => hcc ((byte_eq hc).1 q)), h1, if_neg (by simp only [beq_iff_eq]; omega)]
    omega
   ·
    rw [h3] at e
    simp only [List.cons.injEq] at e
    rw [e', ← e.1, ← e.2]
    rfl
   ·
    rw [List.count_cons_of_ne (fun e => hcc e), ← h4]
    rfl
theorem lays11 : SlLaysP.n11 Tryz.prog Tryz.laysSplit_ren := { Tryz.laysSplit with }
theorem index_calls (a : Addr) (n c b2 d : Nat) (xs : List Int) (w : World) (hx : xs.length = n) (hc : ∀ i, i < n → w.cell? (a.add i) = some (.int .u8 (xs.getD i 0))) (hc2 : w.cell? ⟨b2, 0, none⟩ = some (.int .u8 47)) :
  Calls Tryz.prog 178 #[.slice (some a) n c, .slice (some ⟨b2, 0, none⟩) 1 d] w fun e w' => e = .returned (.int .i64 (Lib.indexByte (Lib.bytesOf xs) 47)) ∧ w' = w :=
 Any.bytes_Index_one_at lays11.index a n c b2 0 d xs 47 w hx hc hc2
theorem count_calls (a : Addr) (n c b2 d : Nat) (xs : List Int) (w : World) (hx : xs.length = n) (hc : ∀ i, i < n → w.cell? (a.add i) = some (.int .u8 (xs.getD i 0))) (hc2 : w.cell? ⟨b2, 0, none⟩ = some (.int .u8 47)) :
  Calls Tryz.prog 177 #[.slice (some a) n c, .slice (some ⟨b2, 0, none⟩) 1 d] w fun e w' => e = .returned (.int .i64 (Lib.countByte (Lib.bytesOf xs) 47)) ∧ w' = w :=
 Any.bytes_Count_one_at (SlLaysC.n13.small lays11.count) a n c b2 0 d xs 47 w hx hc hc2
set_option maxHeartbeats 4000000 in
set_option maxRecDepth 100000 in
theorem genSplit_calls (a : Addr) (c b2 d : Nat) (xs : List Int) (w : World) (hr : ∀ x ∈ xs, 0 ≤ x ∧ x < 256) (hc : ∀ i, i < xs.length → w.cell? (a.add i) = some (.int .u8 (xs.getD i 0))) (hcap : xs.length ≤ c) (hn : xs.length ≤ 1000) (hc2 : w.cell? ⟨b2, 0, none⟩ = some (.int .u8 47)) :
  Calls Tryz.prog 159 #[.slice (some a) xs.length c, .slice (some ⟨b2, 0, none⟩) 1 d, .int .i64 0, .int .i64 (-1)] w fun e w' => ∃ vs, e = .returned (.slice (some ⟨w.heap.size, 0, none⟩) vs.length vs.length) ∧ PVs w vs (pieces xs) ∧ w' = w.alloc (.cells vs.toArray 38) := by
 have HC := Aside0.mk (count_calls a xs.length c b2 d xs w rfl hc hc2)
 have hcnt := count_bytes xs hr
 have hcl : xs.count 47 ≤ xs.length := List.count_le_length
 have hpc := pieces_count xs
 rw [hcnt] at HC
 obtain ⟨N, hN⟩ : ∃ N, xs.count 47 = N := ⟨_, rfl⟩
 rw [hN] at HC hcl hpc
 have e1 : min ((N : Int) + 1) ((xs.length : Int) + 1) = (N : Int) + 1 := by omega
 have hmk := run_make_row' (P := Tryz.prog) 149 38 (.slice none 0 0) 24 lays11.t23 lays11.i22 rfl .i64 .i64 (N + 1) (by omega) (by omega)
 have e2 : (((N + 1 : Nat) : Int)) = (N : Int) + 1 := by omega
 rw [e2] at hmk
 have HR := Aside0.mk hr
 have HA := Aside0.mk hc
 have HN := Aside0.mk (And.intro hN (And.intro hcl (And.intro hpc (And.intro hcap hn))))
 clear hr hc hcnt hN hpc
 go_enter Tryz.func159, Tryz.ntmps159
 go_wp2_with fail
 refine HC.out.mono ?_
 rintro e w' ⟨rfl, hww⟩
 obtain rfl : w = w' := hww.symm
 clear HC
 go_wp2_with fail
 clear hmk e1 e2
 go_loopg [0, 10] (N + 1) (fun gg s0 s10 wr => ∃ (done : List Value) (ps : List (List Int)) (ad : Addr) (zs : List Int) (cap : Nat), s0 = .slice (some ad) zs.length cap ∧ s10 = .int .i64 done.length ∧ wr = w.alloc (.cells (Lib.cellsOfV done (N + 1)) 38) ∧
  Aside0 (gg + done.length = N + 1 ∧ done.length ≤ N ∧ zs.length ≤ cap ∧ zs.length ≤ xs.length ∧ zs.count 47 + done.length = N ∧ (∀ x ∈ zs, 0 ≤ x ∧ x < 256)) ∧ Aside0 (∀ i, i < zs.length → w.cell? (ad.add i) = some (.int .u8 (zs.getD i 0))) ∧ Aside0 (PVs w done ps ∧ pieces xs = ps ++ pieces zs))
 case atStart =>
  have h := HN.out
  exact ⟨[], [], a, xs, c, rfl, rfl, by rw [Lib.cellsOfV_nil], ⟨⟨by simp, by simp, h.2.2.2.1, Nat.le_refl _, by simp [h.1], HR.out⟩⟩, HA, ⟨⟨⟨rfl, fun j v p h => by simp at h⟩, rfl⟩⟩⟩
 case round =>
  obtain ⟨done, ps, ad, zs, cap, rfl, rfl, rfl, HZ, HB, HP⟩ := hrel
  have hz := HZ.out
  have hnn := HN.out.2.2.2.2
  have hnext := Lib.cellsOfV_next (done := done) (N := N + 1) (by omega)
  by_cases hlt : done.length < N
  ·
   obtain ⟨i, k1, k2, k3, k4⟩ := pieces_hit zs hz.2.2.2.2.2 (by omega)
   have hd1 : decide ((done.length : Int) < (N : Int)) = true := decide_eq_true (by omega)
   have hd2 : ((done.length : Int) < (N : Int) + 1 - 1) := by omega
   have HI := Aside0.mk (index_calls ad zs.length cap b2 d zs (w.alloc (.cells (Lib.cellsOfV done (N + 1)) 38)) rfl (fun j hj => Lib.cell?_alloc_marked _ (HB.out j hj)) (Lib.cell?_alloc_marked _ hc2))
   rw [k1] at HI
   have c0 : ¬ ((i : Int) < 0) := by omega
   have c1 : (0 : Int) ≤ (i : Int) := by omega
   have c2 : (i : Int) ≤ (cap : Int) := by omega
   have c3 : (0 : Int) ≤ (i : Int) + 1 := by omega
   have c4 : (i : Int) + 1 ≤ (zs.length : Int) := by omega
   have c5 : zs.length ≤ 1000 := by omega
   have KK := Aside0.mk (And.intro k1 (And.intro k2 (And.intro k3 k4)))
   clear k1 k2 k3 k4
   go_wp2_with fail
   refine HI.out.mono ?_
   rintro e w' ⟨rfl, hww⟩
   subst hww
   clear HI
   by_cases hce : cap = i + 1
   ·
    subst hce
    go_wp2_with fail
    have kk := KK.out
    go_roundg (N - done.length)
    case measure => omega
    case rel =>
     refine ⟨done ++ [.slice (some ad) i i], ps ++ [zs.take i], ad, zs.drop (i + 1), 0, by simp; omega, by simp, by rw [Lib.cellsOfV_set (by omega)], ⟨⟨by simp; omega, by simp; omega, by simp; omega, by simp; omega, by simp; omega, fun x hx => hz.2.2.2.2.2 x (List.mem_of_mem_drop hx)⟩⟩, ⟨fun j hj => ?_⟩, ⟨⟨PVs.snoc HP.out.1 (PV.of (by simp; omega) (Nat.le_refl _) (by omega) (fun j hj => by rw [HB.out j (by omega)]; simp [List.getD, List.getElem?_take, hj])), ?_⟩⟩⟩
     ·
      rw [List.length_drop] at hj; omega
     ·
      rw [HP.out.2, kk.2.2.1]
      simp
   ·
    go_wp2_with fail
    have kk := KK.out
    go_roundg (N - done.length)
    case measure => omega
    case rel =>
     refine ⟨done ++ [.slice (some ad) i i], ps ++ [zs.take i], ad.add (i + 1), zs.drop (i + 1), cap - (i + 1), by simp [Addr.add], by simp, by rw [Lib.cellsOfV_set (by omega)], ⟨⟨by simp; omega, by simp; omega, by simp; omega, by simp; omega, by simp; omega, fun x hx => hz.2.2.2.2.2 x (List.mem_of_mem_drop hx)⟩⟩, ⟨fun j hj => ?_⟩, ⟨⟨PVs.snoc HP.out.1 (PV.of (by simp; omega) (Nat.le_refl _) (by omega) (fun j hj => by rw [HB.out j (by omega)]; simp [List.getD, List.getElem?_take, hj])), ?_⟩⟩⟩
     ·
      rw [List.length_drop] at hj; rw [add_add_, HB.out (i + 1 + j) (by omega)]; simp [List.getD, List.getElem?_drop]
     ·
      rw [HP.out.2, kk.2.2.1]
      simp
  ·
   have hd1 : decide ((done.length : Int) < (N : Int)) = false := decide_eq_false (by omega)
   go_wp2_with fail
   go_ret
   have hdn : done.length = N := by omega
   have hvl : (done ++ [Value.slice (some ad) zs.length cap]).length = N + 1 := by simp [hdn]
   refine ⟨done ++ [.slice (some ad) zs.length cap], ?_, ?_, ?_⟩
   ·
    rw [hvl, hdn]
    rfl
   ·
    have h1 := PVs.snoc HP.out.1 (PV.of (w := w) (a := ad) (p := zs) (c := cap) rfl hz.2.2.1 (by omega) HB.out)
    rw [HP.out.2, pieces_none zs (by omega)]
    exact h1
   ·
    rw [Lib.cellsOfV_set (by omega), ← hvl, Lib.cellsOfV_full]
set_option maxHeartbeats 4000000 in
set_option maxRecDepth 100000 in
theorem split_calls (a : Addr) (c b2 d : Nat) (xs : List Int) (w : World) (hr : ∀ x ∈ xs, 0 ≤ x ∧ x < 256) (hc : ∀ i, i < xs.length → w.cell? (a.add i) = some (.int .u8 (xs.getD i 0))) (hcap : xs.length ≤ c) (hn : xs.length ≤ 1000) (hc2 : w.cell? ⟨b2, 0, none⟩ = some (.int .u8 47)) :
  Calls Tryz.prog 132 #[.slice (some a) xs.length c, .slice (some ⟨b2, 0, none⟩) 1 d] w fun e w' => ∃ vs, e = .returned (.slice (some ⟨w.heap.size, 0, none⟩) vs.length vs.length) ∧ PVs w vs (pieces xs) ∧ w' = w.alloc (.cells vs.toArray 38) := by
 have HC := Aside0.mk (genSplit_calls a c b2 d xs w hr hc hcap hn hc2)
 clear hr hc hcap hn hc2
 go_enter Tryz.func132, Tryz.ntmps132
 go_wp2_with fail
 refine HC.out.mono ?_
 rintro e w' ⟨vs, rfl, h1, rfl⟩
 go_wp2_with fail
 go_ret
 exact ⟨vs, rfl, h1, rfl⟩
end
section
open Go.Shelf
theorem containsFunc_calls (vs : List Value) (ps : List (List Int)) (B : Nat) (w : World) (h : PVs w vs ps) (hl : vs.length ≤ 1000) (hb : w.heap[B]? = some (.cells vs.toArray 38 (0, 0))) :
  Calls Tryz.prog 133 #[.slice (some ⟨B, 0, none⟩) vs.length vs.length, .func (.func 134) #[] #[]] w fun e w' => e = .returned (.bool (ps.any fun p => !nameB p)) ∧ Below w.heap.size w w' := by
 let α := { x : Value × List Int // PV w x.1 x.2 }
 have hz : PV w (.slice none 0 0) [] := ⟨none, 0, rfl, Nat.le_refl _, Kd.C_of_reads (d := (0 : Int)) (h1 := fun _ => rfl) (ReadsInt.nil _ _)⟩
 haveI : Inhabited α := ⟨⟨(.slice none 0 0, []), hz⟩⟩
 have H : ∀ x ∈ vs.zip ps, PV w x.1 x.2 := by
  intro x hx
  obtain ⟨j, hj, rfl⟩ := List.getElem_of_mem hx
  have h1 : j < vs.length := by simp at hj; omega
  have h2 : j < ps.length := by simp at hj; omega
  have := h.2 j vs[j] ps[j] (List.getElem?_eq_getElem h1) (List.getElem?_eq_getElem h2)
  simpa using this
 let zs : List α := (vs.zip ps).pmap (fun x hx => (⟨x, hx⟩ : α)) H
 have hzl : zs.length = vs.length := by simp [zs, h.1]
 have hat : ∀ j, (hj : j < zs.length) → (zs[j]!).1.1 = vs[j]'(by omega) ∧ (zs[j]!).1.2 = ps[j]'(by have := h.1; omega) := by
  intro j hj
  rw [getElem!_pos zs j hj]
  simp [zs]
 have hp : PredAt Tryz.prog 134 #[] (fun x : α => x.1.1) (fun x : α => !nameB x.1.2) w := by
  intro W x hW
  obtain ⟨A, c, e, hc, hr⟩ := x.2
  show Calls Tryz.prog 134 (#[x.1.1] ++ #[]) W _
  rw [e]
  refine (nameNot_calls A c x.1.2 W (Kd.C_below hr hW) hc).mono ?_
  rintro e w' ⟨rfl, hw⟩
  exact ⟨rfl, 0, hw⟩
 have eg : ∀ args W, (callFunc 134 args).run Tryz.prog W = .ok (.enter 134 args) W := enters_of Tryz.func134 (by kernel_rfl) rfl
 have hc : ∀ j, j < zs.length → w.cell? ⟨B, 0 + j, none⟩ = some ((fun x : α => x.1.1) zs[j]!) := by
  intro j hj
  have := blk_cell hb j
  simp only [Nat.zero_add]
  rw [this, (hat j hj).1]
  simp [List.getElem?_eq_getElem (show j < vs.length by omega)]
 refine (AnyE.slices_ContainsFunc Tryz.laysCF (fun x : α => x.1.1) (fun x : α => !nameB x.1.2) 134 #[] eg B 0 vs.length vs.length zs w hp (by omega) (by omega) hc).mono ?_
 rintro e w' ⟨rfl, q, rfl⟩
 refine ⟨?_, pw_below_drewN (Below.refl _ _) q⟩
 have e1 : zs.take vs.length = zs := by rw [← hzl, List.take_length]
 rw [e1]
 have e2 : ps.any (fun p => !nameB p) = zs.any (fun x => !nameB x.1.2) := by
  have e3 : ps = zs.map (fun x => x.1.2) := by
   apply List.ext_getElem
   ·
    rw [List.length_map, hzl, h.1]
   ·
    intro j h1 h2
    rw [List.getElem_map]
    simp [zs]
  conv => lhs; rw [e3]
  rw [List.any_map]
  rfl
 rw [e2]
def bytesB (l : List Int) : Bool := l.all fun x => decide (0 ≤ x) && decide (x < 256)
theorem bytesB_iff {l : List Int} : bytesB l = true ↔ ∀ x ∈ l, 0 ≤ x ∧ x < 256 := by
 unfold bytesB
 simp [List.all_eq_true]
def impl_ValidPath.f (l : List Int) : Option Bool := if bytesB l then some (pathB l) else none
set_option maxHeartbeats 4000000 in
set_option maxRecDepth 100000 in
theorem impl_ValidPath_calls (A : Option Addr) (c : Nat) (l : List Int) (w : World) (h : Kd.C (Kd.int .u8) w A l.length l) (hc : l.length ≤ c) (hr : ∀ x ∈ l, 0 ≤ x ∧ x < 256) :
  Calls Tryz.prog 85 #[.slice A l.length c] w fun e w' => e = .returned (.bool (pathB l)) ∧ Below w.heap.size w w' := by
 by_cases h2 : l.length < 2
 ·
  have e : pathB l = false := Bool.eq_false_iff.2 fun h => by have := (pathB_len l h).1; omega
  have d1 : decide ((l.length : Int) < 2) = true := decide_eq_true (by omega)
  rw [e]
  clear e h hr
  go_enter Tryz.func85, Tryz.ntmps85
  go_wp2_with fail
  go_ret
  exact ⟨rfl, Below.refl _ _⟩
 obtain ⟨x, r, rfl⟩ : ∃ x r, l = x :: r := by cases l with | nil => simp at h2 | cons x r => exact ⟨x, r, rfl⟩
 obtain ⟨ad, rfl, hx⟩ := Kd.at_int h 0 (by omega) (by simp only [List.length_cons]; omega)
 replace hx : w.cell? ad = some (.int .u8 x) := hx
 have HX := Aside0.mk (show x = x from rfl)
 by_cases h47 : x = 47
 case neg =>
  have e : pathB (x :: r) = false := by unfold pathB; simp [h47]
  rw [e]
  have hlen : ¬ ((x :: r).length < 2) := h2
  generalize (x :: r).length = L at *
  have d1 : decide ((L : Int) < 2) = false := decide_eq_false (by omega)
  have d2 : decide (x = 47) = false := decide_eq_false h47
  have d3 : (x != 47) = true := by simpa using h47
  have d4 : (0 : Int) < (L : Int) := by omega
  clear e hr h h47 HX hlen h2
  go_enter Tryz.func85, Tryz.ntmps85
  go_wp2_with fail
  go_ret
  exact ⟨rfl, Below.refl _ _⟩
 subst h47
 by_cases h136 : 136 < (47 :: r : List Int).length
 ·
  have e : pathB (47 :: r) = false := Bool.eq_false_iff.2 fun h => by have := (pathB_len _ h).2; omega
  rw [e]
  generalize (47 :: r : List Int).length = L at *
  have d1 : decide ((L : Int) < 2) = false := decide_eq_false (by omega)
  have d2 : decide ((136 : Int) < (L : Int)) = true := decide_eq_true (by omega)
  have d4 : (0 : Int) < (L : Int) := by omega
  clear e hr h HX h2
  go_enter Tryz.func85, Tryz.ntmps85
  go_wp2_with fail
  go_ret
  exact ⟨rfl, Below.refl _ _⟩
 obtain ⟨i0, hi0, _, hsz0, _⟩ := info_parts info5
 obtain ⟨A6, hcut6, hA6, hC6⟩ := print_drop_of (P := Tryz.prog) (Value.int .u8) 0 38 5 .i64 Tryz.underlying38 hi0 hsz0 (some ad) c (47 :: r) 1 (by omega) (by simp only [List.length_cons]; omega) hc
 have hrd := hA6 _ (Kd.reads_of_C h)
 have e1 : (47 :: r : List Int).drop (1 : Int).toNat = r := rfl
 rw [e1] at hcut6 hrd hC6
 rw [show (1 : Int).toNat = 1 from rfl] at hcut6 hC6
 have hrl : 0 < r.length := by simp only [List.length_cons] at h2; omega
 have hr136 : r.length ≤ 1000 := by simp only [List.length_cons] at h136; omega
 obtain ⟨a6, rfl, hcell6⟩ := hrd.2.2 hrl
 have HR := Aside0.mk (show ∀ x ∈ r, 0 ≤ x ∧ x < 256 from fun x hx => hr x (by simp [hx]))
 have HC6 := Aside0.mk hC6
 have HCE := Aside0.mk hcell6
 have HLL := Aside0.mk (And.intro hrl hr136)
 have kc := fun (w : World) (C : Array Value) (n c : Nat) => Lib.run_convert_bytes_const (P := Tryz.prog) w 38 5 C n c Tryz.underlying38 Tryz.underlying5
 obtain ⟨L, hL⟩ : ∃ L, (47 :: r : List Int).length = L := ⟨_, rfl⟩
 rw [hL] at hcut6 h2 h136 ⊢
 have d1 : decide ((L : Int) < 2) = false := decide_eq_false (by omega)
 have d2 : decide ((136 : Int) < (L : Int)) = false := decide_eq_false (by omega)
 have d4 : (0 : Int) < (L : Int) := by omega
 have hPB : Aside0 (pathB (47 :: r) = (decide ((pieces r).length ≤ 8) && (pieces r).all nameB)) := ⟨rfl⟩
 clear h hr hc hi0 hsz0 hA6 hrd hL hC6 hcell6 hrl hr136 h2 h136 e1 HX
 go_enter Tryz.func85, Tryz.ntmps85
 go_wp2_with fail
 have hbA : Below w.heap.size w (w.alloc (.cells #[.int .u8 47] 5 (1, 2))) := (Below.refl _ w).alloc (Nat.le_refl _) _
 refine (split_calls a6 (c - 1) w.heap.size 1 r _ HR.out (fun i hi => Lib.cell?_alloc_marked _ (HCE.out i hi)) HC6.out HLL.out.2 (World.cell?_alloc_mark w #[.int .u8 47] 5 (1, 2) 0)).mono ?_
 rintro e w1 ⟨vs, rfl, hv, hw1⟩
 subst hw1
 have hbB := below_alloc (Below.refl (w.alloc (.cells #[.int .u8 47] 5 (1, 2))).heap.size (w.alloc (.cells #[.int .u8 47] 5 (1, 2)))) (.cells vs.toArray 38)
 have hb1 := below_step hbA hbB
 have hvl : vs.length = (pieces r).length := hv.1
 have hpl : (pieces r).length ≤ 1001 := by
  have h1 := pieces_count r
  have h2 : r.count 47 ≤ r.length := List.count_le_length
  have := HLL.out.2
  omega
 obtain ⟨n, hn⟩ : ∃ n, vs.length = n := ⟨_, rfl⟩
 by_cases h8 : 8 < n
 ·
  have e : pathB (47 :: r) = false := by rw [hPB.out, decide_eq_false (show ¬ (pieces r).length ≤ 8 by omega)]; rfl
  have d5 : decide ((n : Int) ≤ 8) = false := decide_eq_false (by omega)
  have HE := Aside0.mk e
  rw [hn]
  clear e hv hvl hpl h8 d1 d2 d4
  go_wp2_with fail
  go_ret
  rw [HE.out]
  exact ⟨rfl, hb1⟩
 ·
  have d5 : decide ((n : Int) ≤ 8) = true := decide_eq_true (by omega)
  have hbl : (((w.alloc (.cells #[.int .u8 47] 5 (1, 2))).alloc (.cells vs.toArray 38))).heap[w.heap.size + 1]? = some (.cells vs.toArray 38 (0, 0)) := by
   have := blk_new (w.alloc (.cells #[.int .u8 47] 5 (1, 2))) (.cells vs.toArray 38)
   simpa using this
  have HCF := Aside0.mk (containsFunc_calls vs (pieces r) (w.heap.size + 1) _ (show PVs ((w.alloc (.cells #[.int .u8 47] 5 (1, 2))).alloc (.cells vs.toArray 38)) vs (pieces r) from ⟨hv.1, fun j v p h1 h2 => by obtain ⟨A, c, e, hc, hr⟩ := hv.2 j v p h1 h2; exact ⟨A, c, e, hc, Kd.C_below hr hbB⟩⟩) (by omega) hbl)
  have hPB2 := Aside0.mk (show pathB (47 :: r) = !((pieces r).any fun p => !nameB p) by
   rw [hPB.out, decide_eq_true (show (pieces r).length ≤ 8 by omega), Bool.true_and]
   simp [List.all_eq_not_any_not])
  rw [hn] at HCF ⊢
  clear hv hvl hpl h8 d1 d2 d4 hPB hbl
  generalize ((pieces r).any fun p => !nameB p) = ab at *
  go_wp2_with fail
  refine HCF.out.mono ?_
  rintro e w2 ⟨rfl, hb2⟩
  have hb3 := below_step hb1 hb2
  go_wp2_with fail
  go_ret
  rw [hPB2.out]
  exact ⟨rfl, hb3⟩
theorem impl_ValidPath.calls (A0 : Option Addr) (c0 : Nat) (l0 : List Int) (r : Bool) (w : World) (hr0 : Kd.C (Kd.int .u8) w A0 l0.length l0) (hc0 : l0.length ≤ c0) (h : impl_ValidPath.f l0 = some r) :
  Calls Tryz.prog 85 #[.slice A0 l0.length c0] w fun e w' => e = .returned (.bool r) ∧ Below w.heap.size w w' := by
 unfold impl_ValidPath.f at h
 split at h
 ·
  rename_i hb
  have := Option.some.inj h
  subst this
  exact impl_ValidPath_calls A0 c0 l0 w hr0 hc0 (bytesB_iff.1 hb)
 ·
  cases h
end
section
attribute [local go_sem] max2_int max_two
set_option linter.unusedVariables false
set_option linter.unusedSimpArgs false
mutual
def impl_queueOk.l0 : Nat → List (S153) → Int → Int → Option (Bool)
  | 0, _, _, _ => none
  | k + 1, x9, x10, x11 => if x11 < x10 then (if 0 ≤ x11 then (if x11 < (x9.length : Int) then (if ((((rd_T153 x9 x11).f0) == 4) != (x11 == 7)) = true then (impl_queueOk.j1 k (x11 == 7) x9 x10 x11 true ((rd_T153 x9 x11).f0) ((rd_T153 x9 x11).f1)) else (if ((rd_T153 x9 x11).f0) < 1 then (impl_queueOk.j1 k (x11 == 7) x9 x10 x11 true ((rd_T153 x9 x11).f0) ((rd_T153 x9 x11).f1)) else (impl_queueOk.j1 k (x11 == 7) x9 x10 x11 (decide (((rd_T153 x9 x11).f0) > 4)) ((rd_T153 x9 x11).f0) ((rd_T153 x9 x11).f1)))) else (none)) else (none)) else (some true)
def impl_queueOk.j1 : Nat → Bool → List (S153) → Int → Int → Bool → Int → List Int → Option (Bool)
  | 0, _, _, _, _, _, _, _ => none
  | k + 1, x5, x9, x10, x11, x32, x318000, x318001 => if x32 = true then (some false) else (if x5 = true then (if (x318001.length : Int) > 0 then (some false) else (impl_queueOk.l0 k x9 x10 (wrap64 (x11 + 1)))) else ((impl_ValidPath.f x318001).bind fun t318 => (if t318 = true then (impl_queueOk.l0 k x9 x10 (wrap64 (x11 + 1))) else (some false))))
end
def impl_queueOk.f (k : Nat) (l0 : List (S153)) : Option (Bool) := if (l0.length : Int) > 8 then (some false) else (impl_queueOk.l0 k l0 (l0.length : Int) 0)
set_option maxHeartbeats 8000000 in
set_option maxRecDepth 100000 in
theorem impl_queueOk.calls (k : Nat) (A0 : Option Addr) (c0 : Nat) (l0 : List (S153)) (r : Bool) (w : World) (hr0 : Kd.C k153 w A0 l0.length l0) (hc0 : l0.length ≤ c0) (h : impl_queueOk.f k l0 = some r) :
  Calls Tryz.prog 83 #[.slice A0 l0.length c0] w fun e w' => e = .returned (.bool r) ∧ Below w.heap.size w w' := by
 have hu153 := Tryz.underlying153
 have HR0 := Aside0.mk hr0
 have HC0 := Aside0.mk hc0
 clear hr0 hc0
 have HB := Aside0.mk (Below.refl w.heap.size w)
 have H : (if (l0.length : Int) > 8 then (some false) else (impl_queueOk.l0 k l0 (l0.length : Int) 0)) = some r := h
 clear h
 by_cases c2 : (l0.length : Int) > 8
 ·
  rw [if_pos c2] at H
  have c2b0 : decide (8 < (l0.length : Int)) = true := decide_eq_true c2
  have c2b1 : decide (8 < l0.length) = true := decide_eq_true (by omega)
  clear c2
  obtain rfl := Option.some.inj H
  go_enter Tryz.func83, Tryz.ntmps83
  go_wp2
  go_ret
  exact ⟨by first | rfl | (simp [errW_none, errW_some] <;> rfl) | (simp [*, errW_none, errW_some] <;> rfl), by repeat (first | (with_reducible first | exact HB.out | apply below_alloc | apply pw_below_drewN | apply below_drew1) | exact HB.out)⟩
 ·
  rw [if_neg c2] at H
  have c2b0 : decide (8 < (l0.length : Int)) = false := decide_eq_false c2
  have c2b1 : decide (8 < l0.length) = false := decide_eq_false (by omega)
  clear c2
  have H' := Aside0.mk H
  clear H
  go_enter Tryz.func83, Tryz.ntmps83
  go_wp2
  go_loopg [11] k (fun kq v11 w' => ∃ (x11_1 : Int), v11 = .int .i64 x11_1 ∧ Aside0 (impl_queueOk.l0 kq l0 (l0.length : Int) x11_1 = some r) ∧ Aside0 (kq ≤ k) ∧ Aside0 (Below w.heap.size w w'))
  case atStart => exact ⟨(0), (by first | rfl | (simp; done) | (simp [*]; done)), H', ⟨Nat.le_refl _⟩, ⟨by repeat (first | (with_reducible first | exact HB.out | apply below_alloc | apply pw_below_drewN | apply below_drew1) | exact HB.out)⟩⟩
  case round =>
   clear H'
   try clear c2
   try clear c2b0
   try clear c2b1
   try clear p2
   obtain ⟨x11_1, rfl, HA, HK1, HB⟩ := hrel
   cases gk with
   | zero => exact absurd HA.out (by simp [impl_queueOk.l0])
   | succ k1 =>
    have H := HA.out
    clear HA
    simp only [impl_queueOk.l0] at H
    by_cases c3 : x11_1 < (l0.length : Int)
    ·
     rw [if_pos c3] at H
     have c3b0 : decide (x11_1 < (l0.length : Int)) = true := decide_eq_true c3
     clear c3
     by_cases c4 : 0 ≤ x11_1
     ·
      rw [if_pos c4] at H
      have c4b0 : decide (0 ≤ x11_1) = true := decide_eq_true c4
      clear c4
      by_cases c5 : x11_1 < (l0.length : Int)
      ·
       rw [if_pos c5] at H
       have c5b0 : decide (x11_1 < (l0.length : Int)) = true := decide_eq_true c5
       clear c5
       have HC6 := Aside0.mk H
       clear H
       have p316 : 0 ≤ (x11_1 : Int) := of_decide_eq_true (by first | (with_reducible assumption) | assumption)
       have q316 : x11_1 < (l0.length : Int) := of_decide_eq_true (by first | (with_reducible assumption) | assumption)
       obtain ⟨ad316, A316_1, c316_1, e316, hx316_0, hx316_1, hl316_1, hi316_1⟩ := at_T153 HR0.out x11_1 p316 q316
       cases e316
       replace hx316_0 := (HB.out.cell (World.block_lt_of_cell? w _ hx316_0)).trans hx316_0
       replace hx316_1 := (HB.out.cell (World.block_lt_of_cell? w _ hx316_1)).trans hx316_1
       have HR316_1 := Aside0.mk hi316_1
       have HC316_1 := Aside0.mk hl316_1
       clear hi316_1 hl316_1
       replace p316 := eq_true p316
       replace q316 := eq_true q316
       go_upto_region 7 with (first | ((with_reducible refine gate_dst (N := 4) rfl ?_); (try (refine gate_guard (by rfl) ?_; dsimp only)); refine box_event ?hg (N := 4) ?hd (cs := #[.int .i64 0, .slice none 0 0]) (t := 153) ?hr ?_; (case hd => rfl); (case hg => rfl); (case hr => first | (go_simp; done) | (go_simp; rfl)); intro gb317 hg w7 hbox hb; have n0_ := Aside0.mk (below_step (by repeat (first | (with_reducible first | exact HB.out | apply below_alloc | apply pw_below_drewN | apply below_drew1) | exact HB.out)) hb); have n1_ := Aside0.mk (hbox); have n2_ := Aside0.mk ((by rw [hg]; exact (below_size (by repeat (first | (with_reducible first | exact HB.out | apply below_alloc | apply pw_below_drewN | apply below_drew1) | exact HB.out))) : w.heap.size ≤ gb317)); have n3_ := Aside0.mk ((by rw [hg]; exact (below_size (by repeat (first | (with_reducible first | exact HB.out | apply below_alloc | apply pw_below_drewN | apply below_drew1) | exact HB.out))) : w.heap.size ≤ gb317)); clear HB; have HB := n0_; have BK317 := n1_; have GW317 := n2_; have GE317 := n3_; clear n0_ n1_ n2_ n3_; clear hb hbox hg; have hcz8_0 : w7.cell? ⟨gb317, 0, none⟩ = some (.int .i64 0) := (blk_cell BK317.out 0).trans rfl; have hcz8_1 : w7.cell? ⟨gb317, 1, none⟩ = some (.slice none 0 0) := (blk_cell BK317.out 1).trans rfl; have hfz8_0 := blk_frozen BK317.out 0; have hfz8_1 := blk_frozen BK317.out 1))
       (try simp only [Act.put, List.setIfInBounds_toArray, List.set_cons_zero, List.set_cons_succ])
       go_cut [32] (fun v32 wc => ∃ (kq : Nat) (x32_5 : Bool), v32 = .bool x32_5 ∧ Aside0 (impl_queueOk.j1 kq (x11_1 == 7) l0 (l0.length : Int) x11_1 x32_5 ((rd_T153 l0 x11_1).f0) ((rd_T153 l0 x11_1).f1) = some r) ∧ Aside0 (kq ≤ k1) ∧ Aside0 (wc.heap[gb317]? = some (.cells #[.int .i64 ((rd_T153 l0 x11_1).f0), (.slice A316_1 ((rd_T153 l0 x11_1).f1).length c316_1)] 153 (0, 0))) ∧ Aside0 (Below w.heap.size w wc))
       case first =>
        have H := HC6.out
        clear HC6
        by_cases c9 : ((((rd_T153 l0 x11_1).f0) == 4) != (x11_1 == 7)) = true
        ·
         rw [if_pos c9] at H
         have c9b0 : ((((rd_T153 l0 x11_1).f0) == 4) != (x11_1 == 7)) = true := c9
         (try (have c9b1 : decide ((((rd_T153 l0 x11_1).f0) == 4) = (x11_1 == 7)) = false := by simpa using c9))
         (try (have c9b2 : ((((rd_T153 l0 x11_1).f0) == 4) == (x11_1 == 7)) = false := by simpa using c9))
         (try (have c9b3 : ¬ ((((rd_T153 l0 x11_1).f0) == 4) = (x11_1 == 7)) := by simpa using c9))
         clear c9
         (first | rw [c9b0] | (simp only [i64_w, i32_w]; rw [c9b0]) | skip)
         have H' := Aside0.mk H
         clear H
         have hcz10_0 : w7.cell? ⟨gb317, 0, none⟩ = some (.int .i64 0) := (blk_cell BK317.out 0).trans rfl
         have hcz10_1 : w7.cell? ⟨gb317, 1, none⟩ = some (.slice none 0 0) := (blk_cell BK317.out 1).trans rfl
         have hfz10_0 := blk_frozen BK317.out 0
         have hfz10_1 := blk_frozen BK317.out 1
         go_wp2
         go_meet
         case rel => exact ⟨_, (true), (by first | rfl | (simp; done) | (simp [*]; done)), H', ⟨by have := HK1.out; first | omega | exact Nat.le_refl _⟩, ⟨by (with_reducible repeat (first | refine blk_drewN ?_ _ | refine blk_drew ?_ | refine blk_alloc ?_ _)); refine blk_put (cs := #[.int .i64 ((rd_T153 l0 x11_1).f0), .slice none 0 0]) ?_ 1 _ rfl; (with_reducible repeat (first | refine blk_drewN ?_ _ | refine blk_drew ?_ | refine blk_alloc ?_ _)); refine blk_put (cs := #[.int .i64 0, .slice none 0 0]) ?_ 0 _ rfl; (with_reducible repeat (first | refine blk_drewN ?_ _ | refine blk_drew ?_ | refine blk_alloc ?_ _)); exact BK317.out⟩, ⟨by repeat (first | (with_reducible first | exact HB.out | apply below_alloc | apply pw_below_drewN | apply below_drew1 | refine below_set ?_ GE317.out) | exact HB.out)⟩⟩
        ·
         rw [if_neg c9] at H
         have c9b0 : ((((rd_T153 l0 x11_1).f0) == 4) != (x11_1 == 7)) = false := by simpa using c9
         (try (have c9b1 : decide ((((rd_T153 l0 x11_1).f0) == 4) = (x11_1 == 7)) = true := by simpa using c9))
         (try (have c9b2 : ((((rd_T153 l0 x11_1).f0) == 4) == (x11_1 == 7)) = true := by simpa using c9))
         clear c9
         (first | rw [c9b0] | (simp only [i64_w, i32_w]; rw [c9b0]) | skip)
         by_cases c11 : ((rd_T153 l0 x11_1).f0) < 1
         ·
          rw [if_pos c11] at H
          have c11b0 : decide (((rd_T153 l0 x11_1).f0) < 1) = true := decide_eq_true c11
          clear c11
          have H' := Aside0.mk H
          clear H
          have hcz12_0 : w7.cell? ⟨gb317, 0, none⟩ = some (.int .i64 0) := (blk_cell BK317.out 0).trans rfl
          have hcz12_1 : w7.cell? ⟨gb317, 1, none⟩ = some (.slice none 0 0) := (blk_cell BK317.out 1).trans rfl
          have hfz12_0 := blk_frozen BK317.out 0
          have hfz12_1 := blk_frozen BK317.out 1
          go_wp2
          go_meet
          case rel => exact ⟨_, (true), (by first | rfl | (simp; done) | (simp [*]; done)), H', ⟨by have := HK1.out; first | omega | exact Nat.le_refl _⟩, ⟨by (with_reducible repeat (first | refine blk_drewN ?_ _ | refine blk_drew ?_ | refine blk_alloc ?_ _)); refine blk_put (cs := #[.int .i64 ((rd_T153 l0 x11_1).f0), .slice none 0 0]) ?_ 1 _ rfl; (with_reducible repeat (first | refine blk_drewN ?_ _ | refine blk_drew ?_ | refine blk_alloc ?_ _)); refine blk_put (cs := #[.int .i64 0, .slice none 0 0]) ?_ 0 _ rfl; (with_reducible repeat (first | refine blk_drewN ?_ _ | refine blk_drew ?_ | refine blk_alloc ?_ _)); exact BK317.out⟩, ⟨by repeat (first | (with_reducible first | exact HB.out | apply below_alloc | apply pw_below_drewN | apply below_drew1 | refine below_set ?_ GE317.out) | exact HB.out)⟩⟩
         ·
          rw [if_neg c11] at H
          have c11b0 : decide (((rd_T153 l0 x11_1).f0) < 1) = false := decide_eq_false c11
          clear c11
          have H' := Aside0.mk H
          clear H
          have hcz13_0 : w7.cell? ⟨gb317, 0, none⟩ = some (.int .i64 0) := (blk_cell BK317.out 0).trans rfl
          have hcz13_1 : w7.cell? ⟨gb317, 1, none⟩ = some (.slice none 0 0) := (blk_cell BK317.out 1).trans rfl
          have hfz13_0 := blk_frozen BK317.out 0
          have hfz13_1 := blk_frozen BK317.out 1
          go_wp2
          go_meet
          case rel => exact ⟨_, (decide (((rd_T153 l0 x11_1).f0) > 4)), (by first | rfl | (simp; done) | (simp [*]; done)), H', ⟨by have := HK1.out; first | omega | exact Nat.le_refl _⟩, ⟨by (with_reducible repeat (first | refine blk_drewN ?_ _ | refine blk_drew ?_ | refine blk_alloc ?_ _)); refine blk_put (cs := #[.int .i64 ((rd_T153 l0 x11_1).f0), .slice none 0 0]) ?_ 1 _ rfl; (with_reducible repeat (first | refine blk_drewN ?_ _ | refine blk_drew ?_ | refine blk_alloc ?_ _)); refine blk_put (cs := #[.int .i64 0, .slice none 0 0]) ?_ 0 _ rfl; (with_reducible repeat (first | refine blk_drewN ?_ _ | refine blk_drew ?_ | refine blk_alloc ?_ _)); exact BK317.out⟩, ⟨by repeat (first | (with_reducible first | exact HB.out | apply below_alloc | apply pw_below_drewN | apply below_drew1 | refine below_set ?_ GE317.out) | exact HB.out)⟩⟩
       case rest =>
        clear HC6
        try clear c1
        try clear c2
        try clear c2b0
        try clear c2b1
        try clear p2
        try clear c3
        try clear c3b0
        try clear p3
        try clear q3
        try clear hx3
        try clear c4
        try clear c4b0
        try clear c5
        try clear c5b0
        try clear c8
        try clear c9
        try clear c9b0
        try clear c9b1
        try clear c9b2
        try clear c11
        try clear c11b0
        try clear hcz10_0
        try clear hcz10_1
        try clear hcz12_0
        try clear hcz12_1
        try clear hcz13_0
        try clear hcz13_1
        try clear hcz8_0
        try clear hcz8_1
        try clear hfz10_0
        try clear hfz10_1
        try clear hfz12_0
        try clear hfz12_1
        try clear hfz13_0
        try clear hfz13_1
        try clear hfz8_0
        try clear hfz8_1
        try clear hx316_0
        try clear hx316_1
        try clear p2
        try clear p316
        try clear q316
        obtain ⟨kq, x32_5, rfl, HA, HJ5, BK317, HB⟩ := hcut
        cases kq with
        | zero => exact absurd HA.out (by simp [impl_queueOk.j1])
        | succ kj5 =>
         have H := HA.out
         clear HA
         simp only [impl_queueOk.j1] at H
         by_cases c14 : x32_5 = true
         ·
          subst c14
          have H1 : (some false) = some r := by first | rfl | (rw [if_pos rfl] at H; exact H)
          clear H
          have H := H1
          clear H1
          obtain rfl := Option.some.inj H
          go_wp2
          go_ret
          exact ⟨by first | rfl | (simp [errW_none, errW_some] <;> rfl) | (simp [*, errW_none, errW_some] <;> rfl), by repeat (first | (with_reducible first | exact HB.out | apply below_alloc | apply pw_below_drewN | apply below_drew1 | refine below_set ?_ GE317.out) | exact HB.out)⟩
         ·
          replace c14 := Bool.eq_false_iff.mpr c14
          subst c14
          have H1 : (if (x11_1 == 7) = true then (if (((rd_T153 l0 x11_1).f1).length : Int) > 0 then (some false) else (impl_queueOk.l0 kj5 l0 (l0.length : Int) (wrap64 (x11_1 + 1)))) else ((impl_ValidPath.f ((rd_T153 l0 x11_1).f1)).bind fun t318 => (if t318 = true then (impl_queueOk.l0 kj5 l0 (l0.length : Int) (wrap64 (x11_1 + 1))) else (some false)))) = some r := by first | rfl | (rw [if_neg (show ¬ (false = true) by decide)] at H; exact H)
          clear H
          have H := H1
          clear H1
          by_cases c15 : (x11_1 == 7) = true
          ·
           rw [if_pos c15] at H
           have c15b0 : (x11_1 == 7) = true := c15
           (try (have c15b1 : decide (x11_1 = 7) = true := by simpa using c15))
           (try (have c15b2 : (x11_1 == 7) = true := by simpa using c15))
           clear c15
           by_cases c16 : (((rd_T153 l0 x11_1).f1).length : Int) > 0
           ·
            rw [if_pos c16] at H
            have c16b0 : decide (0 < (((rd_T153 l0 x11_1).f1).length : Int)) = true := decide_eq_true c16
            have c16b1 : decide (0 < ((rd_T153 l0 x11_1).f1).length) = true := decide_eq_true (by omega)
            clear c16
            obtain rfl := Option.some.inj H
            have hcz17_0 : wc.cell? ⟨gb317, 0, none⟩ = some (.int .i64 ((rd_T153 l0 x11_1).f0)) := (blk_cell BK317.out 0).trans rfl
            have hcz17_1 : wc.cell? ⟨gb317, 1, none⟩ = some (.slice A316_1 ((rd_T153 l0 x11_1).f1).length c316_1) := (blk_cell BK317.out 1).trans rfl
            have hfz17_0 := blk_frozen BK317.out 0
            have hfz17_1 := blk_frozen BK317.out 1
            go_wp2
            go_ret
            exact ⟨by first | rfl | (simp [errW_none, errW_some] <;> rfl) | (simp [*, errW_none, errW_some] <;> rfl), by repeat (first | (with_reducible first | exact HB.out | apply below_alloc | apply pw_below_drewN | apply below_drew1 | refine below_set ?_ GE317.out) | exact HB.out)⟩
           ·
            rw [if_neg c16] at H
            have c16b0 : decide (0 < (((rd_T153 l0 x11_1).f1).length : Int)) = false := decide_eq_false c16
            have c16b1 : decide (0 < ((rd_T153 l0 x11_1).f1).length) = false := decide_eq_false (by omega)
            clear c16
            have H' := Aside0.mk H
            clear H
            have hcz18_0 : wc.cell? ⟨gb317, 0, none⟩ = some (.int .i64 ((rd_T153 l0 x11_1).f0)) := (blk_cell BK317.out 0).trans rfl
            have hcz18_1 : wc.cell? ⟨gb317, 1, none⟩ = some (.slice A316_1 ((rd_T153 l0 x11_1).f1).length c316_1) := (blk_cell BK317.out 1).trans rfl
            have hfz18_0 := blk_frozen BK317.out 0
            have hfz18_1 := blk_frozen BK317.out 1
            go_wp2
            go_roundg kj5
            case measure => have := HK1.out; have := HJ5.out; omega
            case rel => exact ⟨(wrap64 (x11_1 + 1)), (by first | rfl | (simp; done) | (simp [*]; done)), H', ⟨by have := HK1.out; have := HJ5.out; omega⟩, ⟨by repeat (first | (with_reducible first | exact HB.out | apply below_alloc | apply pw_below_drewN | apply below_drew1 | refine below_set ?_ GE317.out) | exact HB.out)⟩⟩
          ·
           rw [if_neg c15] at H
           have c15b0 : (x11_1 == 7) = false := by simpa using c15
           (try (have c15b1 : decide (x11_1 = 7) = false := by simpa using c15))
           (try (have c15b2 : (x11_1 == 7) = false := by simpa using c15))
           (try (have c15b3 : ¬ (x11_1 = 7) := by simpa using c15))
           clear c15
           replace H := Option.bind_eq_some_iff.mp H
           obtain ⟨t318, A190, H⟩ := H
           replace H : (if t318 = true then (impl_queueOk.l0 kj5 l0 (l0.length : Int) (wrap64 (x11_1 + 1))) else (some false)) = some r := H
           have A19 := Aside0.mk A190
           clear A190
           by_cases c20 : t318 = true
           ·
            subst c20
            have H1 : (impl_queueOk.l0 kj5 l0 (l0.length : Int) (wrap64 (x11_1 + 1))) = some r := by first | rfl | (rw [if_pos rfl] at H; exact H)
            clear H
            have H := H1
            clear H1
            have H' := Aside0.mk H
            clear H
            have hcz21_0 : wc.cell? ⟨gb317, 0, none⟩ = some (.int .i64 ((rd_T153 l0 x11_1).f0)) := (blk_cell BK317.out 0).trans rfl
            have hcz21_1 : wc.cell? ⟨gb317, 1, none⟩ = some (.slice A316_1 ((rd_T153 l0 x11_1).f1).length c316_1) := (blk_cell BK317.out 1).trans rfl
            have hfz21_0 := blk_frozen BK317.out 0
            have hfz21_1 := blk_frozen BK317.out 1
            go_wp2_with (first | (go_at_call 85; (with_reducible refine (impl_ValidPath.calls _ _ ((rd_T153 l0 x11_1).f1) true _ ?side1 ?side2 A19.out).mono ?_); (case side1 => repeat (first | exact (Kd.C_below HR316_1.out HB.out) | (with_reducible refine Kd.C_alloc ?_ _) | (with_reducible refine Kd.C_drewN ?_ _) | (with_reducible refine Kd.C_drew ?_))); (case side2 => exact HC316_1.out); rintro e w22 ⟨rfl, hb⟩; have n0_ := Aside0.mk (blk_below (g := gb317) (o := .cells #[.int .i64 ((rd_T153 l0 x11_1).f0), .slice A316_1 ((rd_T153 l0 x11_1).f1).length c316_1] 153 (0, 0)) (by (with_reducible repeat (first | refine blk_drewN ?_ _ | refine blk_drew ?_ | refine blk_alloc ?_ _)); exact BK317.out) hb); have n1_ := Aside0.mk (below_step (by repeat (first | (with_reducible first | exact HB.out | apply below_alloc | apply pw_below_drewN | apply below_drew1 | refine below_set ?_ GE317.out) | exact HB.out)) hb); clear BK317; clear HB; have BK317 := n0_; have HB := n1_; clear n0_ n1_; (try clear hb); (try clear hb2); (try clear hk); (try clear hi)))
            go_roundg kj5
            case measure => have := HK1.out; have := HJ5.out; omega
            case rel => exact ⟨(wrap64 (x11_1 + 1)), (by first | rfl | (simp; done) | (simp [*]; done)), H', ⟨by have := HK1.out; have := HJ5.out; omega⟩, ⟨by repeat (first | (with_reducible first | exact HB.out | apply below_alloc | apply pw_below_drewN | apply below_drew1 | refine below_set ?_ GE317.out) | exact HB.out)⟩⟩
           ·
            replace c20 := Bool.eq_false_iff.mpr c20
            subst c20
            have H1 : (some false) = some r := by first | rfl | (rw [if_neg (show ¬ (false = true) by decide)] at H; exact H)
            clear H
            have H := H1
            clear H1
            obtain rfl := Option.some.inj H
            have hcz23_0 : wc.cell? ⟨gb317, 0, none⟩ = some (.int .i64 ((rd_T153 l0 x11_1).f0)) := (blk_cell BK317.out 0).trans rfl
            have hcz23_1 : wc.cell? ⟨gb317, 1, none⟩ = some (.slice A316_1 ((rd_T153 l0 x11_1).f1).length c316_1) := (blk_cell BK317.out 1).trans rfl
            have hfz23_0 := blk_frozen BK317.out 0
            have hfz23_1 := blk_frozen BK317.out 1
            go_wp2_with (first | (go_at_call 85; (with_reducible refine (impl_ValidPath.calls _ _ ((rd_T153 l0 x11_1).f1) false _ ?side1 ?side2 A19.out).mono ?_); (case side1 => repeat (first | exact (Kd.C_below HR316_1.out HB.out) | (with_reducible refine Kd.C_alloc ?_ _) | (with_reducible refine Kd.C_drewN ?_ _) | (with_reducible refine Kd.C_drew ?_))); (case side2 => exact HC316_1.out); rintro e w24 ⟨rfl, hb⟩; have n0_ := Aside0.mk (blk_below (g := gb317) (o := .cells #[.int .i64 ((rd_T153 l0 x11_1).f0), .slice A316_1 ((rd_T153 l0 x11_1).f1).length c316_1] 153 (0, 0)) (by (with_reducible repeat (first | refine blk_drewN ?_ _ | refine blk_drew ?_ | refine blk_alloc ?_ _)); exact BK317.out) hb); have n1_ := Aside0.mk (below_step (by repeat (first | (with_reducible first | exact HB.out | apply below_alloc | apply pw_below_drewN | apply below_drew1 | refine below_set ?_ GE317.out) | exact HB.out)) hb); clear BK317; clear HB; have BK317 := n0_; have HB := n1_; clear n0_ n1_; (try clear hb); (try clear hb2); (try clear hk); (try clear hi)))
            go_ret
            exact ⟨by first | rfl | (simp [errW_none, errW_some] <;> rfl) | (simp [*, errW_none, errW_some] <;> rfl), by repeat (first | (with_reducible first | exact HB.out | apply below_alloc | apply pw_below_drewN | apply below_drew1 | refine below_set ?_ GE317.out) | exact HB.out)⟩
      ·
       rw [if_neg c5] at H
       exact absurd H (by simp)
     ·
      rw [if_neg c4] at H
      exact absurd H (by simp)
    ·
     rw [if_neg c3] at H
     have c3b0 : decide (x11_1 < (l0.length : Int)) = false := decide_eq_false c3
     clear c3
     obtain rfl := Option.some.inj H
     go_wp2
     go_ret
     exact ⟨by first | rfl | (simp [errW_none, errW_some] <;> rfl) | (simp [*, errW_none, errW_some] <;> rfl), by repeat (first | (with_reducible first | exact HB.out | apply below_alloc | apply pw_below_drewN | apply below_drew1) | exact HB.out)⟩
end
theorem headOk_f (e g n t : Int) (xs : List Se) (ns : List No) : impl_headOk.f e g n t xs ns = some (headB e g n t xs.length ns.length) := by
 unfold impl_headOk.f headB
 by_cases c1 : e ≤ 4611686018427387904
 ·
  rw [if_pos c1, decide_eq_true c1]
  by_cases c2 : g ≤ 4611686018427387904
  ·
   rw [if_pos c2, decide_eq_true c2]
   by_cases c3 : n ≤ 4611686018427387904
   ·
    rw [if_pos c3, decide_eq_true c3]
    by_cases c4 : 0 ≤ t
    ·
     rw [if_pos c4, decide_eq_true c4]
     by_cases c5 : t ≤ 1000000
     ·
      rw [if_pos c5, decide_eq_true c5]
      by_cases c6 : xs.length ≤ 50
      ·
       rw [if_pos (by omega), decide_eq_true c6]
       by_cases c7 : ns.length ≤ 200
       ·
        rw [decide_eq_true c7, decide_eq_true (show (ns.length : Int) ≤ 200 by omega)]; rfl
       ·
        rw [decide_eq_false c7, decide_eq_false (show ¬ (ns.length : Int) ≤ 200 by omega)]; rfl
      ·
       rw [if_neg (by omega), decide_eq_false c6]; rfl
     ·
      rw [if_neg c5, decide_eq_false c5]; rfl
    ·
     rw [if_neg c4, decide_eq_false c4]; rfl
   ·
    rw [if_neg c3, decide_eq_false c3]; rfl
  ·
   rw [if_neg c2, decide_eq_false c2]; rfl
 ·
  rw [if_neg c1, decide_eq_false c1]; rfl
theorem wrap_dn' (i : Nat) (h0 : 0 < i) (h : i ≤ 140737488355328) : wrap64 ((i : Int) - 1) = ((i - 1 : Nat) : Int) := by unfold wrap64; omega
theorem asc_loop (l : List Int) (hl : l.length ≤ 2097152) : ∀ (d k i : Nat), 0 < i → (i + d = l.length ∨ (l.length < i ∧ d = 0)) → d < k → impl_ascending.l0 k l (i : Int) = some (allI (fun i x => i == 0 || decide (l.getD (i - 1) 0 < x)) i (l.drop i)) := by
 intro d
 induction d with
 | zero =>
  intro k i h0 hi hk
  obtain ⟨k, rfl⟩ : ∃ m, k = m + 1 := ⟨k - 1, by omega⟩
  rw [impl_ascending.l0, if_neg (by omega), allI_end _ l i (by omega)]
 | succ d ih =>
  intro k i h0 hi hk
  obtain ⟨k, rfl⟩ : ∃ m, k = m + 1 := ⟨k - 1, by omega⟩
  have hlt : i < l.length := by omega
  rw [impl_ascending.l0, if_pos (by omega), wrap_dn' i h0 (by omega), if_pos (by omega), if_pos (by omega), if_pos (by omega), rd_nat, rd_nat, getD_at l i hlt, allI_drop _ l i hlt]
  have e0 : (i == 0) = false := beq_eq_false_iff_ne.2 (by omega)
  simp only [e0, Bool.false_or]
  by_cases c : l.getD (i - 1) 0 ≥ l[i]
  ·
   rw [if_pos c, decide_eq_false (by omega)]; rfl
  ·
   rw [if_neg c, decide_eq_true (by omega), wrap_up i (by omega), ih k (i + 1) (by omega) (by omega) (by omega)]; rfl
theorem asc_f (l : List Int) (hl : l.length ≤ 2097152) : impl_ascending.f 10000000 l = some (ascB l) := by
 unfold impl_ascending.f ascB
 by_cases h0 : l.length = 0
 ·
  have : l = [] := List.length_eq_zero_iff.1 h0
  subst this
  rfl
 ·
  have := asc_loop l hl (l.length - 1) 10000000 1 (by omega) (by omega) (by omega)
  refine Eq.trans this ?_
  have e := allI_drop (fun (i : Nat) (x : Int) => i == 0 || decide (l.getD (i - 1) 0 < x)) l 0 (by omega)
  rw [List.drop_zero] at e
  rw [e]
  rfl
theorem lockI_f (e g n t : Int) (xs : List Se) (ns : List No) (p v : List Int) (o m : Int) (h : List Int) (ep ge : Int) (wa : List Int) : impl_lockOk.f e g n t xs ns p v o m h ep ge wa = some (lockB e g ⟨p, v, o, m, h, ep, ge, wa⟩) := rfl
theorem rd_ev (q : List Ev) (i : Nat) (h : i < q.length) : rd_T153 q (i : Int) = q[i] := by unfold rd_T153; rw [Int.toNat_natCast, List.getD_eq_getElem?_getD, List.getElem?_eq_getElem h]; rfl
theorem queue_loop (q : List Ev) (hl : q.length ≤ 8) (hb : ∀ e ∈ q, ∀ z ∈ e.f1, 0 ≤ z ∧ z < 256) : ∀ (d k i : Nat), i + d = q.length → 2 * d < k → impl_queueOk.l0 k q (q.length : Int) (i : Int) = some (allI evB i (q.drop i)) := by
 intro d
 induction d with
 | zero =>
  intro k i hi hk
  obtain ⟨k, rfl⟩ : ∃ m, k = m + 1 := ⟨k - 1, by omega⟩
  rw [impl_queueOk.l0, if_neg (by omega), allI_end _ q i (by omega)]
 | succ d ih =>
  intro k i hi hk
  obtain ⟨k, rfl⟩ : ∃ m, k = m + 2 := ⟨k - 2, by omega⟩
  have hlt : i < q.length := by omega
  have hv : impl_ValidPath.f q[i].f1 = some (pathB q[i].f1) := by unfold impl_ValidPath.f; rw [if_pos (bytesB_iff.2 (hb _ (List.getElem_mem hlt)))]
  rw [impl_queueOk.l0, if_pos (by omega), if_pos (by omega), if_pos (by omega), rd_ev q i hlt, allI_drop _ q i hlt]
  have hn := ih k (i + 1) (by omega) (by omega)
  rw [show ((i + 1 : Nat) : Int) = wrap64 ((i : Int) + 1) from (wrap_up i (by omega)).symm] at hn
  obtain ⟨x, hx⟩ : ∃ x, q[i] = x := ⟨_, rfl⟩
  rw [hx] at hv ⊢
  obtain ⟨kd, pa⟩ := x
  obtain ⟨b, hbb⟩ : ∃ b, allI evB (i + 1) (q.drop (i + 1)) = b := ⟨_, rfl⟩
  rw [hbb] at hn ⊢
  simp only at hv ⊢
  unfold evB
  simp only
  by_cases h7 : i = 7
  ·
   have e7 : ((i : Int) == 7) = true := beq_iff_eq.2 (by omega)
   rw [e7, if_pos h7]
   by_cases h4 : kd = 4
   ·
    subst h4
    rw [if_neg (by decide), if_neg (by omega), decide_eq_false (by omega), impl_queueOk.j1, if_neg (by simp), if_pos rfl]
    by_cases hp : (pa.length : Int) > 0
    ·
     rw [if_pos hp, show (pa.length == 0) = false from beq_eq_false_iff_ne.2 (by omega)]; rfl
    ·
     rw [if_neg hp, show (pa.length == 0) = true from beq_iff_eq.2 (by omega), hn]; rfl
   ·
    have e4 : (kd == 4) = false := beq_eq_false_iff_ne.2 h4
    rw [e4, if_pos (by decide), impl_queueOk.j1, if_pos rfl]; rfl
  ·
   have e7 : ((i : Int) == 7) = false := beq_eq_false_iff_ne.2 (by omega)
   rw [e7, if_neg h7]
   by_cases h4 : kd = 4
   ·
    subst h4
    rw [if_pos (by decide), impl_queueOk.j1, if_pos rfl]; rfl
   ·
    have e4 : (kd == 4) = false := beq_eq_false_iff_ne.2 h4
    have e5 : (kd != 4) = true := by rw [bne, e4]; rfl
    rw [e4, e5, if_neg (by decide)]
    by_cases h1 : kd < 1
    ·
     rw [if_pos h1, impl_queueOk.j1, if_pos rfl, decide_eq_false (show ¬ 1 ≤ kd by omega)]; rfl
    ·
     rw [if_neg h1, decide_eq_true (show 1 ≤ kd by omega)]
     by_cases h3 : kd ≤ 3
     ·
      rw [decide_eq_false (show ¬ kd > 4 by omega), impl_queueOk.j1, if_neg (by simp), if_neg (by simp), hv, Option.bind_some, decide_eq_true h3]
      cases pathB pa with
      | true => rw [if_pos rfl, hn]; rfl
      | false => rw [if_neg (by simp)]; rfl
     ·
      rw [decide_eq_true (show kd > 4 by omega), impl_queueOk.j1, if_pos rfl, decide_eq_false h3]; rfl
theorem queueI_f (q : List Ev) (hb : ∀ e ∈ q, ∀ z ∈ e.f1, 0 ≤ z ∧ z < 256) : impl_queueOk.f 10000000 q = some (queueB q) := by
 unfold impl_queueOk.f queueB
 by_cases h8 : (q.length : Int) > 8
 ·
  rw [if_pos h8, decide_eq_false (by omega)]; rfl
 ·
  rw [if_neg h8, decide_eq_true (by omega)]
  have := queue_loop q (by omega) hb q.length 10000000 0 (by omega) (by omega)
  rw [List.drop_zero] at this
  exact this
structure IdMap (w : World) (b n : Nat) (xs : List Se) : Prop where
 out : ∃ D : DataW Unit, w.ownsMap Tryz.prog 22 (plainElem Tryz.prog 3) b n D ∧ ∀ id : Int, 0 ≤ id → id < 18446744073709551616 → Maps.has D (.int .u64 id) = liveB xs id
theorem owns_below {H : Type} {P : Program} {k : TypeId} {R : Value → Option (DataW H × List MemPlace)} {w w' : World} {b n : Nat} {D : DataW H} (h : w.ownsMap P k R b n D) {base : Nat} (hb : b < base) (hB : Below base w w') : w'.ownsMap P k R b n D := by
 obtain ⟨es, clock, h1, h2⟩ := h
 exact ⟨es, clock, (hB.block b hb).trans h1, h2⟩
theorem IdMap.below {w w' : World} {b n : Nat} {xs : List Se} (h : IdMap w b n xs) {base : Nat} (hb : b < base) (hB : Below base w w') : IdMap w' b n xs := by
 obtain ⟨D, h1, h2⟩ := h.out
 exact ⟨D, owns_below h1 hb hB, h2⟩
theorem IdMap.lt {w : World} {b n : Nat} {xs : List Se} (h : IdMap w b n xs) : b < w.heap.size := by
 obtain ⟨D, h1, h2⟩ := h.out
 exact h1.lt
theorem zero_int (w : World) : (zeroValue 3).run Tryz.prog w = .ok (.int .i64 0) w := by kernel_rfl
theorem wf_u64 {id : Int} (h0 : 0 ≤ id) (h1 : id < 18446744073709551616) : (Lit.int .u64 id).wf = true := by
  unfold Lit.wf
  rw [Bool.and_eq_true, decide_eq_true_eq, decide_eq_true_eq]
  exact ⟨by have : IntKind.u64.min = 0 := by decide
            rw [this]; exact h0, by have : IntKind.u64.max = 18446744073709551615 := by decide
                                    rw [this]; omega⟩
set_option maxHeartbeats 2000000 in
set_option maxRecDepth 100000 in
theorem strange_calls (g b n : Nat) (xs : List Se) (id : Int) (w : World) (hbox : w.cell? ⟨g, 0, none⟩ = some (.map (some b))) (hm : IdMap w b n xs) (h0 : 0 ≤ id) (h1 : id < 18446744073709551616) :
  Calls Tryz.prog 84 #[.int .u64 id, .pointer (some ⟨g, 0, none⟩)] w fun e w' => e = .returned (.bool (!liveB xs id)) ∧ w' = w := by
 obtain ⟨D, hown, hhas⟩ := hm.out
 have HO := Aside0.mk hown
 have HH := Aside0.mk (hhas id h0 h1)
 have HK := Aside0.mk (Maps.keyOf_int_mk (P := Tryz.prog) (k := 22) Tryz.underlying22 (wf_u64 h0 h1))
 clear hown hhas hm h0 h1
 go_enter Tryz.func84, Tryz.ntmps84
 go_wp2_with (at_lookup; refine wpList_lookup_own_ok_int _ rfl _ _ 109 rfl 22 3 .i64 (Maps.int_keyed Tryz.underlying22) Tryz.underlying109 Tryz.underlying3 (zero_int _) b n D rfl HO.out _ _ rfl HK.out ?_; intro c hat hwc)
 go_ret
 rw [← HH.out]
 exact ⟨rfl, rfl⟩
set_option maxHeartbeats 2000000 in
set_option maxRecDepth 100000 in
theorem indexU_calls (g b n : Nat) (xs : List Se) (A : Option Addr) (c : Nat) (l : List Int) (w : World) (hC : Kd.C (Kd.int .u64) w A l.length l) (hl : l.length ≤ 2097152) (hr : ∀ z ∈ l, 0 ≤ z ∧ z < 18446744073709551616) (hbox : w.cell? ⟨g, 0, none⟩ = some (.map (some b))) (hm : IdMap w b n xs) :
  Calls Tryz.prog 137 #[.slice A l.length c, .func (.func 84) #[] #[.pointer (some ⟨g, 0, none⟩)]] w fun e w' => (∃ k : Int, e = .returned (.int .i64 k) ∧ decide (0 ≤ k) = !(l.all (liveB xs))) ∧ w' = w := by
 have HR := Aside0.mk hC
 have HL := Aside0.mk hl
 have ST := Aside0.mk (fun (id : Int) (h0 : 0 ≤ id) (h1 : id < 18446744073709551616) => strange_calls g b n xs id w hbox hm h0 h1)
 have HRG := Aside0.mk hr
 clear hC hl hr hbox hm
 go_enter Tryz.func137, Tryz.ntmps137
 go_wp2_with fail
 go_loop [8] (fun v8 => ∃ i : Nat, v8 = .int .i64 i ∧ Aside0 (i ≤ l.length) ∧ Aside0 (∀ j (h : j < l.length), j < i → liveB xs l[j] = true)) (fun v8 => l.length - (intOf v8).toNat)
 case atStart => exact ⟨0, rfl, ⟨by omega⟩, ⟨fun j _ h => absurd h (by omega)⟩⟩
 case round =>
  obtain ⟨i, rfl, HI, HV⟩ := hrel
  have hi0 := HI.out
  have hl0 := HL.out
  by_cases hi : i < l.length
  ·
   have c1 : decide ((i : Int) < (l.length : Int)) = true := decide_eq_true (by omega)
   have ci : (0 : Int) ≤ (i : Int) := by omega
   have ci2 : (i : Int) < (l.length : Int) := by omega
   obtain ⟨ad, rfl, hx⟩ := Kd.at_int HR.out (i : Int) (by omega) (by omega)
   rw [Int.toNat_natCast, rd_nat, getD_at l i hi] at hx
   have hrg := HRG.out l[i] (List.getElem_mem hi)
   have CALL := Aside0.mk (ST.out l[i] hrg.1 hrg.2)
   have HN := Aside0.mk (fun (hx : liveB xs l[i] = true) => (show ∀ j (h : j < l.length), j < i + 1 → liveB xs l[j] = true from fun j h hj => by
    by_cases e : j = i
    ·
     subst e; exact hx
    ·
     exact HV.out j h (by omega)))
   have HF := Aside0.mk (fun (hx : liveB xs l[i] = false) => (show l.all (liveB xs) = false from by
    rw [← Bool.not_eq_true, List.all_eq_true]
    intro h
    rw [h _ (List.getElem_mem hi)] at hx
    exact absurd hx (by decide)))
   obtain ⟨x, hxx⟩ : ∃ x, l[i] = x := ⟨_, rfl⟩
   rw [hxx] at hx CALL
   simp only [hxx] at HN HF
   clear hxx hrg
   obtain ⟨bb, hbb⟩ : ∃ bb, liveB xs x = bb := ⟨_, rfl⟩
   rw [hbb] at CALL
   simp only [hbb] at HN HF
   clear hbb
   cases bb with
   | true =>
    have HN2 := Aside0.mk (HN.out rfl)
    clear HN HF HV
    go_wp2_with (go_at_call 84; refine CALL.out.mono ?_; rintro e w' ⟨rfl, hw⟩; obtain rfl : w = w' := hw.symm; clear hw)
    go_round
    case rel => exact ⟨i + 1, by go_num, ⟨by omega⟩, HN2⟩
    case measure => simp [intOf]; omega
   | false =>
    have HF2 := Aside0.mk (HF.out rfl)
    clear HN HF HV
    go_wp2_with (go_at_call 84; refine CALL.out.mono ?_; rintro e w' ⟨rfl, hw⟩; obtain rfl : w = w' := hw.symm; clear hw)
    go_ret
    rw [HF2.out]
    exact ⟨⟨(i : Int), rfl, by simp⟩, rfl⟩
  ·
   have c1 : decide ((i : Int) < (l.length : Int)) = false := decide_eq_false (by omega)
   have HA := Aside0.mk (show l.all (liveB xs) = true from by
    rw [List.all_eq_true]
    intro x hx
    obtain ⟨j, hj, rfl⟩ := List.mem_iff_getElem.1 hx
    exact HV.out j hj (by omega))
   go_wp2_with fail
   go_ret
   rw [HA.out]
   exact ⟨⟨-1, rfl, by simp⟩, rfl⟩
set_option maxHeartbeats 2000000 in
set_option maxRecDepth 100000 in
theorem containsU_calls (g b n : Nat) (xs : List Se) (A : Option Addr) (c : Nat) (l : List Int) (w : World) (hC : Kd.C (Kd.int .u64) w A l.length l) (hl : l.length ≤ 2097152) (hr : ∀ z ∈ l, 0 ≤ z ∧ z < 18446744073709551616) (hbox : w.cell? ⟨g, 0, none⟩ = some (.map (some b))) (hm : IdMap w b n xs) :
  Calls Tryz.prog 88 #[.slice A l.length c, .func (.func 84) #[] #[.pointer (some ⟨g, 0, none⟩)]] w fun e w' => e = .returned (.bool (!(l.all (liveB xs)))) ∧ w' = w := by
 have CALL := Aside0.mk (indexU_calls g b n xs A c l w hC hl hr hbox hm)
 clear hC hl hr hbox hm
 go_enter Tryz.func88, Tryz.ntmps88
 go_wp2_with (go_at_call 137; refine CALL.out.mono ?_; rintro e w' ⟨⟨k, rfl, hk⟩, hw⟩; obtain rfl : w = w' := hw.symm)
 go_ret
 rw [← hk]
 exact ⟨rfl, rfl⟩
theorem idMap_put {w w' : World} {b n : Nat} {xs : List Se} {D : DataW Unit} (hD : w.ownsMap Tryz.prog 22 (plainElem Tryz.prog 3) b n D) (hh : ∀ id : Int, 0 ≤ id → id < 18446744073709551616 → Maps.has D (.int .u64 id) = liveB xs id) (x : Se) (d : DataW Unit)
  (h' : w'.ownsMap Tryz.prog 22 (plainElem Tryz.prog 3) b (n + 1) (D.put (.int .u64 x.f0) d)) : IdMap w' b (n + 1) (xs ++ [x]) := by
 refine ⟨_, h', fun id h0 h1 => ?_⟩
 have e : liveB (xs ++ [x]) id = (liveB xs id || x.f0 == id) := by unfold liveB; rw [List.any_append]; simp
 rw [e]
 by_cases c : id = x.f0
 ·
  subst c
  rw [Maps.has_put_same hD.isMap (show WideAt.IsKeyLit (.int .u64 x.f0) from trivial), beq_self_eq_true, Bool.or_true]
 ·
  rw [Maps.has_put_other (by simpa using c), hh id h0 h1, beq_eq_false_iff_ne.2 (fun h => c h.symm), Bool.or_false]
theorem idMap_made (w : World) : IdMap (w.alloc (.map #[] 0)) w.heap.size 0 [] := ⟨_, World.ownsMap_made w _ _ _, fun id _ _ => rfl⟩
def lookF (ns : List No) (q : List Int) : Option Int :=
 ns.foldl (fun acc nd => if nd.f0 == q then some nd.f2 else acc) (if q == [47] then some 0 else none)
structure OwnMap (w : World) (b n : Nat) (ns : List No) : Prop where
 out : ∃ D : DataW Unit, w.ownsMap Tryz.prog 9 (plainElem Tryz.prog 22) b n D ∧ ∀ q : List Int, (∀ z ∈ q, 0 ≤ z ∧ z < 256) →
  Maps.has D (.string (Lib.bytesOf q)) = (lookF ns q).isSome ∧ D.atKey (.string (Lib.bytesOf q)) (.lit (.int .u64 0)) = .lit (.int .u64 ((lookF ns q).getD 0))
theorem OwnMap.below {w w' : World} {b n : Nat} {xs : List No} (h : OwnMap w b n xs) {base : Nat} (hb : b < base) (hB : Below base w w') : OwnMap w' b n xs := by
 obtain ⟨D, h1, h2⟩ := h.out
 exact ⟨D, owns_below h1 hb hB, h2⟩
theorem OwnMap.lt {w : World} {b n : Nat} {xs : List No} (h : OwnMap w b n xs) : b < w.heap.size := by
 obtain ⟨D, h1, h2⟩ := h.out
 exact h1.lt
theorem ownMap_put {w w' : World} {b n : Nat} {ns : List No} {D : DataW Unit} (hD : w.ownsMap Tryz.prog 9 (plainElem Tryz.prog 22) b n D) (hh : ∀ q : List Int, (∀ z ∈ q, 0 ≤ z ∧ z < 256) →
  Maps.has D (.string (Lib.bytesOf q)) = (lookF ns q).isSome ∧ D.atKey (.string (Lib.bytesOf q)) (.lit (.int .u64 0)) = .lit (.int .u64 ((lookF ns q).getD 0))) (x : No) (hx : ∀ z ∈ x.f0, 0 ≤ z ∧ z < 256)
  (h' : w'.ownsMap Tryz.prog 9 (plainElem Tryz.prog 22) b (n + 1) (D.put (.string (Lib.bytesOf x.f0)) (.lit (.int .u64 x.f2)))) : OwnMap w' b (n + 1) (ns ++ [x]) := by
 refine ⟨_, h', fun q hq => ?_⟩
 have e : lookF (ns ++ [x]) q = if x.f0 == q then some x.f2 else lookF ns q := by unfold lookF; rw [List.foldl_append]; rfl
 rw [e]
 by_cases c : x.f0 = q
 ·
  subst c
  rw [Maps.has_put_same hD.isMap (show WideAt.IsKeyLit (.string (Lib.bytesOf x.f0)) from trivial), Maps.atKey_put_same hD.isMap (show WideAt.IsKeyLit (.string (Lib.bytesOf x.f0)) from trivial), if_pos (by simp)]
  exact ⟨rfl, rfl⟩
 ·
  have hne : (Lit.string (Lib.bytesOf q)) ≠ .string (Lib.bytesOf x.f0) := fun h => c (bytesOf_inj hx hq (by injection h with h; exact h.symm))
  rw [Maps.has_put_other hne, Maps.atKey_put_other hne, if_neg (by simpa using c)]
  exact hh q hq
theorem ownMap_root {w w' : World} {b n : Nat} (h' : w'.ownsMap Tryz.prog 9 (plainElem Tryz.prog 22) b n ((DataW.map [] : DataW Unit).put (.string [47]) (.lit (.int .u64 0)))) : OwnMap w' b n [] := by
 refine ⟨_, h', fun q hq => ?_⟩
 have e47 : Lib.bytesOf [47] = [47] := rfl
 have hm : Maps.IsMap (DataW.map [] : DataW Unit) := ⟨_, rfl⟩
 by_cases c : q = [47]
 ·
  subst c
  rw [e47, Maps.has_put_same hm (show WideAt.IsKeyLit (.string [47]) from trivial), Maps.atKey_put_same hm (show WideAt.IsKeyLit (.string [47]) from trivial)]
  exact ⟨rfl, rfl⟩
 ·
  have hne : (Lit.string (Lib.bytesOf q)) ≠ .string [47] := fun h => c (bytesOf_inj hq (by decide) (by injection h with h))
  rw [Maps.has_put_other hne, Maps.atKey_put_other hne]
  have : lookF [] q = none := by unfold lookF; rw [List.foldl_nil, if_neg (by simpa using c)]
  rw [this]
  exact ⟨rfl, rfl⟩
theorem key_str (q : List Int) (hl : q.length ≤ 2097152) : keyOf Tryz.prog 9 (.string (strOfNums q)) = some (.string (Lib.bytesOf q)) := by
 rw [Go.keyOf_string Tryz.underlying9]
 unfold mapKey
 rw [Tryz.underlying9]
 have hs : (strOfNums q).size = q.length := strOfNums_size q
 simp only [hs]
 rw [if_pos (by unfold maxLen; omega), strOfNums_data]
 rfl
theorem lookF_canPar : ∀ (ns : List No) (q : List Int), (∀ x ∈ ns, x.f0 ≠ [47]) → ns.Pairwise (fun a b => a.f0 ≠ b.f0) → canParB ns q = (lookF ns q == some 0) := by
 intro ns q h1 h2
 unfold canParB lookF
 by_cases c : q = [47]
 ·
  subst c
  have : ∀ (l : List No) (a : Option Int), (∀ x ∈ l, x.f0 ≠ [47]) → l.foldl (fun acc nd => if nd.f0 == [47] then some nd.f2 else acc) a = a := by
   intro l
   induction l with
   | nil => intro a _; rfl
   | cons x r ih =>
    intro a h
    rw [List.foldl_cons, if_neg (by simpa using h x (by simp))]
    exact ih a (fun y hy => h y (by simp [hy]))
  rw [this ns _ h1]
  rfl
 ·
  have c1 : (q == [47]) = false := beq_eq_false_iff_ne.2 c
  rw [c1, Bool.false_or]
  simp only [Bool.false_eq_true, if_false]
  have key : ∀ (l : List No) (a : Option Int), l.Pairwise (fun a b => a.f0 ≠ b.f0) → l.foldl (fun acc nd => if nd.f0 == q then some nd.f2 else acc) a = match l.find? (fun n => n.f0 == q) with | none => a | some n => some n.f2 := by
   intro l
   induction l with
   | nil => intro a _; rfl
   | cons x r ih =>
    intro a h
    rw [List.foldl_cons, List.pairwise_cons] at *
    by_cases cx : x.f0 = q
    ·
     rw [if_pos (by simpa using cx), List.find?_cons_of_pos (by simpa using cx), ih _ h.2]
     have : r.find? (fun n => n.f0 == q) = none := by
      rw [List.find?_eq_none]
      intro y hy e
      exact h.1 y hy (cx.trans (by simpa using e : y.f0 = q).symm)
     rw [this]
    ·
     rw [if_neg (by simpa using cx), List.find?_cons_of_neg (by simpa using cx), ih _ h.2]
  rw [key ns none h2]
  cases ns.find? (fun n => n.f0 == q) with
  | none => rfl
  | some n => rfl
structure GoodP (ns : List No) (i : Nat) : Prop where
 p : ∀ k (hk : k < ns.length), k < i → pathB ns[k].f0 = true
 a : ∀ k (hk : k < ns.length), k < i → 0 < k → leB ns[k].f0 (ns.getD (k - 1) zNo).f0 = false
theorem GoodP.zero (ns : List No) : GoodP ns 0 := ⟨fun k _ h => absurd h (by omega), fun k _ h => absurd h (by omega)⟩
theorem GoodP.next {ns : List No} {i : Nat} (h : GoodP ns i) (hi : i < ns.length) (h1 : pathB ns[i].f0 = true) (h2 : 0 < i → leB ns[i].f0 (ns.getD (i - 1) zNo).f0 = false) : GoodP ns (i + 1) :=
 ⟨fun k hk hki => by
  by_cases e : k = i
  ·
   subst e; exact h1
  ·
   exact h.p k hk (by omega), fun k hk hki h0 => by
  by_cases e : k = i
  ·
   subst e; exact h2 h0
  ·
   exact h.a k hk (by omega) h0⟩
theorem GoodP.canPar {ns : List No} {i : Nat} (h : GoodP ns i) (hi : i ≤ ns.length) (q : List Int) : canParB (ns.take i) q = (lookF (ns.take i) q == some 0) := by
 refine lookF_canPar _ q (fun x hx e => ?_) ?_
 ·
  obtain ⟨j, hj, rfl⟩ := List.mem_iff_getElem.1 hx
  rw [List.length_take] at hj
  rw [List.getElem_take] at e
  have := h.p j (by omega) (by omega)
  rw [e] at this
  exact absurd this (by decide)
 ·
  rw [List.pairwise_iff_getElem]
  intro a b ha hb hab
  have hb2 := hb
  rw [List.length_take] at hb2
  have := asc_all (ns.take i) (fun k hk h0 => by
   have hk2 := hk
   rw [List.length_take] at hk2
   have := h.a k (by omega) (by omega) h0
   rw [List.getElem_take]
   have e : (ns.take i).getD (k - 1) zNo = ns.getD (k - 1) zNo := by
    rw [List.getD_eq_getElem?_getD, List.getD_eq_getElem?_getD, List.getElem?_take_of_lt (by omega)]
   rw [e]
   exact this) a (b - a) (by omega) (by omega)
  simp only [show a + (b - a) = b by omega] at this
  exact ltL_ne this
theorem zero_u64 (w : World) : (zeroValue 22).run Tryz.prog w = .ok (.int .u64 0) w := by kernel_rfl
theorem parentL_by {p : List Int} (h : ∀ z ∈ p, 0 ≤ z ∧ z < 256) : ∀ z ∈ parentL p, 0 ≤ z ∧ z < 256 := by
 unfold parentL
 split
 ·
  simp
 ·
  exact fun z hz => h z (List.mem_of_mem_take hz)
theorem parentL_len {p : List Int} (h : p.length ≤ 2097152) : (parentL p).length ≤ 2097152 := by
 unfold parentL
 split
 ·
  simp
 ·
  rw [List.length_take]; omega
theorem own_look {w : World} {b n : Nat} {ns : List No} (h : OwnMap w b n ns) (q : List Int) (hq : ∀ z ∈ q, 0 ≤ z ∧ z < 256) (hl : q.length ≤ 2097152) :
  (Instr.lookup 113 (.map (some b)) (.string (strOfNums q)) true).run Tryz.prog w = .ok (.tuple #[.int .u64 ((lookF ns q).getD 0), .bool (lookF ns q).isSome]) w := by
 obtain ⟨D, hown, hhas⟩ := h.out
 obtain ⟨v, ps, hrun, hv⟩ := hown.look_ok (Maps.string_keyed Tryz.underlying9) Tryz.underlying113 (zero_u64 w) (plainElem_int (H := Unit) (P := Tryz.prog) Tryz.underlying22 (by decide)) (key_str q hl)
 obtain ⟨a, rfl, hc, _⟩ := plainElem_int_inv Tryz.underlying22 hv
 obtain ⟨h1, h2⟩ := hhas q hq
 rw [h2] at hc
 have e : (lookF ns q).getD 0 = a := by
  simp only [Prod.mk.injEq, DataW.lit.injEq, Lit.int.injEq] at hc
  exact hc.1.2
 rw [hrun, h1, e]
section
attribute [local go_sem] max2_int max_two
set_option linter.unusedVariables false
set_option linter.unusedSimpArgs false
def bytealg_LastIndexByte.l0 : Nat → List Int → Int → Int → Option (Int)
 | 0, _, _, _ => none
 | k + 1, x0, x1, x5 => if x5 ≥ 0 then (if 0 ≤ x5 then (if x5 < (x0.length : Int) then (if (rd x0 x5) = x1 then (some x5) else (bytealg_LastIndexByte.l0 k x0 x1 (wrap64 (x5 - 1)))) else (none)) else (none)) else (some (-1))
def bytealg_LastIndexByte.f (k : Nat) (l0 : List Int) (a1 : Int) : Option (Int) := bytealg_LastIndexByte.l0 k l0 a1 (wrap64 ((l0.length : Int) - 1))
set_option maxHeartbeats 8000000 in
set_option maxRecDepth 100000 in
theorem bytealg_LastIndexByte.calls (k : Nat) (A0 : Option Addr) (c0 : Nat) (l0 : List Int) (a1 : Int) (r : Int) (w : World) (hr0 : Kd.C (Kd.int .u8) w A0 l0.length l0) (hc0 : l0.length ≤ c0) (h : bytealg_LastIndexByte.f k l0 a1 = some r) :
  Calls Tryz.prog 161 #[.slice A0 l0.length c0, .int .u8 a1] w fun e w' => e = .returned (.int .i64 r) ∧ Drawn0 w w' := by
 have HR0 := Aside0.mk hr0
 have HC0 := Aside0.mk hc0
 clear hr0 hc0
 have H : (bytealg_LastIndexByte.l0 k l0 a1 (wrap64 ((l0.length : Int) - 1))) = some r := h
 clear h
 have H' := Aside0.mk H
 clear H
 go_enter Tryz.func161, Tryz.ntmps161
 go_wp2
 go_loopg [5] k (fun kq v5 w' => ∃ (x5_1 : Int), v5 = .int .i64 x5_1 ∧ Aside0 (bytealg_LastIndexByte.l0 kq l0 a1 x5_1 = some r) ∧ Aside0 (kq ≤ k) ∧ Drawn0 w w')
 case atStart => exact ⟨(wrap64 ((l0.length : Int) - 1)), (by first | rfl | (simp; done) | (simp [*]; done)), H', ⟨Nat.le_refl _⟩, by repeat (first | exact Drawn0.refl _ | apply Drawn0.step)⟩
 case round =>
  clear H'
  try clear c1
  try clear p2
  obtain ⟨x5_1, rfl, HA, HK1, ⟨m1, rfl⟩⟩ := hrel
  cases gk with
  | zero => exact absurd HA.out (by simp [bytealg_LastIndexByte.l0])
  | succ k1 =>
   have H := HA.out
   clear HA
   simp only [bytealg_LastIndexByte.l0] at H
   by_cases c3 : x5_1 ≥ 0
   ·
    rw [if_pos c3] at H
    have c3b0 : decide (0 ≤ x5_1) = true := decide_eq_true c3
    clear c3
    by_cases c4 : 0 ≤ x5_1
    ·
     rw [if_pos c4] at H
     have c4b0 : decide (0 ≤ x5_1) = true := decide_eq_true c4
     clear c4
     by_cases c5 : x5_1 < (l0.length : Int)
     ·
      rw [if_pos c5] at H
      have c5b0 : decide (x5_1 < (l0.length : Int)) = true := decide_eq_true c5
      clear c5
      by_cases c6 : (rd l0 x5_1) = a1
      ·
       rw [if_pos c6] at H
       have c6b0 : ((rd l0 x5_1) == a1) = true := beq_iff_eq.mpr c6
       have c6b1 : ((rd l0 x5_1) != a1) = false := bne_eq_false_iff_eq.mpr c6
       clear c6
       obtain rfl := Option.some.inj H
       have p323 : 0 ≤ (x5_1 : Int) := of_decide_eq_true (by first | (with_reducible assumption) | assumption)
       have q323 : x5_1 < (l0.length : Int) := of_decide_eq_true (by first | (with_reducible assumption) | assumption)
       obtain ⟨ad323, e323, hx323_0⟩ := Kd.at_int HR0.out x5_1 p323 q323
       cases e323
       replace p323 := eq_true p323
       replace q323 := eq_true q323
       go_wp2
       go_ret
       exact ⟨by first | rfl | (simp; done) | (simp [*]; done), by repeat (first | exact Drawn0.refl _ | apply Drawn0.step)⟩
      ·
       rw [if_neg c6] at H
       have c6b0 : ((rd l0 x5_1) == a1) = false := beq_eq_false_iff_ne.mpr c6
       have c6b1 : ((rd l0 x5_1) != a1) = true := bne_iff_ne.mpr c6
       have H' := Aside0.mk H
       clear H
       have p323 : 0 ≤ (x5_1 : Int) := of_decide_eq_true (by first | (with_reducible assumption) | assumption)
       have q323 : x5_1 < (l0.length : Int) := of_decide_eq_true (by first | (with_reducible assumption) | assumption)
       obtain ⟨ad323, e323, hx323_0⟩ := Kd.at_int HR0.out x5_1 p323 q323
       cases e323
       replace p323 := eq_true p323
       replace q323 := eq_true q323
       go_wp2
       go_roundg k1
       case measure => have := HK1.out; omega
       case rel => exact ⟨(wrap64 (x5_1 - 1)), (by first | rfl | (simp; done) | (simp [*]; done)), H', ⟨by have := HK1.out; omega⟩, by repeat (first | exact Drawn0.refl _ | apply Drawn0.step)⟩
     ·
      rw [if_neg c5] at H
      exact absurd H (by simp)
    ·
     rw [if_neg c4] at H
     exact absurd H (by simp)
   ·
    rw [if_neg c3] at H
    have c3b0 : decide (0 ≤ x5_1) = false := decide_eq_false c3
    clear c3
    obtain rfl := Option.some.inj H
    go_wp2
    go_ret
    exact ⟨by first | rfl | (simp; done) | (simp [*]; done), by repeat (first | exact Drawn0.refl _ | apply Drawn0.step)⟩
end
section
attribute [local go_sem] max2_int max_two
set_option linter.unusedVariables false
set_option linter.unusedSimpArgs false
def bytes_LastIndexByte.f (k : Nat) (l0 : List Int) (a1 : Int) : Option (Int) := (bytealg_LastIndexByte.f k l0 a1).bind fun t324 => (some t324)
set_option maxHeartbeats 8000000 in
set_option maxRecDepth 100000 in
theorem bytes_LastIndexByte.calls (k : Nat) (A0 : Option Addr) (c0 : Nat) (l0 : List Int) (a1 : Int) (r : Int) (w : World) (hr0 : Kd.C (Kd.int .u8) w A0 l0.length l0) (hc0 : l0.length ≤ c0) (h : bytes_LastIndexByte.f k l0 a1 = some r) :
  Calls Tryz.prog 138 #[.slice A0 l0.length c0, .int .u8 a1] w fun e w' => e = .returned (.int .i64 r) ∧ Drawn0 w w' := by
 have HR0 := Aside0.mk hr0
 have HC0 := Aside0.mk hc0
 clear hr0 hc0
 have H : ((bytealg_LastIndexByte.f k l0 a1).bind fun t324 => (some t324)) = some r := h
 clear h
 replace H := Option.bind_eq_some_iff.mp H
 obtain ⟨t324, A30, H⟩ := H
 replace H : (some t324) = some r := H
 have A3 := Aside0.mk A30
 clear A30
 obtain rfl := Option.some.inj H
 go_enter Tryz.func138, Tryz.ntmps138
 go_wp2_with (first | ((with_reducible refine gate_callee (f := 161) rfl ?_); refine goesL_ (some 7) rfl rfl Tryz.func161 (by kernel_rfl) rfl #[.slice A0 l0.length c0, .int .u8 a1] rfl (by (try simp only [List.map_toArray, List.map_cons, List.map_nil]); first | done | rfl | (simp only [List.length_drop, List.length_take]; rfl)) ?_; (with_reducible refine (bytealg_LastIndexByte.calls k _ _ l0 a1 t324 _ ?side1 ?side2 A3.out).mono ?_); (case side1 => repeat (first | exact HR0.out | (with_reducible refine Kd.C_alloc ?_ _) | (with_reducible refine Kd.C_drewN ?_ _) | (with_reducible refine Kd.C_drew ?_))); (case side2 => exact HC0.out); rintro e w' ⟨rfl, ⟨nd, rfl⟩⟩; refine ⟨_, rfl, ?_⟩))
 go_ret
 exact ⟨by first | rfl | (simp; done) | (simp [*]; done), by repeat (first | exact Drawn0.refl _ | apply Drawn0.step)⟩
end
theorem bytes_run (A : Option Addr) (c : Nat) (a : List Int) (w : World) (h : Kd.C (Kd.int .u8) w A a.length a) : (Extern.Bytes.bytesOf (.slice A a.length c)).run Tryz.prog w = .ok ⟨(Lib.bytesOf a).toArray⟩ w := by
 have hr := (Kd.reads_of_C (d := (0 : Int)) h).2.2
 have hc : ∀ ad, A = some ad → ∀ j x, a[j]? = some x → w.cell? (ad.add j) = some (.int .u8 x) := by
  intro ad hA j x hj
  have hjl : j < a.length := (List.getElem?_eq_some_iff.1 hj).1
  obtain ⟨ad', e, h2⟩ := hr (by omega)
  rw [hA] at e
  cases e
  rw [h2 j hjl, List.getD_eq_getElem?_getD, hj]
  rfl
 cases A with
 | none =>
  have h0 : a = [] := by
   cases a with
   | nil => rfl
   | cons x r =>
    obtain ⟨_, e, _⟩ := hr (by simp)
    cases e
  subst h0
  rfl
 | some ad =>
  have := Lib.run_loadBytesX (P := Tryz.prog) w a ad .empty (hc ad rfl)
  refine Eq.trans (show _ = (Extern.Bytes.loadBytes ad a.length .empty).run Tryz.prog w from rfl) (this.trans ?_)
  congr 1
  apply ByteArray.ext
  show (#[] : Array UInt8) ++ (Lib.bytesOf a).toArray = (Lib.bytesOf a).toArray
  simp
theorem bytealg_Compare_calls (A : Option Addr) (c : Nat) (a : List Int) (B : Option Addr) (d : Nat) (b : List Int) (w : World) (ha : Kd.C (Kd.int .u8) w A a.length a) (hb : Kd.C (Kd.int .u8) w B b.length b) :
  (Extern.BytealgCompare.compare #[.slice A a.length c, .slice B b.length d]).run Tryz.prog w = .ok (.int .i64 (Lib.compareBytes (Lib.bytesOf a) (Lib.bytesOf b))) w := by
 change Sem.run Tryz.prog (do pure (goInt (Extern.BytealgCompare.cmp (← Extern.Bytes.bytesOf (.slice A a.length c)) (← Extern.Bytes.bytesOf (.slice B b.length d))))) w = _
 simp only [Sem.run_bind, bytes_run A c a w ha, bytes_run B d b w hb, Sem.run_pure, Result.andThen]
 rw [Lib.cmp_eq]
 rfl
theorem cmp_le : ∀ a b : List UInt8, decide (0 ≤ Lib.compareBytes a b) = (Op.bytesLess b a || b == a)
 | [], [] => by simp [Lib.compareBytes, Op.bytesLess]
 | [], _ :: _ => by simp [Lib.compareBytes, Op.bytesLess]
 | _ :: _, [] => by simp [Lib.compareBytes, Op.bytesLess]
 | x :: a, y :: b => by
  have ih := cmp_le a b
  unfold Lib.compareBytes
  rw [Op.bytesLess]
  by_cases h1 : x < y
  ·
   rw [if_pos h1]
   have h2 : ¬ y < x := fun h => by rw [UInt8.lt_iff_toNat_lt] at h h1; omega
   have h3 : y ≠ x := fun e => by subst e; exact UInt8.lt_irrefl _ h1
   simp [h2, h3]
  ·
   rw [if_neg h1]
   by_cases h2 : y < x
   ·
    simp [h2]
   ·
    have e : x = y := UInt8.toNat_inj.1 (by rw [UInt8.lt_iff_toNat_lt] at h1 h2; omega)
    subst e
    simp only [h2, if_false, ih]
    simp
set_option maxHeartbeats 1000000 in
set_option maxRecDepth 100000 in
theorem compare_calls (A : Option Addr) (c : Nat) (a : List Int) (B : Option Addr) (d : Nat) (b : List Int) (w : World) (ha : Kd.C (Kd.int .u8) w A a.length a) (hb : Kd.C (Kd.int .u8) w B b.length b) :
  Calls Tryz.prog 86 #[.slice A a.length c, .slice B b.length d] w fun e w' => e = .returned (.int .i64 (Lib.compareBytes (Lib.bytesOf a) (Lib.bytesOf b))) ∧ w' = w := by
 have HX := Aside0.mk (bytealg_Compare_calls A c a B d b w ha hb)
 clear ha hb
 go_enter Tryz.func86, Tryz.ntmps86
 go_wp2_with fail
 rw [run_callFunc_extern (f := 136) Tryz.func136 (by kernel_rfl) (by kernel_rfl) (by kernel_rfl) (e := Extern.BytealgCompare.compare) (by kernel_rfl), HX.out]
 simp only [Result.andThen]
 rw [Oper.upon_value]
 go_wp2_with fail
 go_ret
 exact ⟨rfl, rfl⟩
theorem wrap_dn (i : Nat) (h0 : 0 < i) (h : i ≤ 140737488355328) : wrap64 ((i : Int) - 1) = ((i - 1 : Nat) : Int) := by unfold wrap64; omega
theorem d0_below {B : Nat} {w w' : World} (h : Drawn0 w w') : Below B w w' := by
 obtain ⟨n, rfl⟩ := h.out
 exact pw_below_drewN (Below.refl B w) n
theorem lastFrom_spec : ∀ (l : List Int) (i a : Nat), (lastFrom l i a = a ∧ ∀ j (h : j < l.length), l[j] ≠ 47) ∨ (∃ j, ∃ h : j < l.length, lastFrom l i a = i + j ∧ l[j] = 47 ∧ ∀ k (hk : k < l.length), j < k → l[k] ≠ 47)
 | [], i, a => Or.inl ⟨rfl, fun j h => absurd h (by simp)⟩
 | c :: r, i, a => by
  rw [lastFrom]
  rcases lastFrom_spec r (i + 1) (if c = 47 then i else a) with ⟨h1, h2⟩ | ⟨j, hj, h1, h2, h3⟩
  ·
   by_cases hc : c = 47
   ·
    rw [if_pos hc] at h1
    rw [if_pos hc]
    refine Or.inr ⟨0, by simp, h1, hc, fun k hk h0 => ?_⟩
    obtain ⟨k, rfl⟩ : ∃ m, k = m + 1 := ⟨k - 1, by omega⟩
    exact h2 k (by simpa using hk)
   ·
    rw [if_neg hc] at h1
    rw [if_neg hc]
    refine Or.inl ⟨h1, fun j hj => ?_⟩
    cases j with
    | zero => exact hc
    | succ j => exact h2 j (by simpa using hj)
  ·
   refine Or.inr ⟨j + 1, by simpa using hj, by rw [h1]; omega, h2, fun k hk h0 => ?_⟩
   obtain ⟨k, rfl⟩ : ∃ m, k = m + 1 := ⟨k - 1, by omega⟩
   exact h3 k (by simpa using hk) (by omega)
theorem lib_down (p : List Int) (m : Nat) (hm : m < p.length) (hl : p.length ≤ 2097152) (h1 : p[m] = 47) (h2 : ∀ k (hk : k < p.length), m < k → p[k] ≠ 47) : ∀ (d k : Nat), m + d < p.length → d < k → bytealg_LastIndexByte.l0 k p 47 ((m + d : Nat) : Int) = some (m : Int) := by
 intro d
 induction d with
 | zero =>
  intro k hd hk
  obtain ⟨k, rfl⟩ : ∃ n, k = n + 1 := ⟨k - 1, by omega⟩
  rw [bytealg_LastIndexByte.l0, if_pos (by omega), if_pos (by omega), if_pos (by omega), Nat.add_zero, rd_nat, getD_at p m hm, if_pos h1]
 | succ d ih =>
  intro k hd hk
  obtain ⟨k, rfl⟩ : ∃ n, k = n + 1 := ⟨k - 1, by omega⟩
  rw [bytealg_LastIndexByte.l0, if_pos (by omega), if_pos (by omega), if_pos (by omega), rd_nat, getD_at p _ hd, if_neg (h2 _ hd (by omega)), wrap_dn (m + (d + 1)) (by omega) (by omega)]
  exact ih k (by omega) (by omega)
theorem lib_f (p : List Int) (hl : p.length ≤ 2097152) (h0 : ∃ r, p = 47 :: r) : bytes_LastIndexByte.f 10000000 p 47 = some ((lastFrom p 0 0 : Nat) : Int) := by
 obtain ⟨j, hj, h1, h2, h3⟩ : ∃ j, ∃ h : j < p.length, lastFrom p 0 0 = 0 + j ∧ p[j] = 47 ∧ ∀ k (hk : k < p.length), j < k → p[k] ≠ 47 := by
  rcases lastFrom_spec p 0 0 with ⟨_, h⟩ | h
  ·
   obtain ⟨r, rfl⟩ := h0
   exact absurd rfl (h 0 (by simp))
  ·
   exact h
 rw [h1, Nat.zero_add]
 unfold bytes_LastIndexByte.f bytealg_LastIndexByte.f
 have := lib_down p j hj hl h2 h3 (p.length - 1 - j) 10000000 (by omega) (by omega)
 rw [show j + (p.length - 1 - j) = p.length - 1 by omega] at this
 rw [wrap_dn p.length (by omega) (by omega), this]
 rfl
set_option maxRecDepth 100000 in
theorem str_bytes (p : List Int) (hb : ∀ z ∈ p, 0 ≤ z ∧ z < 256) (hl : p.length ≤ 2097152) (w : World) : ∃ W cap, (convert 9 38 (.string (strOfNums p))).run Tryz.prog w = .ok (.slice (some ⟨w.heap.size, 0, none⟩) p.length cap) W ∧ p.length ≤ cap ∧ Kd.C (Kd.int .u8) W (some ⟨w.heap.size, 0, none⟩) p.length p ∧ Below w.heap.size w W := by
 have e1 := Lib.run_convert_string_bytes (P := Tryz.prog) w 9 38 5 (strOfNums p) Tryz.underlying9 Tryz.underlying38 Tryz.underlying5
 have hs : (strOfNums p).size = p.length := strOfNums_size p
 rw [hs] at e1
 refine ⟨_, _, e1, ?_, ?_, ?_⟩
 ·
  exact grownCap_ge _ _ _ _
 ·
  refine Kd.C_of_reads (d := (0 : Int)) (h1 := fun _ => rfl) ⟨rfl, by omega, fun _ => ⟨_, rfl, fun j hj => ?_⟩⟩
  have := Lib.bytesWorld_cell w 5 (strOfNums p) j (by rw [hs]; exact hj)
  have e2 : (⟨w.heap.size, 0, none⟩ : Addr).add j = ⟨w.heap.size, j, none⟩ := by unfold Addr.add; split <;> simp_all
  rw [e2, this, strOfNums_data]
  congr 2
  rw [List.getD_eq_getElem?_getD, List.getElem?_map, List.getElem?_eq_getElem hj, List.getD_eq_getElem?_getD, List.getElem?_eq_getElem hj]
  have := hb p[j] (List.getElem_mem hj)
  simp only [Option.map_some, Option.getD_some]
  show ((UInt8.ofNat p[j].toNat).toNat : Int) = p[j]
  rw [UInt8.toNat_ofNat']
  omega
 ·
  exact ⟨rfl, rfl, rfl, by rw [Lib.bytesWorld_size]; omega, fun k hk => Lib.bytesWorld_at_old _ _ _ k hk⟩
theorem str_take (p : List Int) (m : Nat) : (strOfNums p).extract 0 m = strOfNums (p.take m) := by
 apply ByteArray.ext
 rw [ByteArray.data_extract]
 apply Array.toList_inj.1
 rw [strOfNums_data]
 have : (strOfNums p).data = ((p.map fun n => UInt8.ofNat n.toNat)).toArray := Array.toList_inj.1 (strOfNums_data p)
 rw [this, List.extract_toArray, List.extract_eq_take_drop]
 simp
set_option maxHeartbeats 2000000 in
set_option maxRecDepth 100000 in
theorem parentOf_calls (p : List Int) (w : World) (hb : ∀ z ∈ p, 0 ≤ z ∧ z < 256) (hl : p.length ≤ 2097152) (h0 : ∃ r, p = 47 :: r) :
  Calls Tryz.prog 90 #[.string (strOfNums p)] w fun e w' => e = .returned (.string (strOfNums (parentL p))) ∧ Below w.heap.size w w' := by
 obtain ⟨W, cap, hcv, hcap, hC, hB⟩ := str_bytes p hb hl w
 have HC := Aside0.mk hC
 have HB := Aside0.mk hB
 have HF := Aside0.mk (lib_f p hl h0)
 have HM := Aside0.mk (show lastFrom p 0 0 ≤ p.length from by
  obtain ⟨r, rfl⟩ := h0
  exact Nat.le_of_lt (lastFrom_lt _ 0 0 _ (by simp) (by simp)))
 have HP := Aside0.mk (show parentL p = if lastFrom p 0 0 = 0 then [47] else p.take (lastFrom p 0 0) from rfl)
 obtain ⟨m, hm⟩ : ∃ m, lastFrom p 0 0 = m := ⟨_, rfl⟩
 rw [hm] at HF HM HP
 have HL := Aside0.mk hl
 have HCAP := Aside0.mk hcap
 clear hm hC hB h0 hb hl hcap
 go_enter Tryz.func90, Tryz.ntmps90
 go_wp2_with fail
 refine (bytes_LastIndexByte.calls 10000000 (some ⟨w.heap.size, 0, none⟩) cap p 47 (m : Int) _ HC.out HCAP.out HF.out).mono ?_
 rintro e w1 ⟨rfl, hb⟩
 have HB1 := Aside0.mk (below_step HB.out (d0_below hb))
 clear hb hcv
 by_cases hm0 : m = 0
 ·
  subst hm0
  go_wp2_with fail
  go_ret
  rw [HP.out, if_pos trivial]
  exact ⟨rfl, HB1.out⟩
 ·
  have d0 : decide (m = 0) = false := decide_eq_false hm0
  have d1 : (m == 0) = false := beq_eq_false_iff_ne.2 hm0
  have hm1 := HM.out
  have c0 : (0 : Int) ≤ (m : Int) := by omega
  have c1 : (m : Int) ≤ (p.length : Int) := by omega
  have hsz : (strOfNums p).size = p.length := strOfNums_size p
  go_wp2_with fail
  go_ret
  rw [HP.out, if_neg hm0, ← str_take]
  exact ⟨rfl, HB1.out⟩
end Go.Proofs.YtbgbocdohadhoaaGreatDoor.Print
