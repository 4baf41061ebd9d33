/- Texts of this session, joined by its own program. -/
import Derived.Test.YtbapokpkgonjkaaProg
import Derived.Below
import Derived.Deep.Draws
import Derived.Deep.AppendLies
import Derived.Maps.AppendAt
import Derived.OwnWalk
import Derived.Laws.BytesArg
import Derived.Laws.MakeOwn
import Derived.Laws.OwnMore
import Derived.Deep.OwnRows
import Derived.Tactics
import Derived.Lib.ConvBytes
import Derived.Laws.Slices
import Derived.WalkKit
import Derived.KernelRfl
import Derived.RowKit3
import Derived.Deep.LoopGhost
import Derived.Deep.QuietTactic
import Derived.BigQuiet
import Derived.WideLaws
import Derived.Deep.DeepCutAuto
import Derived.Deep.CutBlock
import Derived.Deep.RegionHeld3
import Derived.Laws.Rows
import Derived.Lib.AppendStr
import Derived.ArgAppend
import Derived.Laws.IdiomCopy
import Derived.OrdersHeld
import Derived.Laws.BitsLemmas
import Derived.RowKit
import Derived.Test.YtbapokpkgonjkaaWWords
import Derived.Test.YtbapokpkgonjkaaWLast
import Derived.Test.YtbapokpkgonjkaaWTab
import Derived.Test.YtbapokpkgonjkaaWFour
import Derived.Test.YtbapokpkgonjkaaWQPut
import Derived.Test.YtbapokpkgonjkaaWApart
import Derived.Test.YtbapokpkgonjkaaWArr
import Derived.Test.YtbapokpkgonjkaaWZeros
import Derived.Test.YtbapokpkgonjkaaWFoot
import Derived.Test.YtbapokpkgonjkaaWKept
import Derived.Test.YtbapokpkgonjkaaWShare
import Derived.Test.YtbapokpkgonjkaaWN
import Derived.Test.YtbapokpkgonjkaaWFootNe
import Derived.Test.YtbapokpkgonjkaaWAt
import Derived.Test.YtbapokpkgonjkaaWEqStruct
import Derived.Test.YtbapokpkgonjkaaWRepsOne
import Derived.Test.YtbapokpkgonjkaaWInv
import Derived.Test.YtbapokpkgonjkaaWInvWords
import Derived.Test.YtbapokpkgonjkaaWGuard
import Derived.Test.YtbapokpkgonjkaaWNEv
import Derived.Test.YtbapokpkgonjkaaWMore
import Derived.Test.YtbapokpkgonjkaaRows
import Derived.ProofKit
import Derived.OpenShut
import Derived.ShutString
import Derived.ChangeOld
import Derived.SizedLaws
import Derived.ChangeSlices
/- The machine's side of the statements: what a Go function comes to, as a Lean function, and that it does so (written by this session's own program over the kit's printer; Lean checks it). -/
namespace Go.Proofs.Ytbapokpkgonjkaa.Print
open Go.RowKit Go.Proofs.YtbapokpkgonjkaaW.PrintWords Go.Proofs.YtbapokpkgonjkaaW.PrintLast Go.Proofs.YtbapokpkgonjkaaW.PrintMore
attribute [local go_sem] max2_int min2_int max_two min_two max_three min_three max_four min_four   -- for this text's walks alone
set_option linter.unusedVariables false
set_option linter.unusedSimpArgs false



def errW : Option Int → Value
  | none => .nilIface
  | some c => .iface 0 (.int .i64 c)
theorem errW_none : errW none = .nilIface := rfl
theorem errW_some (c : Int) : errW (some c) = .iface 0 (.int .i64 c) := rfl

theorem info5 : (Try.prog.info? 5).map (fun i => (i.zero, i.size, i.bytes)) = some (some (.int .u8 0), 1, 1) := by kernel_rfl
theorem info22 : (Try.prog.info? 22).map (fun i => (i.zero, i.size, i.bytes)) = some (some (.slice none 0 0), 1, 24) := by kernel_rfl
theorem info45 : (Try.prog.info? 45).map (fun i => (i.zero, i.size, i.bytes)) = some (some (.agg #[(.int .u64 0), (.slice none 0 0)]), 2, 32) := by kernel_rfl
-- the values' own types
def rd_L1 (xs : List (List Int)) (i : Int) : (List Int) := xs.getD i.toNat ([] : List Int)
theorem at_L1 {w : World} {A : Option Addr} {n : Nat} {xs : List (List Int)} (h : Kd.C (Kd.slice 5 (Kd.int .u8)) w A n xs) (i : Int) (h0 : 0 ≤ i) (h1 : i < n) : ∃ ad A0 c0, A = some ad ∧ w.cell? (ad.add i.toNat) = some (.slice A0 (rd_L1 xs i).length c0) ∧ (rd_L1 xs i).length ≤ c0 ∧ (Kd.int .u8).C w A0 (rd_L1 xs i).length (rd_L1 xs i) := by
  obtain ⟨ad, c, e, _, hK, hc0⟩ := Kd.C_get h ([] : List Int) i h0 h1
  have hc : ∀ j u, c[j]? = some u → w.cell? (ad.add (i.toNat * 1 + j)) = some u := hc0
  obtain ⟨A0, c0, rfl, l0, g0⟩ := hK
  exact ⟨ad, A0, c0, e, by have hq := hc 0 _ rfl; rwa [Nat.mul_one, Nat.add_zero] at hq, l0, g0⟩

/-! #### struct type 45 -/
structure S45 where
  f0 : Int
  f1 : (List Int)
def z45 : S45 := ⟨(0 : Int), ([] : List Int)⟩
def k45 : Kd S45 := Kd.iso (Kd.pair (Kd.int .u64) (Kd.slice 5 (Kd.int .u8))) (fun x : S45 => (x.f0, x.f1))
theorem k45_heap : Kd.Heap k45 := Kd.heap_iso _ (Kd.heap_pair (Kd.heap_int .u64) (Kd.heap_slice 5 (Kd.heap_int .u8)))
theorem k45_open {w : World} {x : S45} {cs : List Value} (h : k45.K w x cs) : ∃ A1 c1, cs = [.int .u64 x.f0, .slice A1 x.f1.length c1] ∧ x.f1.length ≤ c1 ∧ (Kd.int .u8).C w A1 x.f1.length x.f1 := by
  obtain ⟨_, _, rfl, rfl, ⟨A1, c1, rfl, l1, g1⟩⟩ := h
  exact ⟨A1, c1, rfl, l1, g1⟩
theorem k45_openM {w : World} {base : Nat} {ok : Nat → Prop} {x : S45} {cs : List Value} (h : k45.M w base ok x cs) : ∃ v1, cs = [.int .u64 x.f0, v1] ∧ (Kd.int .u8).R 5 w base ok v1 x.f1 := by
  obtain ⟨_, _, rfl, rfl, ⟨v1, rfl, g1⟩⟩ := h
  exact ⟨v1, rfl, g1⟩
theorem k45_mk (w : World) (x : S45) {A1 : Option Addr} {c1 : Nat} (l1 : x.f1.length ≤ c1) (g1 : (Kd.int .u8).C w A1 x.f1.length x.f1) : k45.K w x [.int .u64 x.f0, .slice A1 x.f1.length c1] := ⟨[.int .u64 x.f0], [.slice A1 x.f1.length c1], rfl, rfl, ⟨A1, c1, rfl, l1, g1⟩⟩
theorem k45_mkM (w : World) (base : Nat) (ok : Nat → Prop) (x : S45) {v1 : Value} (g1 : (Kd.int .u8).R 5 w base ok v1 x.f1) : k45.M w base ok x [.int .u64 x.f0, v1] := ⟨[.int .u64 x.f0], [v1], rfl, rfl, ⟨v1, rfl, g1⟩⟩
theorem k45_openF {W : World} {ok : Nat → Prop} {x : S45} {cs : List Value} (h : Kd.FK k45 W ok x cs) : ∃ A1 c1, cs = [.int .u64 x.f0, .slice A1 x.f1.length c1] ∧ x.f1.length ≤ c1 ∧ Kd.F (Kd.int .u8) W ok A1 x.f1.length x.f1 := by
  obtain ⟨A1, c1, rfl, l1, _⟩ := k45_open (Kd.FK_now h)
  exact ⟨A1, c1, rfl, l1, (fun W' hW => by obtain ⟨A1_, c1_, he, l1_, g1_⟩ := k45_open (h W' hW); injection (Option.some.inj (show some (Value.slice A1 x.f1.length c1) = some (Value.slice A1_ x.f1.length c1_) from congrArg (fun l => l[1]?) he)) with ha_ _ _; rw [ha_]; exact g1_)⟩
theorem k45_mkF (W : World) (ok : Nat → Prop) (x : S45) {A1 : Option Addr} {c1 : Nat} (l1 : x.f1.length ≤ c1) (g1 : Kd.F (Kd.int .u8) W ok A1 x.f1.length x.f1) : Kd.FK k45 W ok x [.int .u64 x.f0, .slice A1 x.f1.length c1] := fun W2 hW => k45_mk W2 x l1 (g1 W2 hW)
def rd_T45 (xs : List S45) (i : Int) : S45 := xs.getD i.toNat z45
theorem at_T45 {w : World} {A : Option Addr} {n : Nat} {xs : List S45} (h : Kd.C k45 w A n xs) (i : Int) (h0 : 0 ≤ i) (h1 : i < n) : ∃ ad A1 c1, A = some ad ∧ w.cell? (ad.add (i.toNat * 2)) = some (.int .u64 (rd_T45 xs i).f0) ∧ w.cell? ⟨(ad.add (i.toNat * 2)).block, (ad.add (i.toNat * 2)).off + 1, none⟩ = some (.slice A1 (rd_T45 xs i).f1.length c1) ∧ (rd_T45 xs i).f1.length ≤ c1 ∧ (Kd.int .u8).C w A1 (rd_T45 xs i).f1.length (rd_T45 xs i).f1 := by
  obtain ⟨ad, c, e, _, hK, hc0⟩ := Kd.C_get h z45 i h0 h1
  have hc : ∀ j u, c[j]? = some u → w.cell? (ad.add (i.toNat * 2 + j)) = some u := hc0
  obtain ⟨A1, c1, rfl, l1, g1⟩ := k45_open hK
  exact ⟨ad, A1, c1, e, hc 0 _ rfl, by rw [← add_field _ _ 1 (by omega)]; exact hc 1 _ rfl, l1, g1⟩

end Go.Proofs.Ytbapokpkgonjkaa.Print

/- What a statement's arguments are, opened: rows of bytes, files, disks, snapshots' and records' pairs. Each is as long as its weight lets it be. -/
namespace Go.Proofs.Ytbapokpkgonjkaa.Print
open Go.RowKit Go.Proofs.YtbapokpkgonjkaaW.PrintWords Go.Proofs.YtbapokpkgonjkaaW.PrintLast Go.Proofs.YtbapokpkgonjkaaW.PrintMore
open Go.ChangeShapes Go.WideShapes
set_option linter.unusedVariables false
set_option linter.unusedSimpArgs false
section
variable {H : Type} {enc : TypeId × Value → H} {P : Program} {w : World} {base : Nat} {spare : Nat → Bool} {held : Bool}
/-- A row of whole numbers. -/
theorem row_open {t e : TypeId} {k : IntKind} {fuel : Nat} {cs : List Value} {x : DataW H × List MemPlace} (ht : P.underlying t = some (.slice e)) (he : P.underlying e = some (.int k)) (hc : P.cellsOf e = 1) (hB : P.bytesOf e = 1)
    (hf : DataW.trod enc P w base spare held fuel t cs = some x) (hz : ∀ n ∈ x.1.weights P t, n ≤ reachBytes) :
    ∃ A c l, cs = [.slice A l.length c] ∧ (Kd.int k).C w A l.length l ∧ l.length ≤ c ∧ l.length ≤ 140737488351232 ∧ (∀ n ∈ l, (Lit.int k n).wf = true) := by
  rcases open_ints ht he hc hf with ⟨rfl, rfl⟩ | ⟨a, len, cap, zs, rfl, _, hl, hm, hlen, rfl, hcell, hwf⟩
  · exact ⟨none, 0, [], rfl, Kd.C_of_reads (d := (0 : Int)) (h1 := fun _ => rfl) (ReadsInt.nil _ _), Nat.le_refl _, by simp, by simp⟩
  · have hle : len ≤ zs.length := by
      rw [hlen]
      split
      · exact hl
      · exact Nat.le_refl _
    have hzz : len ≤ reachBytes := by
      have := hz ((((lits (H := H) k (zs.take len)).length) + (lits (H := H) k (zs.drop len)).length) * P.bytesOf e) (by simp [DataW.weights, ht])
      rw [hB] at this
      simp [lits] at this
      omega
    have hlt : (zs.take len).length = len := by simp; omega
    refine ⟨some a, cap, zs.take len, by rw [hlt], ?_, by rw [hlt]; exact hl, by rw [hlt]; exact hzz, fun n hn => hwf n (List.mem_of_mem_take hn)⟩
    refine Kd.C_of_reads (d := (0 : Int)) (h1 := fun _ => rfl) ⟨rfl, by rw [hlt]; have : len ≤ maxLen := Nat.le_trans hl hm; simpa [maxLen] using this, fun _ => ⟨a, rfl, fun j hj => ?_⟩⟩
    rw [hlt] at hj
    rw [hcell j (by omega)]
    simp [List.getD_eq_getElem?_getD, List.getElem?_take, hj]
/-- A struct of two fields of one cell each. -/
theorem two_open {t : TypeId} {f0 f1 : Field} {fuel : Nat} {cs : List Value} {x : DataW H × List MemPlace} (ht : P.underlying t = some (.struct #[f0, f1])) (o0 : f0.offset = 0) (o1 : f1.offset = 1) (c0 : P.cellsOf f0.type = 1) (c1 : P.cellsOf f1.type = 1) (ct : P.cellsOf t = 2)
    (hf : DataW.trod enc P w base spare held fuel t cs = some x) (hz : ∀ n ∈ x.1.weights P t, n ≤ reachBytes) :
    ∃ v0 v1 y0 y1 n, cs = [v0, v1] ∧ DataW.trod enc P w base spare held n f0.type [v0] = some y0 ∧ DataW.trod enc P w base spare held n f1.type [v1] = some y1 ∧ (∀ n ∈ y0.1.weights P f0.type, n ≤ reachBytes) ∧ (∀ n ∈ y1.1.weights P f1.type, n ≤ reachBytes) := by
  obtain ⟨xs, n, _, rfl, hl, hlen, hg⟩ := DataW.trod_struct ht hf
  rw [ct] at hl
  match cs, hl with
  | [v0, v1], _ =>
    match xs, hlen with
    | [y0, y1], _ =>
      have g0 := hg 0 f0 rfl
      have g1 := hg 1 f1 rfl
      rw [o0, c0] at g0
      rw [o1, c1] at g1
      simp only [DataW.weights, ht, DataW.weightsEach, List.map_cons, List.map_nil, List.mem_append] at hz
      exact ⟨v0, v1, y0, y1, n, rfl, by simpa using g0, by simpa using g1, fun n hn => hz n (.inl hn), fun n hn => hz n (.inr (.inl hn))⟩
/-- A file: a row of bytes and a number. -/
theorem file_open {t e : TypeId} {k k1 : IntKind} {f0 f1 : Field} {fuel : Nat} {cs : List Value} {x : DataW H × List MemPlace} (ht : P.underlying t = some (.struct #[f0, f1])) (o0 : f0.offset = 0) (o1 : f1.offset = 1) (c0 : P.cellsOf f0.type = 1) (c1 : P.cellsOf f1.type = 1) (ct : P.cellsOf t = 2)
    (hs : P.underlying f0.type = some (.slice e)) (he : P.underlying e = some (.int k)) (hc : P.cellsOf e = 1) (hB : P.bytesOf e = 1) (hi : P.underlying f1.type = some (.int k1))
    (hf : DataW.trod enc P w base spare held fuel t cs = some x) (hz : ∀ n ∈ x.1.weights P t, n ≤ reachBytes) :
    ∃ A c l a, cs = [.slice A l.length c, .int k1 a] ∧ (Kd.int k).C w A l.length l ∧ l.length ≤ c ∧ l.length ≤ 140737488351232 ∧ (∀ n ∈ l, (Lit.int k n).wf = true) ∧ (Lit.int k1 a).wf = true := by
  obtain ⟨v0, v1, y0, y1, n, rfl, g0, g1, z0, z1⟩ := two_open ht o0 o1 c0 c1 ct hf hz
  obtain ⟨A, c, l, e0, h0, h1, h2, h3⟩ := row_open hs he hc hB g0 z0
  injection e0 with e0
  subst e0
  obtain ⟨a, e1, hx, hw⟩ := DataW.trod_int hi g1
  injection e1 with e1
  subst e1
  exact ⟨A, c, l, a, rfl, h0, h1, h2, h3, hw⟩
/-- A number and a row of bytes. -/
theorem pair_open {t e : TypeId} {k k0 : IntKind} {f0 f1 : Field} {fuel : Nat} {cs : List Value} {x : DataW H × List MemPlace} (ht : P.underlying t = some (.struct #[f0, f1])) (o0 : f0.offset = 0) (o1 : f1.offset = 1) (c0 : P.cellsOf f0.type = 1) (c1 : P.cellsOf f1.type = 1) (ct : P.cellsOf t = 2)
    (hs : P.underlying f1.type = some (.slice e)) (he : P.underlying e = some (.int k)) (hc : P.cellsOf e = 1) (hB : P.bytesOf e = 1) (hi : P.underlying f0.type = some (.int k0))
    (hf : DataW.trod enc P w base spare held fuel t cs = some x) (hz : ∀ n ∈ x.1.weights P t, n ≤ reachBytes) :
    ∃ a A c l, cs = [.int k0 a, .slice A l.length c] ∧ (Kd.int k).C w A l.length l ∧ l.length ≤ c ∧ l.length ≤ 140737488351232 ∧ (∀ n ∈ l, (Lit.int k n).wf = true) ∧ (Lit.int k0 a).wf = true := by
  obtain ⟨v0, v1, y0, y1, n, rfl, g0, g1, z0, z1⟩ := two_open ht o0 o1 c0 c1 ct hf hz
  obtain ⟨A, c, l, e0, h0, h1, h2, h3⟩ := row_open hs he hc hB g1 z1
  injection e0 with e0
  subst e0
  obtain ⟨a, e1, hx, hw⟩ := DataW.trod_int hi g0
  injection e1 with e1
  subst e1
  exact ⟨a, A, c, l, rfl, h0, h1, h2, h3, hw⟩
/-- A struct of three structs of two cells. -/
theorem three_open {t : TypeId} {f0 f1 f2 : Field} {fuel : Nat} {cs : List Value} {x : DataW H × List MemPlace} (ht : P.underlying t = some (.struct #[f0, f1, f2])) (o0 : f0.offset = 0) (o1 : f1.offset = 2) (o2 : f2.offset = 4) (c0 : P.cellsOf f0.type = 2) (c1 : P.cellsOf f1.type = 2) (c2 : P.cellsOf f2.type = 2) (ct : P.cellsOf t = 6)
    (hf : DataW.trod enc P w base spare held fuel t cs = some x) (hz : ∀ n ∈ x.1.weights P t, n ≤ reachBytes) :
    ∃ v0 v1 v2 v3 v4 v5 y0 y1 y2 n, cs = [v0, v1, v2, v3, v4, v5] ∧ DataW.trod enc P w base spare held n f0.type [v0, v1] = some y0 ∧ DataW.trod enc P w base spare held n f1.type [v2, v3] = some y1 ∧ DataW.trod enc P w base spare held n f2.type [v4, v5] = some y2 ∧
      (∀ n ∈ y0.1.weights P f0.type, n ≤ reachBytes) ∧ (∀ n ∈ y1.1.weights P f1.type, n ≤ reachBytes) ∧ (∀ n ∈ y2.1.weights P f2.type, n ≤ reachBytes) := by
  obtain ⟨xs, n, _, rfl, hl, hlen, hg⟩ := DataW.trod_struct ht hf
  rw [ct] at hl
  match cs, hl with
  | [v0, v1, v2, v3, v4, v5], _ =>
    match xs, hlen with
    | [y0, y1, y2], _ =>
      have g0 := hg 0 f0 rfl
      have g1 := hg 1 f1 rfl
      have g2 := hg 2 f2 rfl
      rw [o0, c0] at g0
      rw [o1, c1] at g1
      rw [o2, c2] at g2
      simp only [DataW.weights, ht, DataW.weightsEach, List.map_cons, List.map_nil, List.mem_append] at hz
      exact ⟨v0, v1, v2, v3, v4, v5, y0, y1, y2, n, rfl, by simpa using g0, by simpa using g1, by simpa using g2, fun n hn => hz n (.inl hn), fun n hn => hz n (.inr (.inl hn)), fun n hn => hz n (.inr (.inr (.inl hn)))⟩
end
set_option maxRecDepth 100000 in
/-- A disk. -/
theorem disk_open {H : Type} {enc : TypeId × Value → H} {w : World} {base : Nat} {spare : Nat → Bool} {held : Bool} {v : Value} {d : DataW H} {p : List MemPlace} {ts : List TypeId} {ds : List (DataW H)} {j : Nat}
    (hsz : (DataW.weightsEach Try.prog ts ds).all (· ≤ reachBytes) = true) (htj : ts[j]? = some 26) (hdj : ds[j]? = some d) (hv : Value.okWide Try.prog w .any 0 26 v) (h : DataW.Trod enc Try.prog w base spare held 26 v d p) :
    ∃ A0 c0 l0 a1 A2 c2 l2 a3 A4 c4 l4 a5, v = .agg #[.slice A0 l0.length c0, .int .i64 a1, .slice A2 l2.length c2, .int .i64 a3, .slice A4 l4.length c4, .int .i64 a5] ∧
      (Kd.int .u8).C w A0 l0.length l0 ∧ l0.length ≤ c0 ∧ (Kd.int .u8).C w A2 l2.length l2 ∧ l2.length ≤ c2 ∧ (Kd.int .u8).C w A4 l4.length l4 ∧ l4.length ≤ c4 ∧ l0.length ≤ 140737488351232 ∧ l2.length ≤ 140737488351232 ∧ l4.length ≤ 140737488351232 ∧
      (∀ n ∈ l0, (Lit.int .u8 n).wf = true) ∧ (∀ n ∈ l2, (Lit.int .u8 n).wf = true) ∧ (∀ n ∈ l4, (Lit.int .u8 n).wf = true) ∧ (Lit.int .i64 a1).wf = true ∧ (Lit.int .i64 a3).wf = true ∧ (Lit.int .i64 a5).wf = true := by
  obtain ⟨cs, rfl, hcs⟩ := okWide_struct Try.underlying26 hv
  rw [show Try.prog.cellsOf 26 = 6 by kernel_rfl] at hcs
  have hz : ∀ n ∈ d.weights Try.prog 26, n ≤ reachBytes := fun n hn => by
    have := List.all_eq_true.1 hsz _ (DataW.weights_mem_each htj hdj n hn)
    simpa using this
  obtain ⟨cs⟩ := cs
  obtain ⟨fuel, hf⟩ := h
  have c2 : Try.prog.cellsOf 24 = 2 := by kernel_rfl
  have cb : Try.prog.cellsOf 22 = 1 := by kernel_rfl
  have ci : Try.prog.cellsOf 3 = 1 := by kernel_rfl
  have c8 : Try.prog.cellsOf 5 = 1 := by kernel_rfl
  have b8 : Try.prog.bytesOf 5 = 1 := by kernel_rfl
  obtain ⟨v0, v1, v2, v3, v4, v5, y0, y1, y2, n, e, g0, g1, g2, z0, z1, z2⟩ := three_open Try.underlying26 rfl rfl rfl c2 c2 c2 (by kernel_rfl) hf hz
  have e' : cs.toArray = #[v0, v1, v2, v3, v4, v5] := by rw [← e]; simp [Value.cells]
  obtain ⟨A0, c0, l0, a1, e0, h0, p0, q0, w0, u0⟩ := file_open Try.underlying24 rfl rfl cb ci c2 Try.underlying22 Try.underlying5 c8 b8 Try.underlying3 g0 z0
  obtain ⟨A1, c1, l1, a2, e1, h1, p1, q1, w1, u1⟩ := file_open Try.underlying24 rfl rfl cb ci c2 Try.underlying22 Try.underlying5 c8 b8 Try.underlying3 g1 z1
  obtain ⟨A2, c3, l2, a3, e2, h2, p2, q2, w2, u2⟩ := file_open Try.underlying24 rfl rfl cb ci c2 Try.underlying22 Try.underlying5 c8 b8 Try.underlying3 g2 z2
  simp only [List.cons.injEq, and_true] at e0 e1 e2
  obtain ⟨rfl, rfl⟩ := e0
  obtain ⟨rfl, rfl⟩ := e1
  obtain ⟨rfl, rfl⟩ := e2
  exact ⟨A0, c0, l0, a1, A1, c1, l1, a2, A2, c3, l2, a3, by rw [← e'], h0, p0, h1, p1, h2, p2, q0, q1, q2, w0, w1, w2, u0, u1, u2⟩
theorem weights_of {H : Type} {P : Program} {ts : List TypeId} {ds : List (DataW H)} {j : Nat} {t : TypeId} {d : DataW H} (hsz : (DataW.weightsEach P ts ds).all (· ≤ reachBytes) = true) (htj : ts[j]? = some t) (hdj : ds[j]? = some d) : ∀ n ∈ d.weights P t, n ≤ reachBytes := fun n hn => by
  have := List.all_eq_true.1 hsz _ (DataW.weights_mem_each htj hdj n hn)
  simpa using this
set_option maxRecDepth 100000 in
/-- A row of bytes. -/
theorem bytes_open {H : Type} {enc : TypeId × Value → H} {w : World} {base : Nat} {spare : Nat → Bool} {held : Bool} {v : Value} {d : DataW H} {p : List MemPlace} {ts : List TypeId} {ds : List (DataW H)} {j : Nat}
    (hsz : (DataW.weightsEach Try.prog ts ds).all (· ≤ reachBytes) = true) (htj : ts[j]? = some 22) (hdj : ds[j]? = some d) (hv : Value.okWide Try.prog w .any 0 22 v) (h : DataW.Trod enc Try.prog w base spare held 22 v d p) :
    ∃ A c l, v = .slice A l.length c ∧ (Kd.int .u8).C w A l.length l ∧ l.length ≤ c ∧ l.length ≤ 140737488351232 ∧ (∀ n ∈ l, (Lit.int .u8 n).wf = true) := by
  have hz := weights_of hsz htj hdj
  obtain ⟨A, len, cap, rfl⟩ := okWide_slice Try.underlying22 hv
  obtain ⟨fuel, hf⟩ := h
  obtain ⟨A', c', l, e, h0, h1, h2, h3⟩ := row_open Try.underlying22 Try.underlying5 (by kernel_rfl) (by kernel_rfl) hf hz
  simp only [Value.cells, List.cons.injEq, and_true] at e
  exact ⟨A', c', l, e, h0, h1, h2, h3⟩
set_option maxRecDepth 100000 in
/-- A record. -/
theorem record_open {H : Type} {enc : TypeId × Value → H} {w : World} {base : Nat} {spare : Nat → Bool} {held : Bool} {v : Value} {d : DataW H} {p : List MemPlace} {ts : List TypeId} {ds : List (DataW H)} {j : Nat}
    (hsz : (DataW.weightsEach Try.prog ts ds).all (· ≤ reachBytes) = true) (htj : ts[j]? = some 42) (hdj : ds[j]? = some d) (hv : Value.okWide Try.prog w .any 0 42 v) (h : DataW.Trod enc Try.prog w base spare held 42 v d p) :
    ∃ a A c l, v = .agg #[.int .u64 a, .slice A l.length c] ∧ (Kd.int .u8).C w A l.length l ∧ l.length ≤ c ∧ l.length ≤ 140737488351232 ∧ (∀ n ∈ l, (Lit.int .u8 n).wf = true) ∧ (Lit.int .u64 a).wf = true := by
  have hz := weights_of hsz htj hdj
  obtain ⟨cs, rfl, hcs⟩ := okWide_struct Try.underlying42 hv
  obtain ⟨cs⟩ := cs
  obtain ⟨fuel, hf⟩ := h
  obtain ⟨a, A, c, l, e, h0, h1, h2, h3, h4⟩ := pair_open Try.underlying42 rfl rfl (by kernel_rfl) (by kernel_rfl) (by kernel_rfl) Try.underlying22 Try.underlying5 (by kernel_rfl) (by kernel_rfl) Try.underlying35 hf hz
  have e' : cs.toArray = #[.int .u64 a, .slice A l.length c] := by rw [← e]; simp [Value.cells]
  exact ⟨a, A, c, l, by rw [← e'], h0, h1, h2, h3, h4⟩
theorem byte_range {l : List Int} (h : ∀ n ∈ l, (Lit.int .u8 n).wf = true) : ∀ x ∈ l, 0 ≤ x ∧ x < 256 := by
  intro x hx
  have := h x hx
  simp [Lit.wf, IntKind.min, IntKind.max, IntKind.bits, IntKind.signed] at this
  omega
theorem u64_range {a : Int} (ha : (Lit.int .u64 a).wf = true) : 0 ≤ a ∧ a < 18446744073709551616 := by
  simp [Lit.wf, IntKind.min, IntKind.max, IntKind.bits, IntKind.signed] at ha
  omega
end Go.Proofs.Ytbapokpkgonjkaa.Print

/- A disk that a call owns, a row of bytes that a call owns: each as one fact. -/
namespace Go.Proofs.Ytbapokpkgonjkaa.Print
open Go.RowKit Go.Proofs.YtbapokpkgonjkaaW.PrintWords Go.Proofs.YtbapokpkgonjkaaW.PrintLast Go.Proofs.YtbapokpkgonjkaaW.PrintMore
set_option linter.unusedVariables false
set_option linter.unusedSimpArgs false
def OB (A : Option Addr) (n c : Nat) (k : Nat) : Prop := some k = (Value.slice A n c).ownBlock
/-- A row of bytes in a block from lo to hi. -/
structure BK (w0 W : World) (lo hi : Nat) (A : Option Addr) (c : Nat) (l : List Int) : Prop where
  r : Kd.R (Kd.int .u8) 5 W w0.heap.size (fun k => OB A l.length c k) (.slice A l.length c) l
  b : ∀ k, OB A l.length c k → lo ≤ k ∧ k < hi
theorem BK.reads {w0 W : World} {lo hi : Nat} {A : Option Addr} {c : Nat} {l : List Int} (h : BK w0 W lo hi A c l) : Kd.C (Kd.int .u8) W A l.length l ∧ l.length ≤ c := ⟨(Kd.R_reads' h.r).2.2, (Kd.R_reads' h.r).2.1⟩
theorem BK.of {w0 w W : World} {ok : Nat → Prop} {A : Option Addr} {c : Nat} {l : List Int} (h : Kd.R (Kd.int .u8) 5 W w.heap.size ok (.slice A l.length c) l) (hB : Below w0.heap.size w0 w) : BK w0 W w.heap.size W.heap.size A c l :=
  ⟨Kd.R_tight rfl (Kd.R_lower h hB.size), fun k hk => ⟨Kd.R_base h k hk.symm, Kd.R_lt h k hk.symm⟩⟩
theorem BK.kept {w0 W W' : World} {lo hi : Nat} {A : Option Addr} {c : Nat} {l : List Int} {S : Nat → Prop} (h : BK w0 W lo hi A c l) (hk : Kept W W' S) (hS : ∀ k, lo ≤ k → k < hi → ¬ S k) : BK w0 W' lo hi A c l :=
  ⟨Kd.R_kept h.r hk (fun k ho => hS k (h.b k ho).1 (h.b k ho).2), h.b⟩
theorem BK.below {w0 W W' : World} {lo hi : Nat} {A : Option Addr} {c : Nat} {l : List Int} (h : BK w0 W lo hi A c l) (hb : Below W.heap.size W W') : BK w0 W' lo hi A c l := ⟨Kd.R_below h.r hb, h.b⟩
theorem kept_below {w W : World} {S : Nat → Prop} (h : Below w.heap.size w W) : Kept w W S := ⟨h.size, fun i hi _ => h.block i hi⟩

structure DK (w0 W : World) (lo hi : Nat) (A0 : Option Addr) (c0 : Nat) (l0 : List Int) (A2 : Option Addr) (c2 : Nat) (l2 : List Int) (A4 : Option Addr) (c4 : Nat) (l4 : List Int) : Prop where
  k0 : BK w0 W lo hi A0 c0 l0
  k2 : BK w0 W lo hi A2 c2 l2
  k4 : BK w0 W lo hi A4 c4 l4
  n02 : ∀ k, OB A0 l0.length c0 k → ¬ OB A2 l2.length c2 k
  n04 : ∀ k, OB A0 l0.length c0 k → ¬ OB A4 l4.length c4 k
  n24 : ∀ k, OB A2 l2.length c2 k → ¬ OB A4 l4.length c4 k
section
variable {w0 w W W' : World} {lo hi : Nat} {A0 A2 A4 : Option Addr} {c0 c2 c4 : Nat} {l0 l2 l4 : List Int}
theorem DK.of {v0 v2 v4 : Value} (h0 : Kd.R (Kd.int .u8) 5 W w.heap.size (fun k_ => some k_ ≠ (v2 : Value).ownBlock ∧ some k_ ≠ (v4 : Value).ownBlock) v0 l0) (h2 : Kd.R (Kd.int .u8) 5 W w.heap.size (fun k_ => some k_ ≠ (v0 : Value).ownBlock ∧ some k_ ≠ (v4 : Value).ownBlock) v2 l2) (h4 : Kd.R (Kd.int .u8) 5 W w.heap.size (fun k_ => some k_ ≠ (v0 : Value).ownBlock ∧ some k_ ≠ (v2 : Value).ownBlock) v4 l4) (hB : Below w0.heap.size w0 w) :
    ∃ A0 c0 A2 c2 A4 c4, v0 = .slice A0 l0.length c0 ∧ v2 = .slice A2 l2.length c2 ∧ v4 = .slice A4 l4.length c4 ∧ DK w0 W w.heap.size W.heap.size A0 c0 l0 A2 c2 l2 A4 c4 l4 := by
  obtain ⟨A0, c0, rfl⟩ := Kd.R_slice h0
  obtain ⟨A2, c2, rfl⟩ := Kd.R_slice h2
  obtain ⟨A4, c4, rfl⟩ := Kd.R_slice h4
  exact ⟨A0, c0, A2, c2, A4, c4, rfl, rfl, rfl, BK.of h0 hB, BK.of h2 hB, BK.of h4 hB, fun k hk => (h0.1 k hk.symm).1, fun k hk => (h0.1 k hk.symm).2, fun k hk => (h2.1 k hk.symm).2⟩
theorem DK.kept {S : Nat → Prop} (h : DK w0 W lo hi A0 c0 l0 A2 c2 l2 A4 c4 l4) (hk : Kept W W' S) (hS : ∀ k, lo ≤ k → k < hi → ¬ S k) : DK w0 W' lo hi A0 c0 l0 A2 c2 l2 A4 c4 l4 :=
  ⟨h.k0.kept hk hS, h.k2.kept hk hS, h.k4.kept hk hS, h.n02, h.n04, h.n24⟩
theorem DK.below (h : DK w0 W lo hi A0 c0 l0 A2 c2 l2 A4 c4 l4) (hb : Below W.heap.size W W') : DK w0 W' lo hi A0 c0 l0 A2 c2 l2 A4 c4 l4 :=
  ⟨h.k0.below hb, h.k2.below hb, h.k4.below hb, h.n02, h.n04, h.n24⟩
end

end Go.Proofs.Ytbapokpkgonjkaa.Print

/- The machine's side of the statements: what a Go function comes to, as a Lean function, and that it does so (written by this session's own program over the kit's printer; Lean checks it). -/
namespace Go.Proofs.Ytbapokpkgonjkaa.Print
open Go.RowKit Go.Proofs.YtbapokpkgonjkaaW.PrintWords Go.Proofs.YtbapokpkgonjkaaW.PrintLast Go.Proofs.YtbapokpkgonjkaaW.PrintMore
attribute [local go_sem] max2_int min2_int max_two min_two max_three min_three max_four min_four   -- for this text's walks alone
set_option linter.unusedVariables false
set_option linter.unusedSimpArgs false

/-- A state of type 112 at block g of W; what its slices lead to came in by w0. -/
def IsS112 (w0 W : World) (g : Nat) (f0 : List Int) (f1 : Int) : Prop := ∃ A0 c0, W.heap[g]? = some (.cells #[.slice A0 f0.length c0, .int .i64 f1] 112 (0, 0)) ∧ w0.heap.size ≤ g ∧ Kd.C (Kd.int .u8) w0 A0 f0.length f0
theorem IsS112.grown {w0 W : World} {g : Nat} {f0 : List Int} {f1 : Int} {W1 : World} {row : Option Nat} (h : IsS112 w0 W g f0 f1) (hw : W.grownBy W1 row) (hne : some g ≠ row) : IsS112 w0 W1 g f0 f1 := by
  obtain ⟨A0, c0, hb, hg, hr0⟩ := h
  exact ⟨A0, c0, blk_grown hb hw hne, hg, hr0⟩
theorem IsS112.own_neN {w0 W : World} {g : Nat} {f0 : List Int} {f1 : Int} {α : Type} {d : Kd α} {e : Nat} {base : Nat} {ok : Nat → Prop} {v : Value} {xs : List α} (h : IsS112 w0 W g f0 f1) (ho : Kd.N d e W base ok v xs) (ht : e ≠ 112) : some g ≠ v.ownBlock := by
  obtain ⟨A0, c0, hb, hg, hr0⟩ := h
  exact Kd.N_ne ho hb ht
theorem IsS112.fresh {w0 W : World} {g : Nat} {f0 : List Int} {f1 : Int} (h : IsS112 w0 W g f0 f1) : ∀ k, W.heap.size ≤ k → k ≠ g := by
  obtain ⟨A0, c0, hb, hg, hr0⟩ := h
  exact Kd.freshB hb
theorem IsS112.kept {w0 W : World} {g : Nat} {f0 : List Int} {f1 : Int} {W1 : World} {S : Nat → Prop} (h : IsS112 w0 W g f0 f1) (hk : Kept W W1 S) (hne : ¬ S g) : IsS112 w0 W1 g f0 f1 := by
  obtain ⟨A0, c0, hb, hg, hr0⟩ := h
  exact ⟨A0, c0, blk_kept hb hk hne, hg, hr0⟩
theorem IsS112.below {w0 W : World} {g : Nat} {f0 : List Int} {f1 : Int} {W1 : World} (h : IsS112 w0 W g f0 f1) (hw : Below W.heap.size W W1) : IsS112 w0 W1 g f0 f1 := h.grown (grown_of_below hw none) (by simp)
theorem IsS112.alloc {w0 W : World} {g : Nat} {f0 : List Int} {f1 : Int} (h : IsS112 w0 W g f0 f1) (o : Obj) : IsS112 w0 (W.alloc o) g f0 f1 := h.below (below_alloc (Below.refl _ _) o)
theorem IsS112.drewN {w0 W : World} {g : Nat} {f0 : List Int} {f1 : Int} (h : IsS112 w0 W g f0 f1) (m : Nat) : IsS112 w0 (W.drewN m) g f0 f1 := h
theorem IsS112.drew {w0 W : World} {g : Nat} {f0 : List Int} {f1 : Int} (h : IsS112 w0 W g f0 f1) : IsS112 w0 W.drew g f0 f1 := h
theorem IsS112.at_ {w0 W : World} {g : Nat} {f0 : List Int} {f1 : Int} {w' : World} {m : Nat} (hq : W.drewN m = w') (h : IsS112 w0 W g f0 f1) : IsS112 w0 w' g f0 f1 := by subst hq; exact IsS112.drewN h m
theorem IsS112.apart {w0 W : World} {g : Nat} {f0 : List Int} {f1 : Int} {α : Type} {d : Kd α} {e : Nat} {base : Nat} {ok : Nat → Prop} {v : Value} {xs : List α} (h : IsS112 w0 W g f0 f1) (ho : d.R e W base ok v xs) (ht : ∀ q, q ∈ e :: d.E → q ≠ 112) : d.R e W base (fun k => ok k ∧ k ≠ g) v xs := by
  obtain ⟨A0, c0, hb, hg, hr0⟩ := h
  exact Kd.R_types ho hb ht
theorem IsS112.own_ne {w0 W : World} {g : Nat} {f0 : List Int} {f1 : Int} {α : Type} {d : Kd α} {e : Nat} {base : Nat} {ok : Nat → Prop} {v : Value} {xs : List α} (h : IsS112 w0 W g f0 f1) (ho : d.R e W base ok v xs) (ht : e ≠ 112) : some g ≠ v.ownBlock := by
  obtain ⟨A0, c0, hb, hg, hr0⟩ := h
  exact Kd.R_ne ho hb ht
theorem IsS112.apartQ {w0 W : World} {g : Nat} {f0 : List Int} {f1 : Int} {α : Type} {d : Kd α} {e : Nat} {base : Nat} {ok : Nat → Prop} {v : Value} {xs : List α} (h : IsS112 w0 W g f0 f1) (ho : d.Q e W base ok v xs) (ht : ∀ q, q ∈ e :: d.E → q ≠ 112) : d.Q e W base (fun k => ok k ∧ k ≠ g) v xs := by
  obtain ⟨A0, c0, hb, hg, hr0⟩ := h
  exact Kd.Q_types ho hb ht
theorem IsS112.own_neQ {w0 W : World} {g : Nat} {f0 : List Int} {f1 : Int} {α : Type} {d : Kd α} {e : Nat} {base : Nat} {ok : Nat → Prop} {v : Value} {xs : List α} (h : IsS112 w0 W g f0 f1) (ho : d.Q e W base ok v xs) (ht : e ≠ 112) : some g ≠ v.ownBlock := by
  obtain ⟨A0, c0, hb, hg, hr0⟩ := h
  exact Kd.Q_ne ho hb ht
theorem IsS112.apartS {w0 W : World} {g : Nat} {f0 : List Int} {f1 : Int} {α : Type} {d : Kd α} {e : Nat} {base : Nat} {ok : Nat → Prop} {v : Value} {xs : List α} (h : IsS112 w0 W g f0 f1) (ho : d.S e W base ok v xs) (ht : ∀ q, q ∈ e :: d.E → q ≠ 112) : d.S e W base (fun k => ok k ∧ k ≠ g) v xs := by
  obtain ⟨A0, c0, hb, hg, hr0⟩ := h
  exact Kd.S_types ho hb ht
theorem IsS112.own_neS {w0 W : World} {g : Nat} {f0 : List Int} {f1 : Int} {α : Type} {d : Kd α} {e : Nat} {base : Nat} {ok : Nat → Prop} {v : Value} {xs : List α} (h : IsS112 w0 W g f0 f1) (ho : d.S e W base ok v xs) (ht : e ≠ 112) : some g ≠ v.ownBlock := by
  obtain ⟨A0, c0, hb, hg, hr0⟩ := h
  exact Kd.S_ne ho hb ht
theorem IsS112.lt {w0 W : World} {g : Nat} {f0 : List Int} {f1 : Int} (h : IsS112 w0 W g f0 f1) : g < W.heap.size := by
  obtain ⟨A0, c0, hb, hg, hr0⟩ := h
  exact blk_lt hb
theorem IsS112.ge {w0 W : World} {g : Nat} {f0 : List Int} {f1 : Int} (h : IsS112 w0 W g f0 f1) : w0.heap.size ≤ g := by
  obtain ⟨A0, c0, hb, hg, hr0⟩ := h
  exact hg
theorem IsS112.ne_blk {w0 W : World} {g : Nat} {f0 : List Int} {f1 : Int} {a : Nat} {cs : Array Value} {t : TypeId} {fr : Nat × Nat} (h : IsS112 w0 W g f0 f1) (hb2 : W.heap[a]? = some (.cells cs t fr)) (ht : t ≠ 112) : g ≠ a := by
  obtain ⟨A0, c0, hb, hg, hr0⟩ := h
  rintro rfl
  rw [hb] at hb2
  injection hb2 with hb2
  injection hb2 with _ ht2
  exact ht ht2.symm
theorem IsS112.far {w0 W : World} {g : Nat} {f0 : List Int} {f1 : Int} {p : Addr} (h : IsS112 w0 W g f0 f1) (hne : g ≠ p.block) (u : Value) : IsS112 w0 (W.setCell p u) g f0 f1 := by
  obtain ⟨A0, c0, hb, hg, hr0⟩ := h
  exact ⟨A0, c0, blk_far hb hne u, hg, hr0⟩
theorem cellS112_0 {W : World} {g : Nat} {A0 : Option Addr} {c0 : Nat} {f0 : List Int} {f1 : Int} (h : W.heap[g]? = some (.cells #[.slice A0 f0.length c0, .int .i64 f1] 112 (0, 0))) : W.cell? ⟨g, 0, none⟩ = some (.slice A0 f0.length c0) := (blk_cell h 0).trans rfl
theorem cellS112_1 {W : World} {g : Nat} {A0 : Option Addr} {c0 : Nat} {f0 : List Int} {f1 : Int} (h : W.heap[g]? = some (.cells #[.slice A0 f0.length c0, .int .i64 f1] 112 (0, 0))) : W.cell? ⟨g, 1, none⟩ = some (.int .i64 f1) := (blk_cell h 1).trans rfl
theorem IsS112.set_1 {w0 W : World} {g : Nat} {f0 : List Int} {f1 : Int} (h : IsS112 w0 W g f0 f1) (x : Int) : IsS112 w0 (W.setCell ⟨g, 1, none⟩ (.int .i64 x)) g f0 x := by
  obtain ⟨A0, c0, hb, hg, hr0⟩ := h
  exact ⟨A0, c0, by simpa using blk_set hb 1 (.int .i64 x), hg, hr0⟩
theorem IsS112.new (w0 W : World) (A0 : Option Addr) (c0 : Nat) (f0 : List Int) (f1 : Int) (hB : Below w0.heap.size w0 W) (hr0 : Kd.C (Kd.int .u8) w0 A0 f0.length f0) : IsS112 w0 (W.alloc (.cells #[.slice A0 f0.length c0, .int .i64 f1] 112)) W.heap.size f0 f1 := ⟨A0, c0, by simpa using heap_alloc_new W _, hB.size, hr0⟩

/-! ### spec_l1open: function 92 -/
def spec_l1open.f (l0 : List Int) : Option (List Int × Int) := if (l0.length : Int) > 500 then (if 500 ≤ (l0.length : Int) then (some (l0.take 500, 0)) else (none)) else (if 0 ≤ (l0.length : Int) then (if (l0.length : Int) ≤ (l0.length : Int) then (some (l0.take ((l0.length : Int) : Int).toNat, 0)) else (none)) else (none))
set_option maxHeartbeats 8000000 in
set_option maxRecDepth 100000 in
theorem spec_l1open.calls (A0 : Option Addr) (c0 : Nat) (l0 : List Int) (r1 : List Int) (r2 : Int) (w0 w : World) (hB : Below w0.heap.size w0 w) (hr0 : Kd.C (Kd.int .u8) w0 A0 l0.length l0) (hc0 : l0.length ≤ c0) (h : spec_l1open.f l0 = some (r1, r2)) :
    Calls Try.prog 92 #[.slice A0 l0.length c0] w fun e w' => ∃ g_ : Nat, e = .returned (.pointer (some ⟨g_, 0, none⟩)) ∧ IsS112 w0 w' g_ r1 r2 ∧ Below w0.heap.size w0 w' ∧ Below w.heap.size w w' := by
  have hu112 := Try.underlying112
  have HR0 := Aside0.mk hr0
  have HC0 := Aside0.mk hc0
  clear hr0 hc0
  have HBW := Aside0.mk (Below.refl w.heap.size w)
  have HW0 := Aside0.mk hB.size
  have HB := Aside0.mk hB
  clear hB
  have H : (if (l0.length : Int) > 500 then (if 500 ≤ (l0.length : Int) then (some (l0.take 500, 0)) else (none)) else (if 0 ≤ (l0.length : Int) then (if (l0.length : Int) ≤ (l0.length : Int) then (some (l0.take ((l0.length : Int) : Int).toNat, 0)) else (none)) else (none))) = some (r1, r2) := h
  clear h
  by_cases c2 : (l0.length : Int) > 500
  · rw [if_pos c2] at H
    have c2b0 : decide (500 < (l0.length : Int)) = true := decide_eq_true c2
    have c2b1 : decide (500 < l0.length) = true := decide_eq_true (by omega)
    clear c2
    by_cases c3 : 500 ≤ (l0.length : Int)
    · rw [if_pos c3] at H
      have c3b0 := eq_true c3
      have c3b1 : decide (500 ≤ (l0.length : Int)) = true := decide_eq_true c3
      clear c3
      simp only [Option.some.injEq, Prod.mk.injEq] at H
      obtain ⟨rfl, rfl⟩ := H
      obtain ⟨i04, hi04, _, hsz4, _⟩ := info_parts info5
      obtain ⟨hcut4, hA4, hC4⟩ := print_take_of (P := Try.prog) (Value.int .u8) 0 22 5 .i64 Try.underlying22 hi04 hsz4 A0 c0 l0 500 (by omega) (of_decide_eq_true (by first | (with_reducible assumption) | assumption)) HC0.out
      have HR1217 := Aside0.mk (Kd.C_of_reads (h1 := fun _ => rfl) (hA4 _ (Kd.reads_of_C HR0.out)))
      have HC1217 := Aside0.mk hC4
      clear hA4 hC4 hi04 hsz4
      go_enter Try.func92, Try.ntmps92
      go_wp2_with (first | ((with_reducible refine gate_dst (N := 12) rfl ?_); refine box_event ?hg (N := 12) ?hd (cs := #[.slice A0 (l0.take 500).length c0, .int .i64 0]) (t := 112) ?hr ?_; (case hd => rfl); (case hg => rfl); (case hr => first | (go_simp; done) | (go_simp; rfl)); intro gb1218 hg w5 hbox hb; have n0_ := Aside0.mk (below_step HBW.out hb); have n1_ := Aside0.mk (below_step (by repeat (first | (with_reducible first | exact HB.out | apply below_alloc | apply pw_below_drewN | apply below_drew1) | exact HB.out)) hb); have n2_ := Aside0.mk (hbox); have n3_ := Aside0.mk ((by rw [hg]; exact (below_size (by repeat (first | (with_reducible first | exact HBW.out | apply below_alloc | apply pw_below_drewN | apply below_drew1) | exact HBW.out))) : w.heap.size ≤ gb1218)); have n4_ := Aside0.mk ((Nat.le_trans HW0.out (by rw [hg]; exact (below_size (by repeat (first | (with_reducible first | exact HBW.out | apply below_alloc | apply pw_below_drewN | apply below_drew1) | exact HBW.out))) : w.heap.size ≤ gb1218) : w0.heap.size ≤ gb1218)); clear HBW; clear HB; have HBW := n0_; have HB := n1_; have BK1218 := n2_; have GW1218 := n3_; have GE1218 := n4_; clear n0_ n1_ n2_ n3_ n4_; clear hb hbox hg))
      go_ret
      exact ⟨_, rfl, (show IsS112 w0 _ gb1218 (l0.take 500) 0 from ⟨_, _, by (with_reducible repeat (first | refine blk_drewN ?_ _ | refine blk_drew ?_ | refine blk_alloc ?_ _)); exact BK1218.out, GE1218.out, HR1217.out⟩), by repeat (first | (with_reducible first | exact HB.out | apply below_alloc | apply pw_below_drewN | apply below_drew1 | refine below_set ?_ GE1218.out) | exact HB.out), by repeat (first | (with_reducible first | exact HBW.out | apply below_alloc | apply pw_below_drewN | apply below_drew1 | refine below_set ?_ GW1218.out) | exact HBW.out)⟩
    · rw [if_neg c3] at H
      exact absurd H (by simp)
  · rw [if_neg c2] at H
    have c2b0 : decide (500 < (l0.length : Int)) = false := decide_eq_false c2
    have c2b1 : decide (500 < l0.length) = false := decide_eq_false (by omega)
    clear c2
    by_cases c6 : 0 ≤ (l0.length : Int)
    · rw [if_pos c6] at H
      have c6b0 := eq_true c6
      have c6b1 : decide (0 ≤ (l0.length : Int)) = true := decide_eq_true c6
      clear c6
      by_cases c7 : (l0.length : Int) ≤ (l0.length : Int)
      · rw [if_pos c7] at H
        have c7b0 := eq_true c7
        have c7b1 : decide ((l0.length : Int) ≤ (l0.length : Int)) = true := decide_eq_true c7
        clear c7
        simp only [Option.some.injEq, Prod.mk.injEq] at H
        obtain ⟨rfl, rfl⟩ := H
        obtain ⟨i08, hi08, _, hsz8, _⟩ := info_parts info5
        obtain ⟨hcut8, hA8, hC8⟩ := print_take_of (P := Try.prog) (Value.int .u8) 0 22 5 .i64 Try.underlying22 hi08 hsz8 A0 c0 l0 (l0.length : Int) (of_decide_eq_true (by first | (with_reducible assumption) | assumption)) (of_decide_eq_true (by first | (with_reducible assumption) | assumption)) HC0.out
        have HR1219 := Aside0.mk (Kd.C_of_reads (h1 := fun _ => rfl) (hA8 _ (Kd.reads_of_C HR0.out)))
        have HC1219 := Aside0.mk hC8
        clear hA8 hC8 hi08 hsz8
        go_enter Try.func92, Try.ntmps92
        go_wp2_with (first | ((with_reducible refine gate_dst (N := 12) rfl ?_); refine box_event ?hg (N := 12) ?hd (cs := #[.slice A0 (l0.take ((l0.length : Int) : Int).toNat).length c0, .int .i64 0]) (t := 112) ?hr ?_; (case hd => rfl); (case hg => rfl); (case hr => first | (go_simp; done) | (go_simp; rfl)); intro gb1220 hg w9 hbox hb; have n0_ := Aside0.mk (below_step HBW.out hb); have n1_ := Aside0.mk (below_step (by repeat (first | (with_reducible first | exact HB.out | apply below_alloc | apply pw_below_drewN | apply below_drew1) | exact HB.out)) hb); have n2_ := Aside0.mk (hbox); have n3_ := Aside0.mk ((by rw [hg]; exact (below_size (by repeat (first | (with_reducible first | exact HBW.out | apply below_alloc | apply pw_below_drewN | apply below_drew1) | exact HBW.out))) : w.heap.size ≤ gb1220)); have n4_ := Aside0.mk ((Nat.le_trans HW0.out (by rw [hg]; exact (below_size (by repeat (first | (with_reducible first | exact HBW.out | apply below_alloc | apply pw_below_drewN | apply below_drew1) | exact HBW.out))) : w.heap.size ≤ gb1220) : w0.heap.size ≤ gb1220)); clear HBW; clear HB; have HBW := n0_; have HB := n1_; have BK1220 := n2_; have GW1220 := n3_; have GE1220 := n4_; clear n0_ n1_ n2_ n3_ n4_; clear hb hbox hg))
        go_ret
        exact ⟨_, rfl, (show IsS112 w0 _ gb1220 (l0.take ((l0.length : Int) : Int).toNat) 0 from ⟨_, _, by (with_reducible repeat (first | refine blk_drewN ?_ _ | refine blk_drew ?_ | refine blk_alloc ?_ _)); exact BK1220.out, GE1220.out, HR1219.out⟩), by repeat (first | (with_reducible first | exact HB.out | apply below_alloc | apply pw_below_drewN | apply below_drew1 | refine below_set ?_ GE1220.out) | exact HB.out), by repeat (first | (with_reducible first | exact HBW.out | apply below_alloc | apply pw_below_drewN | apply below_drew1 | refine below_set ?_ GW1220.out) | exact HBW.out)⟩
      · rw [if_neg c7] at H
        exact absurd H (by simp)
    · rw [if_neg c6] at H
      exact absurd H (by simp)

end Go.Proofs.Ytbapokpkgonjkaa.Print

/- The machine's side of the statements: what a Go function comes to, as a Lean function, and that it does so (written by this session's own program over the kit's printer; Lean checks it). -/
namespace Go.Proofs.Ytbapokpkgonjkaa.Print
open Go.RowKit Go.Proofs.YtbapokpkgonjkaaW.PrintWords Go.Proofs.YtbapokpkgonjkaaW.PrintLast Go.Proofs.YtbapokpkgonjkaaW.PrintMore
attribute [local go_sem] max2_int min2_int max_two min_two max_three min_three max_four min_four   -- for this text's walks alone
set_option linter.unusedVariables false
set_option linter.unusedSimpArgs false

/-! ### spec_l1rd_next: function 94 -/
def spec_l1rd_next.f (s0_0 : List Int) (s0_1 : Int) : Option (Int × Int) := if s0_1 ≥ (s0_0.length : Int) then (some (0, s0_1)) else (if 0 ≤ s0_1 then (if s0_1 < (s0_0.length : Int) then (some (wrap64 (rd s0_0 s0_1), wrap64 (s0_1 + 1))) else (none)) else (none))
set_option maxHeartbeats 8000000 in
set_option maxRecDepth 100000 in
theorem spec_l1rd_next.calls (g : Nat) (s0_0 : List Int) (s0_1 : Int) (r1 : Int) (r2 : Int) (w0 w : World) (hI : IsS112 w0 w g s0_0 s0_1) (hB : Below w0.heap.size w0 w) (h : spec_l1rd_next.f s0_0 s0_1 = some (r1, r2)) :
    Calls Try.prog 94 #[.pointer (some ⟨g, 0, none⟩)] w fun e w' => e = .returned (.int .i64 r1) ∧ IsS112 w0 w' g s0_0 r2 ∧ Below w0.heap.size w0 w' ∧ KeepBut w w' g none := by
  have HI0 := Aside0.mk hI
  have HK := Aside0.mk (KeepBut.refl w g none)
  have HL := Aside0.mk hB.size
  clear hI
  have HW0 := Aside0.mk hB.size
  have HB := Aside0.mk hB
  clear hB
  have H : (if s0_1 ≥ (s0_0.length : Int) then (some (0, s0_1)) else (if 0 ≤ s0_1 then (if s0_1 < (s0_0.length : Int) then (some (wrap64 (rd s0_0 s0_1), wrap64 (s0_1 + 1))) else (none)) else (none))) = some (r1, r2) := h
  clear h
  by_cases c2 : s0_1 ≥ (s0_0.length : Int)
  · rw [if_pos c2] at H
    have c2b0 : decide ((s0_0.length : Int) ≤ s0_1) = true := decide_eq_true c2
    clear c2
    simp only [Option.some.injEq, Prod.mk.injEq] at H
    obtain ⟨rfl, rfl⟩ := H
    obtain ⟨ASz3_0, cSz3_0, HGz3, hgz3, HSz3_0⟩ := HI0.out
    have hcz3_0 := cellS112_0 HGz3
    have hcz3_1 := cellS112_1 HGz3
    have hfz3_1 := blk_frozen HGz3 1
    clear HGz3 hgz3
    go_enter Try.func94, Try.ntmps94
    go_wp2
    repeat (go_quiet (fail); try go_wp2)
    go_ret
    exact ⟨by first | rfl | (simp [errW_none, errW_some] <;> rfl) | (simp [*, errW_none, errW_some] <;> rfl), by repeat (first | (with_reducible first | exact HI0.out | apply IsS112.alloc | apply IsS112.drewN | apply IsS112.drew | apply IsS112.set_1) | exact HI0.out), by repeat (first | (with_reducible first | exact HB.out | apply below_alloc | apply pw_below_drewN | apply below_drew1 | refine below_set ?_ (IsS112.ge HI0.out)) | exact HB.out), by repeat (first | (with_reducible first | exact HK.out | apply KeepBut.set_ | apply keep_drewN | apply keep_drew | apply keep_alloc) | exact HK.out)⟩
  · rw [if_neg c2] at H
    have c2b0 : decide ((s0_0.length : Int) ≤ s0_1) = false := decide_eq_false c2
    clear c2
    by_cases c4 : 0 ≤ s0_1
    · rw [if_pos c4] at H
      have c4b0 : decide (0 ≤ s0_1) = true := decide_eq_true c4
      clear c4
      by_cases c5 : s0_1 < (s0_0.length : Int)
      · rw [if_pos c5] at H
        have c5b0 : decide (s0_1 < (s0_0.length : Int)) = true := decide_eq_true c5
        clear c5
        simp only [Option.some.injEq, Prod.mk.injEq] at H
        obtain ⟨rfl, rfl⟩ := H
        obtain ⟨ASz6_0, cSz6_0, HGz6, hgz6, HSz6_0⟩ := HI0.out
        have hcz6_0 := cellS112_0 HGz6
        have hcz6_1 := cellS112_1 HGz6
        have hfz6_1 := blk_frozen HGz6 1
        clear HGz6 hgz6
        have p1221 : 0 ≤ (s0_1 : Int) := of_decide_eq_true (by first | (with_reducible assumption) | assumption)
        have q1221 : s0_1 < (s0_0.length : Int) := of_decide_eq_true (by first | (with_reducible assumption) | assumption)
        obtain ⟨ad1221, e1221, hx1221_0⟩ := Kd.at_int HSz6_0 s0_1 p1221 q1221
        cases e1221
        replace hx1221_0 := pw_cell_below HB.out hx1221_0
        replace p1221 := eq_true p1221
        replace q1221 := eq_true q1221
        go_enter Try.func94, Try.ntmps94
        go_wp2
        repeat (go_quiet (fail); try go_wp2)
        go_ret
        exact ⟨by first | rfl | (simp [errW_none, errW_some] <;> rfl) | (simp [*, errW_none, errW_some] <;> rfl), by repeat (first | (with_reducible first | exact HI0.out | apply IsS112.alloc | apply IsS112.drewN | apply IsS112.drew | apply IsS112.set_1) | exact HI0.out), by repeat (first | (with_reducible first | exact HB.out | apply below_alloc | apply pw_below_drewN | apply below_drew1 | refine below_set ?_ (IsS112.ge HI0.out)) | exact HB.out), by repeat (first | (with_reducible first | exact HK.out | apply KeepBut.set_ | apply keep_drewN | apply keep_drew | apply keep_alloc) | exact HK.out)⟩
      · rw [if_neg c5] at H
        exact absurd H (by simp)
    · rw [if_neg c4] at H
      exact absurd H (by simp)

end Go.Proofs.Ytbapokpkgonjkaa.Print

/- The machine's side of the statements: what a Go function comes to, as a Lean function, and that it does so (written by this session's own program over the kit's printer; Lean checks it). -/
namespace Go.Proofs.Ytbapokpkgonjkaa.Print
open Go.RowKit Go.Proofs.YtbapokpkgonjkaaW.PrintWords Go.Proofs.YtbapokpkgonjkaaW.PrintLast Go.Proofs.YtbapokpkgonjkaaW.PrintMore
attribute [local go_sem] max2_int min2_int max_two min_two max_three min_three max_four min_four   -- for this text's walks alone
set_option linter.unusedVariables false
set_option linter.unusedSimpArgs false

/-! ### spec_l1drawBytes: function 93 -/
def spec_l1drawBytes.l0 : Nat → Int → List Int → Int → List Int → Int → Option (List Int × Int)
  | 0, _, _, _, _, _ => none
  | k + 1, x3, x4, x5, x1000, x1001 => if x5 < x3 then ((spec_l1rd_next.f x1000 x1001).bind fun bt1224 => (if x4.length < 140737488355328 then (spec_l1drawBytes.l0 k x3 (x4 ++ [(bt1224.1) % 256]) (wrap64 (x5 + 1)) x1000 bt1224.2) else (none))) else (some (x4, x1001))
def spec_l1drawBytes.f (k : Nat) (s0_0 : List Int) (s0_1 : Int) : Option (List Int × Int) := (spec_l1rd_next.f s0_0 s0_1).bind fun bt1222 => (spec_l1drawBytes.l0 k (Int.tmod bt1222.1 14) ([] : List Int) 0 s0_0 bt1222.2)
theorem spec_l1drawBytes.mono_l : ∀ k, (∀ y0 y1 y2 y3 y4, LeO (spec_l1drawBytes.l0 k y0 y1 y2 y3 y4) (spec_l1drawBytes.l0 (k + 1) y0 y1 y2 y3 y4))
  | 0 => fun _ _ _ _ _ r h => by simp [spec_l1drawBytes.l0] at h
  | k + 1 => by
    have ih0 := spec_l1drawBytes.mono_l k
    · intro y0 y1 y2 y3 y4
      unfold spec_l1drawBytes.l0
      repeat' first
      | (with_reducible exact ih0 _ _ _ _ _)
      | (with_reducible exact LeO.refl _)
      | (with_reducible exact LeO.none _)
      | (with_reducible refine LeO.ite ?_ ?_)
      | (with_reducible refine LeO.bind ?_ (fun _ => ?_))
      | exact ih0 _ _ _ _ _
      | exact LeO.none _
      | refine LeO.ite ?_ ?_
      | refine LeO.bind ?_ (fun _ => ?_)
theorem spec_l1drawBytes.mono : ∀ a0 a1 k, LeO (spec_l1drawBytes.f k a0 a1) (spec_l1drawBytes.f (k + 1) a0 a1) := by
  intro a0 a1 k
  have ih0 := spec_l1drawBytes.mono_l k
  unfold spec_l1drawBytes.f
  repeat' first
      | (with_reducible exact ih0 _ _ _ _ _)
      | (with_reducible exact LeO.refl _)
      | (with_reducible exact LeO.none _)
      | (with_reducible refine LeO.ite ?_ ?_)
      | (with_reducible refine LeO.bind ?_ (fun _ => ?_))
      | exact ih0 _ _ _ _ _
      | exact LeO.none _
      | refine LeO.ite ?_ ?_
      | refine LeO.bind ?_ (fun _ => ?_)
set_option maxHeartbeats 8000000 in
set_option maxRecDepth 100000 in
theorem spec_l1drawBytes.calls (k : Nat) (g : Nat) (s0_0 : List Int) (s0_1 : Int) (r1 : List Int) (r2 : Int) (w0 w : World) (hI : IsS112 w0 w g s0_0 s0_1) (hB : Below w0.heap.size w0 w) (h : spec_l1drawBytes.f k s0_0 s0_1 = some (r1, r2)) :
    Calls Try.prog 93 #[.pointer (some ⟨g, 0, none⟩)] w fun e w' => ∃ v0_ : Value, e = .returned (v0_) ∧ Kd.R (Kd.int .u8) 5 w' w.heap.size (fun _ => True) v0_ r1 ∧ IsS112 w0 w' g s0_0 r2 ∧ Below w0.heap.size w0 w' ∧ KeepBut w w' g none := by
  have HI0 := Aside0.mk hI
  have HK := Aside0.mk (KeepBut.refl w g none)
  have HL := Aside0.mk hB.size
  clear hI
  have HW0 := Aside0.mk hB.size
  have HB := Aside0.mk hB
  clear hB
  have H : ((spec_l1rd_next.f s0_0 s0_1).bind fun bt1222 => (spec_l1drawBytes.l0 k (Int.tmod bt1222.1 14) ([] : List Int) 0 s0_0 bt1222.2)) = some (r1, r2) := h
  clear h
  replace H := Option.bind_eq_some_iff.mp H
  obtain ⟨⟨t1222, t1223⟩, A20, H⟩ := H
  replace H : (spec_l1drawBytes.l0 k (Int.tmod t1222 14) ([] : List Int) 0 s0_0 t1223) = some (r1, r2) := H
  have A2 := Aside0.mk A20
  clear A20
  have H' := Aside0.mk H
  clear H
  go_enter Try.func93, Try.ntmps93
  go_wp2_with (first | ((with_reducible refine gate_callee (f := 94) rfl ?_); refine goesL_ (some 7) rfl rfl Try.func94 (by kernel_rfl) rfl #[.pointer (some ⟨g, 0, none⟩)] rfl (by (try simp only [List.map_toArray, List.map_cons, List.map_nil]); first | done | rfl | (simp only [List.length_drop, List.length_take]; rfl)) ?_; (with_reducible refine (spec_l1rd_next.calls g s0_0 s0_1 t1222 t1223 w0 _ ?side1 ?side2 A2.out).mono ?_); (case side1 => repeat (first | (with_reducible first | exact HI0.out | apply IsS112.alloc | apply IsS112.drewN | apply IsS112.drew | apply IsS112.set_1) | exact HI0.out)); (case side2 => repeat (first | (with_reducible first | exact HB.out | apply below_alloc | apply pw_below_drewN | apply below_drew1 | refine below_set ?_ (IsS112.ge HI0.out)) | exact HB.out)); rintro e w3 ⟨rfl, hi, hb, hk⟩; refine ⟨_, rfl, ?_⟩; have n0_ := Aside0.mk (KeepBut.trans (by repeat (first | (with_reducible first | exact HK.out | apply KeepBut.set_ | apply keep_drewN | apply keep_drew | apply keep_alloc) | exact HK.out)) hk (.inl rfl)); have n1_ := Aside0.mk (hb); have n2_ := Aside0.mk (hi); clear HK; clear HB; clear HI0; have HK := n0_; have HB := n1_; have HI0 := n2_; clear n0_ n1_ n2_; (try clear hb); (try clear hb2); (try clear hk); (try clear hi)))
  go_loopg [4, 5] k (fun kq v4 v5 w' => ∃ (x4_1 : List Int) (x5_1 : Int) (x1001_1 : Int), v5 = .int .i64 x5_1 ∧ Aside0 (spec_l1drawBytes.l0 kq (Int.tmod t1222 14) x4_1 x5_1 s0_0 x1001_1 = some (r1, r2)) ∧ Aside0 (kq ≤ k) ∧ Aside0 (Kd.R (Kd.int .u8) 5 w' w.heap.size (fun _ => True) v4 x4_1) ∧ Aside0 (IsS112 w0 w' g s0_0 x1001_1) ∧ Aside0 (KeepBut w w' g none) ∧ Aside0 (Below w0.heap.size w0 w'))
  case atStart => exact ⟨(([] : List Int)), (0), (t1223), (by first | rfl | (simp; done) | (simp [*]; done)), H', ⟨Nat.le_refl _⟩, ⟨by first | exact Kd.R_nil _ _ _ _ _ | exact Kd.N_nil _ _ _ _ _ | exact Kd.V_nil _ _ _ _ _ | exact Kd.Q_nil _ _ _ _ _ | exact Kd.S_nil _ _ _ _ _⟩, ⟨by repeat (first | (with_reducible first | exact HI0.out | apply IsS112.alloc | apply IsS112.drewN | apply IsS112.drew | apply IsS112.set_1) | exact HI0.out)⟩, ⟨by repeat (first | (with_reducible first | exact HK.out | apply KeepBut.set_ | apply keep_drewN | apply keep_drew | apply keep_alloc) | exact HK.out)⟩, ⟨by repeat (first | (with_reducible first | exact HB.out | apply below_alloc | apply pw_below_drewN | apply below_drew1 | refine below_set ?_ (IsS112.ge HI0.out)) | exact HB.out)⟩⟩
  case round =>
    clear H'
    try clear p2
    obtain ⟨x4_1, x5_1, x1001_1, rfl, HA, HK1, HO_4, HI0, HK, HB⟩ := hrel
    cases gk with
    | zero => exact absurd HA.out (by simp [spec_l1drawBytes.l0])
    | succ k1 =>
      have H := HA.out
      clear HA
      simp only [spec_l1drawBytes.l0] at H
      by_cases c4 : x5_1 < (Int.tmod t1222 14)
      · rw [if_pos c4] at H
        have c4b0 : decide (x5_1 < (Int.tmod t1222 14)) = true := decide_eq_true c4
        clear c4
        replace H := Option.bind_eq_some_iff.mp H
        obtain ⟨⟨t1224, t1225⟩, A50, H⟩ := H
        replace H : (if x4_1.length < 140737488355328 then (spec_l1drawBytes.l0 k1 (Int.tmod t1222 14) (x4_1 ++ [(t1224) % 256]) (wrap64 (x5_1 + 1)) s0_0 t1225) else (none)) = some (r1, r2) := H
        have A5 := Aside0.mk A50
        clear A50
        by_cases c6 : x4_1.length < 140737488355328
        · rw [if_pos c6] at H
          have LMc6 := Aside0.mk c6
          clear c6
          obtain ⟨y1226, hy1226⟩ : ∃ y_ : List Int, y_ = (x4_1 ++ [(t1224) % 256]) := ⟨_, rfl⟩
          replace H : (spec_l1drawBytes.l0 k1 (Int.tmod t1222 14) y1226 (wrap64 (x5_1 + 1)) s0_0 t1225) = some (r1, r2) := by first | (rw [hy1226]; with_reducible exact H) | (have H2_ := (Option.bind_some _ _).symm.trans H; rw [hy1226]; with_reducible exact H2_) | (have H2_ := (Option.bind_some _ _).symm.trans H; with_reducible exact H2_) | with_reducible exact H | (rw [hy1226]; exact H) | exact H
          have Ny1226 := Aside0.mk hy1226
          clear hy1226
          have H' := Aside0.mk H
          clear H
          go_wp2_with (first | ((with_reducible refine gate_callee (f := 94) rfl ?_); refine goesL_ (some 16) rfl rfl Try.func94 (by kernel_rfl) rfl #[.pointer (some ⟨g, 0, none⟩)] rfl (by (try simp only [List.map_toArray, List.map_cons, List.map_nil]); first | done | rfl | (simp only [List.length_drop, List.length_take]; rfl)) ?_; (with_reducible refine (spec_l1rd_next.calls g s0_0 x1001_1 t1224 t1225 w0 _ ?side1 ?side2 A5.out).mono ?_); (case side1 => repeat (first | (with_reducible first | exact HI0.out | apply IsS112.alloc | apply IsS112.drewN | apply IsS112.drew | apply IsS112.set_1) | exact HI0.out)); (case side2 => repeat (first | (with_reducible first | exact HB.out | apply below_alloc | apply pw_below_drewN | apply below_drew1 | refine below_set ?_ (IsS112.ge HI0.out)) | exact HB.out)); rintro e w7 ⟨rfl, hi, hb, hk⟩; refine ⟨_, rfl, ?_⟩; have n0_ := Aside0.mk (Kd.R_mono (Kd.R_keep (IsS112.apart (show IsS112 w0 _ g s0_0 x1001_1 from by repeat (first | (with_reducible first | exact HI0.out | apply IsS112.alloc | apply IsS112.drewN | apply IsS112.drew | apply IsS112.set_1) | exact HI0.out)) (by (with_reducible repeat (first | apply Kd.R_alloc | apply Kd.R_drewN | apply Kd.R_drew)); exact HO_4.out) (by decide)) hk (fun _ h => h.2)) (fun _ h => h.1)); have n1_ := Aside0.mk (KeepBut.trans (by repeat (first | (with_reducible first | exact HK.out | apply KeepBut.set_ | apply keep_drewN | apply keep_drew | apply keep_alloc) | exact HK.out)) hk (.inl rfl)); have n2_ := Aside0.mk (hb); have n3_ := Aside0.mk (hi); clear HO_4; clear HK; clear HB; clear HI0; have HO_4 := n0_; have HK := n1_; have HB := n2_; have HI0 := n3_; clear n0_ n1_ n2_ n3_; (try clear hb); (try clear hb2); (try clear hk); (try clear hi)) | ((with_reducible refine gate_builtin (b := .append) (xs := #[.tmp 14, .tmp 18]) rfl ?_); at_builtin; refine Kd.R_append (Kd.int .u8) w.heap.size rfl (.tmp 14) (.tmp 18) 22 5 (.int .u8 0) 1 rfl Try.underlying22 info5 rfl (by decide) (by omega) u4 x4_1 ((t1224) % 256) [.int .u8 ((t1224) % 256)] (fun _ => True) (fun _ => False) rfl rfl ?aP (fun _ hk => hk.elim) ?aF ?aO (Below.refl _ _) ?aS ?aL ?_; (case aP => exact rfl); (case aF => exact (fun _ _ => trivial)); (case aO => exact (by (with_reducible repeat (first | apply Kd.R_alloc | apply Kd.R_drewN | apply Kd.R_drew)); exact HO_4.out)); (case aS => exact (keep_size (w := w) (g := g) (row := none) (by repeat (first | (with_reducible first | exact HK.out | apply KeepBut.set_ | apply keep_drewN | apply keep_drew | apply keep_alloc) | exact HK.out)))); (case aL => have := LMc6.out; omega); intro v1227 w8 ho hb hg hat; rw [← Ny1226.out] at ho; have n0_ := Aside0.mk (IsS112.grown (by repeat (first | (with_reducible first | exact HI0.out | apply IsS112.alloc | apply IsS112.drewN | apply IsS112.drew | apply IsS112.set_1) | exact HI0.out)) hg (IsS112.own_ne HI0.out HO_4.out (by decide))); have n1_ := Aside0.mk (below_weaken (by repeat (first | (with_reducible first | exact HB.out | apply below_alloc | apply pw_below_drewN | apply below_drew1 | refine below_set ?_ (IsS112.ge HI0.out)) | exact HB.out)) HL.out hb); have n2_ := Aside0.mk (KeepBut.trans (by repeat (first | (with_reducible first | exact HK.out | apply KeepBut.set_ | apply keep_drewN | apply keep_drew | apply keep_alloc) | exact HK.out)) (KeepBut.of_grown hg g) (Kd.R_base2 HO_4.out)); have n3_ := Aside0.mk (ho); clear HI0; clear HB; clear HK; clear HO_4; have HI0 := n0_; have HB := n1_; have HK := n2_; have HO1228 := n3_; clear n0_ n1_ n2_ n3_; clear ho hb hg hat))
          go_roundg k1
          case measure => have := HK1.out; omega
          case rel => exact ⟨(y1226), (wrap64 (x5_1 + 1)), (t1225), (by first | rfl | (simp; done) | (simp [*]; done)), H', ⟨by have := HK1.out; omega⟩, ⟨by (with_reducible repeat (first | apply Kd.R_alloc | apply Kd.R_drewN | apply Kd.R_drew)); exact HO1228.out⟩, ⟨by repeat (first | (with_reducible first | exact HI0.out | apply IsS112.alloc | apply IsS112.drewN | apply IsS112.drew | apply IsS112.set_1) | exact HI0.out)⟩, ⟨by repeat (first | (with_reducible first | exact HK.out | apply KeepBut.set_ | apply keep_drewN | apply keep_drew | apply keep_alloc) | exact HK.out)⟩, ⟨by repeat (first | (with_reducible first | exact HB.out | apply below_alloc | apply pw_below_drewN | apply below_drew1 | refine below_set ?_ (IsS112.ge HI0.out)) | exact HB.out)⟩⟩
        · rw [if_neg c6] at H
          exact absurd H (by simp)
      · rw [if_neg c4] at H
        have c4b0 : decide (x5_1 < (Int.tmod t1222 14)) = false := decide_eq_false c4
        clear c4
        simp only [Option.some.injEq, Prod.mk.injEq] at H
        obtain ⟨rfl, rfl⟩ := H
        go_wp2
        go_ret
        exact ⟨_, by first | rfl | (simp [errW_none, errW_some] <;> rfl) | (simp [*, errW_none, errW_some] <;> rfl), by (with_reducible repeat (first | apply Kd.R_alloc | apply Kd.R_drewN | apply Kd.R_drew)); exact HO_4.out, by repeat (first | (with_reducible first | exact HI0.out | apply IsS112.alloc | apply IsS112.drewN | apply IsS112.drew | apply IsS112.set_1) | exact HI0.out), by repeat (first | (with_reducible first | exact HB.out | apply below_alloc | apply pw_below_drewN | apply below_drew1 | refine below_set ?_ (IsS112.ge HI0.out)) | exact HB.out), by repeat (first | (with_reducible first | exact HK.out | apply KeepBut.set_ | apply keep_drewN | apply keep_drew | apply keep_alloc) | exact HK.out)⟩

end Go.Proofs.Ytbapokpkgonjkaa.Print

/- The machine's side of the statements: what a Go function comes to, as a Lean function, and that it does so (written by this session's own program over the kit's printer; Lean checks it). -/
namespace Go.Proofs.Ytbapokpkgonjkaa.Print
open Go.RowKit Go.Proofs.YtbapokpkgonjkaaW.PrintWords Go.Proofs.YtbapokpkgonjkaaW.PrintLast Go.Proofs.YtbapokpkgonjkaaW.PrintMore
attribute [local go_sem] max2_int min2_int max_two min_two max_three min_three max_four min_four   -- for this text's walks alone
set_option linter.unusedVariables false
set_option linter.unusedSimpArgs false

/-! ### spec_l1fill: function 97 -/
def spec_l1fill.l0 : Nat → Int → Int → List Int → Int → Option (List Int)
  | 0, _, _, _, _ => none
  | k + 1, x0, x1, x5, x6 => if x6 < x1 then (if x5.length < 140737488355328 then (spec_l1fill.l0 k x0 x1 (x5 ++ [x0]) (wrap64 (x6 + 1))) else (none)) else (some x5)
def spec_l1fill.f (k : Nat) (a0 : Int) (a1 : Int) : Option (List Int) := spec_l1fill.l0 k a0 a1 ([] : List Int) 0
theorem spec_l1fill.mono_l : ∀ k, (∀ y0 y1 y2 y3, LeO (spec_l1fill.l0 k y0 y1 y2 y3) (spec_l1fill.l0 (k + 1) y0 y1 y2 y3))
  | 0 => fun _ _ _ _ r h => by simp [spec_l1fill.l0] at h
  | k + 1 => by
    have ih0 := spec_l1fill.mono_l k
    · intro y0 y1 y2 y3
      unfold spec_l1fill.l0
      repeat' first
      | (with_reducible exact ih0 _ _ _ _)
      | (with_reducible exact LeO.refl _)
      | (with_reducible exact LeO.none _)
      | (with_reducible refine LeO.ite ?_ ?_)
      | (with_reducible refine LeO.bind ?_ (fun _ => ?_))
      | exact ih0 _ _ _ _
      | exact LeO.none _
      | refine LeO.ite ?_ ?_
      | refine LeO.bind ?_ (fun _ => ?_)
theorem spec_l1fill.mono : ∀ a0 a1 k, LeO (spec_l1fill.f k a0 a1) (spec_l1fill.f (k + 1) a0 a1) := by
  intro a0 a1 k
  have ih0 := spec_l1fill.mono_l k
  unfold spec_l1fill.f
  repeat' first
      | (with_reducible exact ih0 _ _ _ _)
      | (with_reducible exact LeO.refl _)
      | (with_reducible exact LeO.none _)
      | (with_reducible refine LeO.ite ?_ ?_)
      | (with_reducible refine LeO.bind ?_ (fun _ => ?_))
      | exact ih0 _ _ _ _
      | exact LeO.none _
      | refine LeO.ite ?_ ?_
      | refine LeO.bind ?_ (fun _ => ?_)
set_option maxHeartbeats 8000000 in
set_option maxRecDepth 100000 in
theorem spec_l1fill.calls (k : Nat) (a0 : Int) (a1 : Int) (r : List Int) (w : World) (h : spec_l1fill.f k a0 a1 = some r) :
    Calls Try.prog 97 #[.int .u8 a0, .int .i64 a1] w fun e w' => ∃ v0_ : Value, e = .returned (v0_) ∧ Kd.R (Kd.int .u8) 5 w' w.heap.size (fun _ => True) v0_ r ∧ Below w.heap.size w w' := by
  have HB := Aside0.mk (Below.refl w.heap.size w)
  have H : (spec_l1fill.l0 k a0 a1 ([] : List Int) 0) = some r := h
  clear h
  have H' := Aside0.mk H
  clear H
  go_enter Try.func97, Try.ntmps97
  go_wp2
  go_loopg [5, 6] k (fun kq v5 v6 w' => ∃ (x5_1 : List Int) (x6_1 : Int), v6 = .int .i64 x6_1 ∧ Aside0 (spec_l1fill.l0 kq a0 a1 x5_1 x6_1 = some r) ∧ Aside0 (kq ≤ k) ∧ Aside0 (Kd.R (Kd.int .u8) 5 w' w.heap.size (fun _ => True) v5 x5_1) ∧ Aside0 (Below w.heap.size w w'))
  case atStart => exact ⟨(([] : List Int)), (0), (by first | rfl | (simp; done) | (simp [*]; done)), H', ⟨Nat.le_refl _⟩, ⟨by first | exact Kd.R_nil _ _ _ _ _ | exact Kd.N_nil _ _ _ _ _ | exact Kd.V_nil _ _ _ _ _ | exact Kd.Q_nil _ _ _ _ _ | exact Kd.S_nil _ _ _ _ _⟩, ⟨by repeat (first | (with_reducible first | exact HB.out | apply below_alloc | apply pw_below_drewN | apply below_drew1) | exact HB.out)⟩⟩
  case round =>
    clear H'
    try clear p2
    obtain ⟨x5_1, x6_1, rfl, HA, HK1, HO_5, HB⟩ := hrel
    cases gk with
    | zero => exact absurd HA.out (by simp [spec_l1fill.l0])
    | succ k1 =>
      have H := HA.out
      clear HA
      simp only [spec_l1fill.l0] at H
      by_cases c3 : x6_1 < a1
      · rw [if_pos c3] at H
        have c3b0 : decide (x6_1 < a1) = true := decide_eq_true c3
        clear c3
        by_cases c4 : x5_1.length < 140737488355328
        · rw [if_pos c4] at H
          have LMc4 := Aside0.mk c4
          clear c4
          obtain ⟨y1231, hy1231⟩ : ∃ y_ : List Int, y_ = (x5_1 ++ [a0]) := ⟨_, rfl⟩
          replace H : (spec_l1fill.l0 k1 a0 a1 y1231 (wrap64 (x6_1 + 1))) = some r := by first | (rw [hy1231]; with_reducible exact H) | (have H2_ := (Option.bind_some _ _).symm.trans H; rw [hy1231]; with_reducible exact H2_) | (have H2_ := (Option.bind_some _ _).symm.trans H; with_reducible exact H2_) | with_reducible exact H | (rw [hy1231]; exact H) | exact H
          have Ny1231 := Aside0.mk hy1231
          clear hy1231
          have H' := Aside0.mk H
          clear H
          go_wp2_with (first | ((with_reducible refine gate_builtin (b := .append) (xs := #[.tmp 12, .tmp 14]) rfl ?_); at_builtin; refine Kd.R_append (Kd.int .u8) (w0 := w) w.heap.size rfl (.tmp 12) (.tmp 14) 22 5 (.int .u8 0) 1 rfl Try.underlying22 info5 rfl (by decide) (by omega) u5 x5_1 a0 [.int .u8 a0] (fun _ => True) (fun _ => False) rfl rfl ?aP (fun _ hk => hk.elim) ?aF ?aO ?aB ?aS ?aL ?_; (case aP => exact rfl); (case aB => exact (by repeat (first | (with_reducible first | exact HB.out | apply below_alloc | apply pw_below_drewN | apply below_drew1) | exact HB.out))); (case aF => exact (fun _ _ => trivial)); (case aO => exact (by (with_reducible repeat (first | apply Kd.R_alloc | apply Kd.R_drewN | apply Kd.R_drew)); exact HO_5.out)); (case aS => exact (below_size (by repeat (first | (with_reducible first | exact HB.out | apply below_alloc | apply pw_below_drewN | apply below_drew1) | exact HB.out)))); (case aL => have := LMc4.out; omega); intro v1232 w5 ho hb hg hat; rw [← Ny1231.out] at ho; have n0_ := Aside0.mk (hb); have n1_ := Aside0.mk (ho); clear HB; clear HO_5; have HB := n0_; have HO1233 := n1_; clear n0_ n1_; clear ho hb hg hat))
          go_roundg k1
          case measure => have := HK1.out; omega
          case rel => exact ⟨(y1231), (wrap64 (x6_1 + 1)), (by first | rfl | (simp; done) | (simp [*]; done)), H', ⟨by have := HK1.out; omega⟩, ⟨by (with_reducible repeat (first | apply Kd.R_alloc | apply Kd.R_drewN | apply Kd.R_drew)); exact HO1233.out⟩, ⟨by repeat (first | (with_reducible first | exact HB.out | apply below_alloc | apply pw_below_drewN | apply below_drew1) | exact HB.out)⟩⟩
        · rw [if_neg c4] at H
          exact absurd H (by simp)
      · rw [if_neg c3] at H
        have c3b0 : decide (x6_1 < a1) = false := decide_eq_false c3
        clear c3
        obtain rfl := Option.some.inj H
        go_wp2
        go_ret
        exact ⟨_, by first | rfl | (simp [errW_none, errW_some] <;> rfl) | (simp [*, errW_none, errW_some] <;> rfl), by (with_reducible repeat (first | apply Kd.R_alloc | apply Kd.R_drewN | apply Kd.R_drew)); exact HO_5.out, by repeat (first | (with_reducible first | exact HB.out | apply below_alloc | apply pw_below_drewN | apply below_drew1) | exact HB.out)⟩

end Go.Proofs.Ytbapokpkgonjkaa.Print

/- A drawn file: l1drawFile, its printed statement with a proof by hand. -/
namespace Go.Proofs.Ytbapokpkgonjkaa.Print
open Go.RowKit Go.Proofs.YtbapokpkgonjkaaW.PrintWords Go.Proofs.YtbapokpkgonjkaaW.PrintLast Go.Proofs.YtbapokpkgonjkaaW.PrintMore
set_option linter.unusedVariables false
set_option linter.unusedSimpArgs false
def spec_l1drawFile.f (k : Nat) (s0_0 : List Int) (s0_1 : Int) : Option (List Int × Int × Int) := (spec_l1drawBytes.f k s0_0 s0_1).bind fun x => ((spec_l1rd_next.f s0_0 x.2).bind fun y => some (x.1, if y.1 = 251 then -1 else if y.1 = 250 then (x.1.length : Int) + 1 else Int.tmod y.1 ((x.1.length : Int) + 1), y.2))
theorem spec_l1drawFile.mono : ∀ a0 a1 k, LeO (spec_l1drawFile.f k a0 a1) (spec_l1drawFile.f (k + 1) a0 a1) := by
  intro a0 a1 k
  unfold spec_l1drawFile.f
  refine LeO.bind (spec_l1drawBytes.mono _ _ _) (fun _ => ?_)
  exact LeO.refl _
theorem drawBytes_l0_len : ∀ (k : Nat) (x3 : Int) (x4 : List Int) (x5 : Int) (s : List Int) (p : Int) (r : List Int × Int), spec_l1drawBytes.l0 k x3 x4 x5 s p = some r → x4.length ≤ 140737488355328 → r.1.length ≤ 140737488355328 := by
  intro k
  induction k with
  | zero => intro x3 x4 x5 s p r h; simp [spec_l1drawBytes.l0] at h
  | succ k ih =>
    intro x3 x4 x5 s p r h hl
    simp only [spec_l1drawBytes.l0] at h
    split at h
    · obtain ⟨b, _, h⟩ := Option.bind_eq_some_iff.mp h
      split at h
      · exact ih _ _ _ _ _ _ h (by simp only [List.length_append, List.length_singleton]; omega)
      · cases h
    · cases h
      exact hl
theorem drawBytes_len (k : Nat) (s : List Int) (p : Int) (l : List Int) (q : Int) (h : spec_l1drawBytes.f k s p = some (l, q)) : l.length ≤ 140737488355328 := by
  unfold spec_l1drawBytes.f at h
  obtain ⟨b, _, h⟩ := Option.bind_eq_some_iff.mp h
  exact drawBytes_l0_len _ _ _ _ _ _ _ h (by simp)
set_option maxHeartbeats 2000000 in
set_option maxRecDepth 100000 in
theorem spec_l1drawFile_calls (k : Nat) (g : Nat) (s0 : List Int) (p0 : Int) (l : List Int) (p1 t p2 : Int) (w0 w : World) (hI : IsS112 w0 w g s0 p0) (hB : Below w0.heap.size w0 w) (h1 : spec_l1drawBytes.f k s0 p0 = some (l, p1)) (h2 : spec_l1rd_next.f s0 p1 = some (t, p2)) :
    Calls Try.prog 105 #[.pointer (some ⟨g, 0, none⟩)] w fun e w' => ∃ v : Value, e = .returned (.agg #[v, .int .i64 (if t = 251 then -1 else if t = 250 then (l.length : Int) + 1 else Int.tmod t ((l.length : Int) + 1))]) ∧ Kd.R (Kd.int .u8) 5 w' w.heap.size (fun _ => True) v l ∧ IsS112 w0 w' g s0 p2 ∧ Below w0.heap.size w0 w' ∧ KeepBut w w' g none := by
  have HI := Aside0.mk hI
  have HB := Aside0.mk hB
  clear hI hB
  generalize hq : (if t = 251 then (-1 : Int) else if t = 250 then (l.length : Int) + 1 else Int.tmod t ((l.length : Int) + 1)) = q
  go_enter Try.func105, Try.ntmps105
  go_wp2_with fail
  have hne : g ≠ w.heap.size := by have := IsS112.lt HI.out; omega
  refine (spec_l1drawBytes.calls k g s0 p0 l p1 w0 _ (IsS112.alloc HI.out _) (below_alloc HB.out _) h1).mono ?_
  rintro e w1 ⟨v, rfl, ho, hi, hb, hk⟩
  obtain ⟨V, vc, rfl⟩ := Kd.R_slice ho
  have hlen := drawBytes_len k s0 p0 l p1 h1
  have X1 : w1.heap[w.heap.size]? = some (.cells #[.slice none 0 0, .int .i64 0] 29) := (hk.2 _ (by simp) (fun e => hne e.symm) (by simp)).trans (blk_new w _)
  have K1 : KeepBut w w1 g none := KeepBut.trans (keep_alloc (KeepBut.refl w g none) _) hk (.inl rfl)
  have hge : w0.heap.size ≤ w.heap.size := HB.out.size
  have z0 := blk_cell X1 0
  have z1 := blk_cell X1 1
  have z2 := blk_lt X1
  have z3 := blk_frozen X1 0
  have z4 := blk_frozen X1 1
  simp only [List.getElem?_toArray, List.getElem?_cons_zero, List.getElem?_cons_succ] at z0 z1
  have HI1 := Aside0.mk hi
  have HB1 := Aside0.mk hb
  have HK1 := Aside0.mk K1
  have HO := Aside0.mk ho
  clear hi hb hk ho K1
  go_wp2_with fail
  have hne1 : g ≠ w1.heap.size := by have := IsS112.lt HI1.out; omega
  refine (spec_l1rd_next.calls g s0 p1 t p2 w0 _ (IsS112.alloc HI1.out _) (below_alloc HB1.out _) h2).mono ?_
  rintro e w2 ⟨rfl, hi, hb, hk⟩
  have X2 : w2.heap[w.heap.size]? = some (.cells #[.slice none 0 0, .int .i64 0] 29) := (hk.2 _ (by simp; omega) (fun e => hne e.symm) (by simp)).trans (blk_alloc X1 _)
  have Y2 : w2.heap[w1.heap.size]? = some (.cells #[.slice V l.length vc, .int .i64 0] 29) := (hk.2 _ (by simp) (fun e => hne1 e.symm) (by simp)).trans (blk_new w1 _)
  have K2 : KeepBut w w2 g none := KeepBut.trans (keep_alloc HK1.out _) hk (.inl rfl)
  have R2 : Kd.R (Kd.int .u8) 5 w2 w.heap.size (fun k => (True ∧ k ≠ w.heap.size) ∧ k ≠ w1.heap.size) (.slice V l.length vc) l := by
    have r1 := Kd.R_lower HO.out (base' := w.heap.size) (by simp)
    have r2 := Kd.R_keep (Kd.R_alloc (IsS112.apart HI1.out r1 (by decide)) _) hk (fun k hk => hk.2)
    exact Kd.R_types (Kd.R_mono (Kd.R_types r2 X2 (by decide)) (fun k hk => ⟨trivial, hk.2⟩)) Y2 (by decide)
  have HR2 := Aside0.mk R2
  clear z0 z1 z2 z3 z4 R2
  have z0 := blk_cell X2 0
  have z1 := blk_cell X2 1
  have z2 := blk_lt X2
  have z3 := blk_frozen X2 0
  have z4 := blk_frozen X2 1
  have y0 := blk_cell Y2 0
  have y1 := blk_cell Y2 1
  have y2 := blk_lt Y2
  have y3 := blk_frozen Y2 0
  have y4 := blk_frozen Y2 1
  simp only [List.getElem?_toArray, List.getElem?_cons_zero, List.getElem?_cons_succ] at z0 z1 y0 y1
  have HI2 := Aside0.mk hi
  have HB2 := Aside0.mk hb
  have HK2 := Aside0.mk K2
  have HX2 := Aside0.mk X2
  have HY2 := Aside0.mk Y2
  have hlt : w.heap.size < w1.heap.size := blk_lt X1
  clear hi hb hk X1 K2 HO HI1 HB1 HK1 X2 Y2
  have hw : wrap64 ((l.length : Int) + 1) = (l.length : Int) + 1 := by unfold wrap64; omega
  have hnz : ((l.length : Int) + 1 == 0) = false := by simp; omega
  have hnz2 : ¬ ((l.length : Int) + 1 = 0) := by omega
  by_cases c1 : t = 251
  · have e1 : (t == 251) = true := beq_iff_eq.mpr c1
    have e2 : (t == 250) = false := beq_eq_false_iff_ne.mpr (by omega)
    rw [if_pos c1] at hq
    subst hq
    clear c1
    go_wp2_with fail
    refine bodyPost_ret (results_cell_row rfl _ _ w.heap.size 29 #[.slice V l.length vc, .int .i64 (-1)] (0, 0) _ rfl (blk_put (cs := #[.slice V l.length vc, .int .i64 0]) (cs' := #[.slice V l.length vc, .int .i64 (-1)]) (blk_put (cs := #[.slice none 0 0, .int .i64 0]) (cs' := #[.slice V l.length vc, .int .i64 0]) (blk_far (p := ⟨w1.heap.size, 1, none⟩) (blk_far (p := ⟨w1.heap.size, 1, none⟩) HX2.out (by show w.heap.size ≠ w1.heap.size; omega) (.int .i64 (Int.tmod t ((l.length : Int) + 1)))) (by show w.heap.size ≠ w1.heap.size; omega) (.int .i64 (-1))) 0 (.slice V l.length vc) rfl) 1 (.int .i64 (-1)) rfl) Try.underlying29 rfl (by kernel_rfl)) rfl ?_
    exact ⟨_, rfl, Kd.R_mono (Kd.R_far (p := ⟨w.heap.size, 1, none⟩) (Kd.R_far (p := ⟨w.heap.size, 0, none⟩) (Kd.R_far (p := ⟨w1.heap.size, 1, none⟩) (Kd.R_far (p := ⟨w1.heap.size, 1, none⟩) HR2.out (fun k hk => hk.2) (.int .i64 (Int.tmod t ((l.length : Int) + 1)))) (fun k hk => hk.2) (.int .i64 (-1))) (fun k hk => hk.1.2) (.slice V l.length vc)) (fun k hk => hk.1.2) (.int .i64 (-1))) (fun _ _ => trivial), (IsS112.far (p := ⟨w.heap.size, 1, none⟩) (IsS112.far (p := ⟨w.heap.size, 0, none⟩) (IsS112.far (p := ⟨w1.heap.size, 1, none⟩) (IsS112.far (p := ⟨w1.heap.size, 1, none⟩) HI2.out hne1 (.int .i64 (Int.tmod t ((l.length : Int) + 1)))) hne1 (.int .i64 (-1))) hne (.slice V l.length vc)) hne (.int .i64 (-1))), (below_set (j := 1) (v := .int .i64 (-1)) (below_set (j := 0) (v := .slice V l.length vc) (below_set (j := 1) (v := .int .i64 (-1)) (below_set (j := 1) (v := .int .i64 (Int.tmod t ((l.length : Int) + 1))) HB2.out (g := w1.heap.size) (by omega)) (g := w1.heap.size) (by omega)) (g := w.heap.size) hge) (g := w.heap.size) hge), (keep_far (p := ⟨w.heap.size, 1, none⟩) (keep_far (p := ⟨w.heap.size, 0, none⟩) (keep_far (p := ⟨w1.heap.size, 1, none⟩) (keep_far (p := ⟨w1.heap.size, 1, none⟩) HK2.out (by show w.heap.size ≤ w1.heap.size; omega) (.int .i64 (Int.tmod t ((l.length : Int) + 1)))) (by show w.heap.size ≤ w1.heap.size; omega) (.int .i64 (-1))) (Nat.le_refl _) (.slice V l.length vc)) (Nat.le_refl _) (.int .i64 (-1)))⟩
  · rw [if_neg c1] at hq
    have e1 : (t == 251) = false := beq_eq_false_iff_ne.mpr c1
    clear c1
    by_cases c2 : t = 250
    · have e2 : (t == 250) = true := beq_iff_eq.mpr c2
      rw [if_pos c2] at hq
      subst hq
      clear c2
      go_wp2_with fail
      refine bodyPost_ret (results_cell_row rfl _ _ w.heap.size 29 #[.slice V l.length vc, .int .i64 ((l.length : Int) + 1)] (0, 0) _ rfl (blk_put (cs := #[.slice V l.length vc, .int .i64 0]) (cs' := #[.slice V l.length vc, .int .i64 ((l.length : Int) + 1)]) (blk_put (cs := #[.slice none 0 0, .int .i64 0]) (cs' := #[.slice V l.length vc, .int .i64 0]) (blk_far (p := ⟨w1.heap.size, 1, none⟩) (blk_far (p := ⟨w1.heap.size, 1, none⟩) HX2.out (by show w.heap.size ≠ w1.heap.size; omega) (.int .i64 (Int.tmod t ((l.length : Int) + 1)))) (by show w.heap.size ≠ w1.heap.size; omega) (.int .i64 ((l.length : Int) + 1))) 0 (.slice V l.length vc) rfl) 1 (.int .i64 ((l.length : Int) + 1)) rfl) Try.underlying29 rfl (by kernel_rfl)) rfl ?_
      exact ⟨_, rfl, Kd.R_mono (Kd.R_far (p := ⟨w.heap.size, 1, none⟩) (Kd.R_far (p := ⟨w.heap.size, 0, none⟩) (Kd.R_far (p := ⟨w1.heap.size, 1, none⟩) (Kd.R_far (p := ⟨w1.heap.size, 1, none⟩) HR2.out (fun k hk => hk.2) (.int .i64 (Int.tmod t ((l.length : Int) + 1)))) (fun k hk => hk.2) (.int .i64 ((l.length : Int) + 1))) (fun k hk => hk.1.2) (.slice V l.length vc)) (fun k hk => hk.1.2) (.int .i64 ((l.length : Int) + 1))) (fun _ _ => trivial), (IsS112.far (p := ⟨w.heap.size, 1, none⟩) (IsS112.far (p := ⟨w.heap.size, 0, none⟩) (IsS112.far (p := ⟨w1.heap.size, 1, none⟩) (IsS112.far (p := ⟨w1.heap.size, 1, none⟩) HI2.out hne1 (.int .i64 (Int.tmod t ((l.length : Int) + 1)))) hne1 (.int .i64 ((l.length : Int) + 1))) hne (.slice V l.length vc)) hne (.int .i64 ((l.length : Int) + 1))), (below_set (j := 1) (v := .int .i64 ((l.length : Int) + 1)) (below_set (j := 0) (v := .slice V l.length vc) (below_set (j := 1) (v := .int .i64 ((l.length : Int) + 1)) (below_set (j := 1) (v := .int .i64 (Int.tmod t ((l.length : Int) + 1))) HB2.out (g := w1.heap.size) (by omega)) (g := w1.heap.size) (by omega)) (g := w.heap.size) hge) (g := w.heap.size) hge), (keep_far (p := ⟨w.heap.size, 1, none⟩) (keep_far (p := ⟨w.heap.size, 0, none⟩) (keep_far (p := ⟨w1.heap.size, 1, none⟩) (keep_far (p := ⟨w1.heap.size, 1, none⟩) HK2.out (by show w.heap.size ≤ w1.heap.size; omega) (.int .i64 (Int.tmod t ((l.length : Int) + 1)))) (by show w.heap.size ≤ w1.heap.size; omega) (.int .i64 ((l.length : Int) + 1))) (Nat.le_refl _) (.slice V l.length vc)) (Nat.le_refl _) (.int .i64 ((l.length : Int) + 1)))⟩
    · have e2 : (t == 250) = false := beq_eq_false_iff_ne.mpr c2
      rw [if_neg c2] at hq
      subst hq
      clear c2
      go_wp2_with fail
      refine bodyPost_ret (results_cell_row rfl _ _ w.heap.size 29 #[.slice V l.length vc, .int .i64 (Int.tmod t ((l.length : Int) + 1))] (0, 0) _ rfl (blk_put (cs := #[.slice V l.length vc, .int .i64 0]) (cs' := #[.slice V l.length vc, .int .i64 (Int.tmod t ((l.length : Int) + 1))]) (blk_put (cs := #[.slice none 0 0, .int .i64 0]) (cs' := #[.slice V l.length vc, .int .i64 0]) (blk_far (p := ⟨w1.heap.size, 1, none⟩) HX2.out (by show w.heap.size ≠ w1.heap.size; omega) (.int .i64 (Int.tmod t ((l.length : Int) + 1)))) 0 (.slice V l.length vc) rfl) 1 (.int .i64 (Int.tmod t ((l.length : Int) + 1))) rfl) Try.underlying29 rfl (by kernel_rfl)) rfl ?_
      exact ⟨_, rfl, Kd.R_mono (Kd.R_far (p := ⟨w.heap.size, 1, none⟩) (Kd.R_far (p := ⟨w.heap.size, 0, none⟩) (Kd.R_far (p := ⟨w1.heap.size, 1, none⟩) HR2.out (fun k hk => hk.2) (.int .i64 (Int.tmod t ((l.length : Int) + 1)))) (fun k hk => hk.1.2) (.slice V l.length vc)) (fun k hk => hk.1.2) (.int .i64 (Int.tmod t ((l.length : Int) + 1)))) (fun _ _ => trivial), (IsS112.far (p := ⟨w.heap.size, 1, none⟩) (IsS112.far (p := ⟨w.heap.size, 0, none⟩) (IsS112.far (p := ⟨w1.heap.size, 1, none⟩) HI2.out hne1 (.int .i64 (Int.tmod t ((l.length : Int) + 1)))) hne (.slice V l.length vc)) hne (.int .i64 (Int.tmod t ((l.length : Int) + 1)))), (below_set (j := 1) (v := .int .i64 (Int.tmod t ((l.length : Int) + 1))) (below_set (j := 0) (v := .slice V l.length vc) (below_set (j := 1) (v := .int .i64 (Int.tmod t ((l.length : Int) + 1))) HB2.out (g := w1.heap.size) (by omega)) (g := w.heap.size) hge) (g := w.heap.size) hge), (keep_far (p := ⟨w.heap.size, 1, none⟩) (keep_far (p := ⟨w.heap.size, 0, none⟩) (keep_far (p := ⟨w1.heap.size, 1, none⟩) HK2.out (by show w.heap.size ≤ w1.heap.size; omega) (.int .i64 (Int.tmod t ((l.length : Int) + 1)))) (Nat.le_refl _) (.slice V l.length vc)) (Nat.le_refl _) (.int .i64 (Int.tmod t ((l.length : Int) + 1))))⟩
theorem spec_l1drawFile.calls (k : Nat) (g : Nat) (s0_0 : List Int) (s0_1 : Int) (r1 : List Int) (r2 : Int) (r3 : Int) (w0 w : World) (hI : IsS112 w0 w g s0_0 s0_1) (hB : Below w0.heap.size w0 w) (h : spec_l1drawFile.f k s0_0 s0_1 = some (r1, r2, r3)) :
    Calls Try.prog 105 #[.pointer (some ⟨g, 0, none⟩)] w fun e w' => ∃ v0_ : Value, e = .returned (.agg #[v0_, .int .i64 r2]) ∧ Kd.R (Kd.int .u8) 5 w' w.heap.size (fun _ => True) v0_ r1 ∧ IsS112 w0 w' g s0_0 r3 ∧ Below w0.heap.size w0 w' ∧ KeepBut w w' g none := by
  unfold spec_l1drawFile.f at h
  obtain ⟨⟨l, p1⟩, h1, h⟩ := Option.bind_eq_some_iff.mp h
  obtain ⟨⟨t, p2⟩, h2, h⟩ := Option.bind_eq_some_iff.mp h
  simp only [Option.some.injEq, Prod.mk.injEq] at h
  obtain ⟨rfl, rfl, rfl⟩ := h
  exact spec_l1drawFile_calls k g s0_0 s0_1 l p1 t p2 w0 w hI hB h1 h2
end Go.Proofs.Ytbapokpkgonjkaa.Print

/- The machine's side of the statements: what a Go function comes to, as a Lean function, and that it does so (written by this session's own program over the kit's printer; Lean checks it). -/
namespace Go.Proofs.Ytbapokpkgonjkaa.Print
open Go.RowKit Go.Proofs.YtbapokpkgonjkaaW.PrintWords Go.Proofs.YtbapokpkgonjkaaW.PrintLast Go.Proofs.YtbapokpkgonjkaaW.PrintMore
attribute [local go_sem] max2_int min2_int max_two min_two max_three min_three max_four min_four   -- for this text's walks alone
set_option linter.unusedVariables false
set_option linter.unusedSimpArgs false

/-! ### spec_l1drawFileNo: function 95 -/
def spec_l1drawFileNo.f (s0_0 : List Int) (s0_1 : Int) : Option (Int × Int) := (spec_l1rd_next.f s0_0 s0_1).bind fun bt1229 => (if bt1229.1 = 250 then (some ((-1), bt1229.2)) else (if bt1229.1 = 251 then (some (3, bt1229.2)) else (some (Int.tmod bt1229.1 3, bt1229.2))))
set_option maxHeartbeats 8000000 in
set_option maxRecDepth 100000 in
theorem spec_l1drawFileNo.calls (g : Nat) (s0_0 : List Int) (s0_1 : Int) (r1 : Int) (r2 : Int) (w0 w : World) (hI : IsS112 w0 w g s0_0 s0_1) (hB : Below w0.heap.size w0 w) (h : spec_l1drawFileNo.f s0_0 s0_1 = some (r1, r2)) :
    Calls Try.prog 95 #[.pointer (some ⟨g, 0, none⟩)] w fun e w' => e = .returned (.int .i64 r1) ∧ IsS112 w0 w' g s0_0 r2 ∧ Below w0.heap.size w0 w' ∧ KeepBut w w' g none := by
  have HI0 := Aside0.mk hI
  have HK := Aside0.mk (KeepBut.refl w g none)
  have HL := Aside0.mk hB.size
  clear hI
  have HW0 := Aside0.mk hB.size
  have HB := Aside0.mk hB
  clear hB
  have H : ((spec_l1rd_next.f s0_0 s0_1).bind fun bt1229 => (if bt1229.1 = 250 then (some ((-1), bt1229.2)) else (if bt1229.1 = 251 then (some (3, bt1229.2)) else (some (Int.tmod bt1229.1 3, bt1229.2))))) = some (r1, r2) := h
  clear h
  replace H := Option.bind_eq_some_iff.mp H
  obtain ⟨⟨t1229, t1230⟩, A20, H⟩ := H
  replace H : (if t1229 = 250 then (some ((-1), t1230)) else (if t1229 = 251 then (some (3, t1230)) else (some (Int.tmod t1229 3, t1230)))) = some (r1, r2) := H
  have A2 := Aside0.mk A20
  clear A20
  by_cases c3 : t1229 = 250
  · rw [if_pos c3] at H
    have c3b0 : (t1229 == 250) = true := beq_iff_eq.mpr c3
    have c3b1 : (t1229 != 250) = false := bne_eq_false_iff_eq.mpr c3
    clear c3
    simp only [Option.some.injEq, Prod.mk.injEq] at H
    obtain ⟨rfl, rfl⟩ := H
    go_enter Try.func95, Try.ntmps95
    go_wp2_with (first | ((with_reducible refine gate_callee (f := 94) rfl ?_); refine goesL_ (some 5) rfl rfl Try.func94 (by kernel_rfl) rfl #[.pointer (some ⟨g, 0, none⟩)] rfl (by (try simp only [List.map_toArray, List.map_cons, List.map_nil]); first | done | rfl | (simp only [List.length_drop, List.length_take]; rfl)) ?_; (with_reducible refine (spec_l1rd_next.calls g s0_0 s0_1 t1229 t1230 w0 _ ?side1 ?side2 A2.out).mono ?_); (case side1 => repeat (first | (with_reducible first | exact HI0.out | apply IsS112.alloc | apply IsS112.drewN | apply IsS112.drew | apply IsS112.set_1) | exact HI0.out)); (case side2 => repeat (first | (with_reducible first | exact HB.out | apply below_alloc | apply pw_below_drewN | apply below_drew1 | refine below_set ?_ (IsS112.ge HI0.out)) | exact HB.out)); rintro e w4 ⟨rfl, hi, hb, hk⟩; refine ⟨_, rfl, ?_⟩; have n0_ := Aside0.mk (KeepBut.trans (by repeat (first | (with_reducible first | exact HK.out | apply KeepBut.set_ | apply keep_drewN | apply keep_drew | apply keep_alloc) | exact HK.out)) hk (.inl rfl)); have n1_ := Aside0.mk (hb); have n2_ := Aside0.mk (hi); clear HK; clear HB; clear HI0; have HK := n0_; have HB := n1_; have HI0 := n2_; clear n0_ n1_ n2_; (try clear hb); (try clear hb2); (try clear hk); (try clear hi)))
    go_ret
    exact ⟨by first | rfl | (simp [errW_none, errW_some] <;> rfl) | (simp [*, errW_none, errW_some] <;> rfl), by repeat (first | (with_reducible first | exact HI0.out | apply IsS112.alloc | apply IsS112.drewN | apply IsS112.drew | apply IsS112.set_1) | exact HI0.out), by repeat (first | (with_reducible first | exact HB.out | apply below_alloc | apply pw_below_drewN | apply below_drew1 | refine below_set ?_ (IsS112.ge HI0.out)) | exact HB.out), by repeat (first | (with_reducible first | exact HK.out | apply KeepBut.set_ | apply keep_drewN | apply keep_drew | apply keep_alloc) | exact HK.out)⟩
  · rw [if_neg c3] at H
    have c3b0 : (t1229 == 250) = false := beq_eq_false_iff_ne.mpr c3
    have c3b1 : (t1229 != 250) = true := bne_iff_ne.mpr c3
    by_cases c5 : t1229 = 251
    · rw [if_pos c5] at H
      have c5b0 : (t1229 == 251) = true := beq_iff_eq.mpr c5
      have c5b1 : (t1229 != 251) = false := bne_eq_false_iff_eq.mpr c5
      clear c5
      simp only [Option.some.injEq, Prod.mk.injEq] at H
      obtain ⟨rfl, rfl⟩ := H
      go_enter Try.func95, Try.ntmps95
      go_wp2_with (first | ((with_reducible refine gate_callee (f := 94) rfl ?_); refine goesL_ (some 5) rfl rfl Try.func94 (by kernel_rfl) rfl #[.pointer (some ⟨g, 0, none⟩)] rfl (by (try simp only [List.map_toArray, List.map_cons, List.map_nil]); first | done | rfl | (simp only [List.length_drop, List.length_take]; rfl)) ?_; (with_reducible refine (spec_l1rd_next.calls g s0_0 s0_1 t1229 t1230 w0 _ ?side1 ?side2 A2.out).mono ?_); (case side1 => repeat (first | (with_reducible first | exact HI0.out | apply IsS112.alloc | apply IsS112.drewN | apply IsS112.drew | apply IsS112.set_1) | exact HI0.out)); (case side2 => repeat (first | (with_reducible first | exact HB.out | apply below_alloc | apply pw_below_drewN | apply below_drew1 | refine below_set ?_ (IsS112.ge HI0.out)) | exact HB.out)); rintro e w6 ⟨rfl, hi, hb, hk⟩; refine ⟨_, rfl, ?_⟩; have n0_ := Aside0.mk (KeepBut.trans (by repeat (first | (with_reducible first | exact HK.out | apply KeepBut.set_ | apply keep_drewN | apply keep_drew | apply keep_alloc) | exact HK.out)) hk (.inl rfl)); have n1_ := Aside0.mk (hb); have n2_ := Aside0.mk (hi); clear HK; clear HB; clear HI0; have HK := n0_; have HB := n1_; have HI0 := n2_; clear n0_ n1_ n2_; (try clear hb); (try clear hb2); (try clear hk); (try clear hi)))
      go_ret
      exact ⟨by first | rfl | (simp [errW_none, errW_some] <;> rfl) | (simp [*, errW_none, errW_some] <;> rfl), by repeat (first | (with_reducible first | exact HI0.out | apply IsS112.alloc | apply IsS112.drewN | apply IsS112.drew | apply IsS112.set_1) | exact HI0.out), by repeat (first | (with_reducible first | exact HB.out | apply below_alloc | apply pw_below_drewN | apply below_drew1 | refine below_set ?_ (IsS112.ge HI0.out)) | exact HB.out), by repeat (first | (with_reducible first | exact HK.out | apply KeepBut.set_ | apply keep_drewN | apply keep_drew | apply keep_alloc) | exact HK.out)⟩
    · rw [if_neg c5] at H
      have c5b0 : (t1229 == 251) = false := beq_eq_false_iff_ne.mpr c5
      have c5b1 : (t1229 != 251) = true := bne_iff_ne.mpr c5
      simp only [Option.some.injEq, Prod.mk.injEq] at H
      obtain ⟨rfl, rfl⟩ := H
      go_enter Try.func95, Try.ntmps95
      go_wp2_with (first | ((with_reducible refine gate_callee (f := 94) rfl ?_); refine goesL_ (some 5) rfl rfl Try.func94 (by kernel_rfl) rfl #[.pointer (some ⟨g, 0, none⟩)] rfl (by (try simp only [List.map_toArray, List.map_cons, List.map_nil]); first | done | rfl | (simp only [List.length_drop, List.length_take]; rfl)) ?_; (with_reducible refine (spec_l1rd_next.calls g s0_0 s0_1 t1229 t1230 w0 _ ?side1 ?side2 A2.out).mono ?_); (case side1 => repeat (first | (with_reducible first | exact HI0.out | apply IsS112.alloc | apply IsS112.drewN | apply IsS112.drew | apply IsS112.set_1) | exact HI0.out)); (case side2 => repeat (first | (with_reducible first | exact HB.out | apply below_alloc | apply pw_below_drewN | apply below_drew1 | refine below_set ?_ (IsS112.ge HI0.out)) | exact HB.out)); rintro e w7 ⟨rfl, hi, hb, hk⟩; refine ⟨_, rfl, ?_⟩; have n0_ := Aside0.mk (KeepBut.trans (by repeat (first | (with_reducible first | exact HK.out | apply KeepBut.set_ | apply keep_drewN | apply keep_drew | apply keep_alloc) | exact HK.out)) hk (.inl rfl)); have n1_ := Aside0.mk (hb); have n2_ := Aside0.mk (hi); clear HK; clear HB; clear HI0; have HK := n0_; have HB := n1_; have HI0 := n2_; clear n0_ n1_ n2_; (try clear hb); (try clear hb2); (try clear hk); (try clear hi)))
      go_ret
      exact ⟨by first | rfl | (simp [errW_none, errW_some] <;> rfl) | (simp [*, errW_none, errW_some] <;> rfl), by repeat (first | (with_reducible first | exact HI0.out | apply IsS112.alloc | apply IsS112.drewN | apply IsS112.drew | apply IsS112.set_1) | exact HI0.out), by repeat (first | (with_reducible first | exact HB.out | apply below_alloc | apply pw_below_drewN | apply below_drew1 | refine below_set ?_ (IsS112.ge HI0.out)) | exact HB.out), by repeat (first | (with_reducible first | exact HK.out | apply KeepBut.set_ | apply keep_drewN | apply keep_drew | apply keep_alloc) | exact HK.out)⟩

end Go.Proofs.Ytbapokpkgonjkaa.Print

/- l1drawFile: by hand (its text is the one imported). -/
