/- Texts of this session, joined by its own program. -/
import Derived.Test.YtbapokpkgonjkaaProg
import Derived.Below
import Derived.Deep.Draws
import Derived.Deep.AppendLies
import Derived.Maps.AppendAt
import Derived.OwnWalk
import Derived.Laws.BytesArg
import Derived.Laws.MakeOwn
import Derived.Laws.OwnMore
import Derived.Deep.OwnRows
import Derived.Tactics
import Derived.Lib.ConvBytes
import Derived.Laws.Slices
import Derived.WalkKit
import Derived.KernelRfl
import Derived.RowKit3
import Derived.Deep.LoopGhost
import Derived.Deep.QuietTactic
import Derived.BigQuiet
import Derived.WideLaws
import Derived.Deep.DeepCutAuto
import Derived.Deep.CutBlock
import Derived.Deep.RegionHeld3
import Derived.Laws.Rows
import Derived.Lib.AppendStr
import Derived.ArgAppend
import Derived.Laws.IdiomCopy
import Derived.OrdersHeld
import Derived.Laws.BitsLemmas
import Derived.RowKit
import Derived.Test.YtbapokpkgonjkaaWWords
import Derived.Test.YtbapokpkgonjkaaWLast
import Derived.Test.YtbapokpkgonjkaaWTab
import Derived.Test.YtbapokpkgonjkaaWFour
import Derived.Test.YtbapokpkgonjkaaWQPut
import Derived.Test.YtbapokpkgonjkaaWApart
import Derived.Test.YtbapokpkgonjkaaWArr
import Derived.Test.YtbapokpkgonjkaaWZeros
import Derived.Test.YtbapokpkgonjkaaWFoot
import Derived.Test.YtbapokpkgonjkaaWKept
import Derived.Test.YtbapokpkgonjkaaWShare
import Derived.Test.YtbapokpkgonjkaaWN
import Derived.Test.YtbapokpkgonjkaaWFootNe
import Derived.Test.YtbapokpkgonjkaaWAt
import Derived.Test.YtbapokpkgonjkaaWEqStruct
import Derived.Test.YtbapokpkgonjkaaWRepsOne
import Derived.Test.YtbapokpkgonjkaaWInv
import Derived.Test.YtbapokpkgonjkaaWInvWords
import Derived.Test.YtbapokpkgonjkaaWGuard
import Derived.Test.YtbapokpkgonjkaaWNEv
import Derived.Test.YtbapokpkgonjkaaWMore
import Derived.Test.YtbapokpkgonjkaaRows
import Derived.ProofKit
import Derived.OpenShut
import Derived.ShutString
import Derived.ChangeOld
import Derived.SizedLaws
import Derived.ChangeSlices
namespace Go.Proofs.Ytbapokpkgonjkaa.Print
open Go.RowKit Go.Proofs.YtbapokpkgonjkaaW.PrintWords Go.Proofs.YtbapokpkgonjkaaW.PrintLast Go.Proofs.YtbapokpkgonjkaaW.PrintMore
attribute [local go_sem] max2_int min2_int max_two min_two max_three min_three max_four min_four
set_option linter.unusedVariables false
set_option linter.unusedSimpArgs false
theorem info5 : (Try.prog.info? 5).map (fun i => (i.zero, i.size, i.bytes)) = some (some (.int .u8 0), 1, 1) := by kernel_rfl
theorem info45 : (Try.prog.info? 45).map (fun i => (i.zero, i.size, i.bytes)) = some (some (.agg #[(.int .u64 0), (.slice none 0 0)]), 2, 32) := by kernel_rfl
def rd_L1 (xs : List (List Int)) (i : Int) : (List Int) := xs.getD i.toNat ([] : List Int)
theorem at_L1 {w : World} {A : Option Addr} {n : Nat} {xs : List (List Int)} (h : Kd.C (Kd.slice 5 (Kd.int .u8)) w A n xs) (i : Int) (h0 : 0 ≤ i) (h1 : i < n) : ∃ ad A0 c0, A = some ad ∧ w.cell? (ad.add i.toNat) = some (.slice A0 (rd_L1 xs i).length c0) ∧ (rd_L1 xs i).length ≤ c0 ∧ (Kd.int .u8).C w A0 (rd_L1 xs i).length (rd_L1 xs i) := by
  obtain ⟨ad, c, e, _, hK, hc0⟩ := Kd.C_get h ([] : List Int) i h0 h1
  have hc : ∀ j u, c[j]? = some u → w.cell? (ad.add (i.toNat * 1 + j)) = some u := hc0
  obtain ⟨A0, c0, rfl, l0, g0⟩ := hK
  exact ⟨ad, A0, c0, e, by have hq := hc 0 _ rfl; rwa [Nat.mul_one, Nat.add_zero] at hq, l0, g0⟩
structure S45 where
  f0 : Int
  f1 : (List Int)
def z45 : S45 := ⟨(0 : Int), ([] : List Int)⟩
def k45 : Kd S45 := Kd.iso (Kd.pair (Kd.int .u64) (Kd.slice 5 (Kd.int .u8))) (fun x : S45 => (x.f0, x.f1))
theorem k45_open {w : World} {x : S45} {cs : List Value} (h : k45.K w x cs) : ∃ A1 c1, cs = [.int .u64 x.f0, .slice A1 x.f1.length c1] ∧ x.f1.length ≤ c1 ∧ (Kd.int .u8).C w A1 x.f1.length x.f1 := by
  obtain ⟨_, _, rfl, rfl, ⟨A1, c1, rfl, l1, g1⟩⟩ := h
  exact ⟨A1, c1, rfl, l1, g1⟩
theorem k45_openM {w : World} {base : Nat} {ok : Nat → Prop} {x : S45} {cs : List Value} (h : k45.M w base ok x cs) : ∃ v1, cs = [.int .u64 x.f0, v1] ∧ (Kd.int .u8).R 5 w base ok v1 x.f1 := by
  obtain ⟨_, _, rfl, rfl, ⟨v1, rfl, g1⟩⟩ := h
  exact ⟨v1, rfl, g1⟩
theorem k45_mkM (w : World) (base : Nat) (ok : Nat → Prop) (x : S45) {v1 : Value} (g1 : (Kd.int .u8).R 5 w base ok v1 x.f1) : k45.M w base ok x [.int .u64 x.f0, v1] := ⟨[.int .u64 x.f0], [v1], rfl, rfl, ⟨v1, rfl, g1⟩⟩
def rd_T45 (xs : List S45) (i : Int) : S45 := xs.getD i.toNat z45
theorem at_T45 {w : World} {A : Option Addr} {n : Nat} {xs : List S45} (h : Kd.C k45 w A n xs) (i : Int) (h0 : 0 ≤ i) (h1 : i < n) : ∃ ad A1 c1, A = some ad ∧ w.cell? (ad.add (i.toNat * 2)) = some (.int .u64 (rd_T45 xs i).f0) ∧ w.cell? ⟨(ad.add (i.toNat * 2)).block, (ad.add (i.toNat * 2)).off + 1, none⟩ = some (.slice A1 (rd_T45 xs i).f1.length c1) ∧ (rd_T45 xs i).f1.length ≤ c1 ∧ (Kd.int .u8).C w A1 (rd_T45 xs i).f1.length (rd_T45 xs i).f1 := by
  obtain ⟨ad, c, e, _, hK, hc0⟩ := Kd.C_get h z45 i h0 h1
  have hc : ∀ j u, c[j]? = some u → w.cell? (ad.add (i.toNat * 2 + j)) = some u := hc0
  obtain ⟨A1, c1, rfl, l1, g1⟩ := k45_open hK
  exact ⟨ad, A1, c1, e, hc 0 _ rfl, by rw [← add_field _ _ 1 (by omega)]; exact hc 1 _ rfl, l1, g1⟩
end Go.Proofs.Ytbapokpkgonjkaa.Print
namespace Go.Proofs.Ytbapokpkgonjkaa.Print
open Go.RowKit Go.Proofs.YtbapokpkgonjkaaW.PrintWords Go.Proofs.YtbapokpkgonjkaaW.PrintLast Go.Proofs.YtbapokpkgonjkaaW.PrintMore
open Go.ChangeShapes Go.WideShapes
set_option linter.unusedVariables false
set_option linter.unusedSimpArgs false
section
variable {H : Type} {enc : TypeId × Value → H} {P : Program} {w : World} {base : Nat} {spare : Nat → Bool} {held : Bool}
theorem row_open {t e : TypeId} {k : IntKind} {fuel : Nat} {cs : List Value} {x : DataW H × List MemPlace} (ht : P.underlying t = some (.slice e)) (he : P.underlying e = some (.int k)) (hc : P.cellsOf e = 1) (hB : P.bytesOf e = 1)
    (hf : DataW.trod enc P w base spare held fuel t cs = some x) (hz : ∀ n ∈ x.1.weights P t, n ≤ reachBytes) :
    ∃ A c l, cs = [.slice A l.length c] ∧ (Kd.int k).C w A l.length l ∧ l.length ≤ c ∧ l.length ≤ 140737488351232 ∧ (∀ n ∈ l, (Lit.int k n).wf = true) := by
  rcases open_ints ht he hc hf with ⟨rfl, rfl⟩ | ⟨a, len, cap, zs, rfl, _, hl, hm, hlen, rfl, hcell, hwf⟩
  · exact ⟨none, 0, [], rfl, Kd.C_of_reads (d := (0 : Int)) (h1 := fun _ => rfl) (ReadsInt.nil _ _), Nat.le_refl _, by simp, by simp⟩
  · have hle : len ≤ zs.length := by
      rw [hlen]
      split
      · exact hl
      · exact Nat.le_refl _
    have hzz : len ≤ reachBytes := by
      have := hz ((((lits (H := H) k (zs.take len)).length) + (lits (H := H) k (zs.drop len)).length) * P.bytesOf e) (by simp [DataW.weights, ht])
      rw [hB] at this
      simp [lits] at this
      omega
    have hlt : (zs.take len).length = len := by simp; omega
    refine ⟨some a, cap, zs.take len, by rw [hlt], ?_, by rw [hlt]; exact hl, by rw [hlt]; exact hzz, fun n hn => hwf n (List.mem_of_mem_take hn)⟩
    refine Kd.C_of_reads (d := (0 : Int)) (h1 := fun _ => rfl) ⟨rfl, by rw [hlt]; have : len ≤ maxLen := Nat.le_trans hl hm; simpa [maxLen] using this, fun _ => ⟨a, rfl, fun j hj => ?_⟩⟩
    rw [hlt] at hj
    rw [hcell j (by omega)]
    simp [List.getD_eq_getElem?_getD, List.getElem?_take, hj]
end
theorem weights_of {H : Type} {P : Program} {ts : List TypeId} {ds : List (DataW H)} {j : Nat} {t : TypeId} {d : DataW H} (hsz : (DataW.weightsEach P ts ds).all (· ≤ reachBytes) = true) (htj : ts[j]? = some t) (hdj : ds[j]? = some d) : ∀ n ∈ d.weights P t, n ≤ reachBytes := fun n hn => by
  have := List.all_eq_true.1 hsz _ (DataW.weights_mem_each htj hdj n hn)
  simpa using this
set_option maxRecDepth 100000 in
theorem bytes_open {H : Type} {enc : TypeId × Value → H} {w : World} {base : Nat} {spare : Nat → Bool} {held : Bool} {v : Value} {d : DataW H} {p : List MemPlace} {ts : List TypeId} {ds : List (DataW H)} {j : Nat}
    (hsz : (DataW.weightsEach Try.prog ts ds).all (· ≤ reachBytes) = true) (htj : ts[j]? = some 22) (hdj : ds[j]? = some d) (hv : Value.okWide Try.prog w .any 0 22 v) (h : DataW.Trod enc Try.prog w base spare held 22 v d p) :
    ∃ A c l, v = .slice A l.length c ∧ (Kd.int .u8).C w A l.length l ∧ l.length ≤ c ∧ l.length ≤ 140737488351232 ∧ (∀ n ∈ l, (Lit.int .u8 n).wf = true) := by
  have hz := weights_of hsz htj hdj
  obtain ⟨A, len, cap, rfl⟩ := okWide_slice Try.underlying22 hv
  obtain ⟨fuel, hf⟩ := h
  obtain ⟨A', c', l, e, h0, h1, h2, h3⟩ := row_open Try.underlying22 Try.underlying5 (by kernel_rfl) (by kernel_rfl) hf hz
  simp only [Value.cells, List.cons.injEq, and_true] at e
  exact ⟨A', c', l, e, h0, h1, h2, h3⟩
theorem byte_range {l : List Int} (h : ∀ n ∈ l, (Lit.int .u8 n).wf = true) : ∀ x ∈ l, 0 ≤ x ∧ x < 256 := by
  intro x hx
  have := h x hx
  simp [Lit.wf, IntKind.min, IntKind.max, IntKind.bits, IntKind.signed] at this
  omega
end Go.Proofs.Ytbapokpkgonjkaa.Print
namespace Go.Proofs.Ytbapokpkgonjkaa.Print
open Go.RowKit Go.Proofs.YtbapokpkgonjkaaW.PrintWords Go.Proofs.YtbapokpkgonjkaaW.PrintLast Go.Proofs.YtbapokpkgonjkaaW.PrintMore
attribute [local go_sem] max2_int min2_int max_two min_two max_three min_three max_four min_four
set_option linter.unusedVariables false
set_option linter.unusedSimpArgs false
end Go.Proofs.Ytbapokpkgonjkaa.Print
namespace Go.Proofs.Ytbapokpkgonjkaa.Print
open Go.RowKit Go.Proofs.YtbapokpkgonjkaaW.PrintWords Go.Proofs.YtbapokpkgonjkaaW.PrintLast Go.Proofs.YtbapokpkgonjkaaW.PrintMore
attribute [local go_sem] max2_int min2_int max_two min_two max_three min_three max_four min_four
set_option linter.unusedVariables false
set_option linter.unusedSimpArgs false
end Go.Proofs.Ytbapokpkgonjkaa.Print
namespace Go.Proofs.Ytbapokpkgonjkaa.Print
open Go.RowKit Go.Proofs.YtbapokpkgonjkaaW.PrintWords Go.Proofs.YtbapokpkgonjkaaW.PrintLast Go.Proofs.YtbapokpkgonjkaaW.PrintMore
attribute [local go_sem] max2_int min2_int max_two min_two max_three min_three max_four min_four
set_option linter.unusedVariables false
set_option linter.unusedSimpArgs false
end Go.Proofs.Ytbapokpkgonjkaa.Print
namespace Go.Proofs.Ytbapokpkgonjkaa.Print
open Go.RowKit Go.Proofs.YtbapokpkgonjkaaW.PrintWords Go.Proofs.YtbapokpkgonjkaaW.PrintLast Go.Proofs.YtbapokpkgonjkaaW.PrintMore
attribute [local go_sem] max2_int min2_int max_two min_two max_three min_three max_four min_four
set_option linter.unusedVariables false
set_option linter.unusedSimpArgs false
end Go.Proofs.Ytbapokpkgonjkaa.Print
