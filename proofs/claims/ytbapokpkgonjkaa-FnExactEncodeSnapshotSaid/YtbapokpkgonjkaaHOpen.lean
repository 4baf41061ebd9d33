/- What a statement's arguments are, opened: rows of bytes, files, disks, snapshots' and records' pairs. Each is as long as its weight lets it be. -/
import Derived.Test.YtbapokpkgonjkaaPrint0
import Derived.Test.YtbapokpkgonjkaaRows
import Derived.ProofKit
import Derived.OpenShut
import Derived.ShutString
import Derived.ChangeOld
import Derived.SizedLaws
import Derived.ChangeSlices
namespace Go.Proofs.Ytbapokpkgonjkaa.Print
open Go.RowKit Go.Proofs.YtbapokpkgonjkaaW.PrintWords Go.Proofs.YtbapokpkgonjkaaW.PrintLast Go.Proofs.YtbapokpkgonjkaaW.PrintMore
open Go.ChangeShapes Go.WideShapes
set_option linter.unusedVariables false
set_option linter.unusedSimpArgs false
section
variable {H : Type} {enc : TypeId × Value → H} {P : Program} {w : World} {base : Nat} {spare : Nat → Bool} {held : Bool}
/-- A row of whole numbers. -/
theorem row_open {t e : TypeId} {k : IntKind} {fuel : Nat} {cs : List Value} {x : DataW H × List MemPlace} (ht : P.underlying t = some (.slice e)) (he : P.underlying e = some (.int k)) (hc : P.cellsOf e = 1) (hB : P.bytesOf e = 1)
    (hf : DataW.trod enc P w base spare held fuel t cs = some x) (hz : ∀ n ∈ x.1.weights P t, n ≤ reachBytes) :
    ∃ A c l, cs = [.slice A l.length c] ∧ (Kd.int k).C w A l.length l ∧ l.length ≤ c ∧ l.length ≤ 140737488351232 ∧ (∀ n ∈ l, (Lit.int k n).wf = true) := by
  rcases open_ints ht he hc hf with ⟨rfl, rfl⟩ | ⟨a, len, cap, zs, rfl, _, hl, hm, hlen, rfl, hcell, hwf⟩
  · exact ⟨none, 0, [], rfl, Kd.C_of_reads (d := (0 : Int)) (h1 := fun _ => rfl) (ReadsInt.nil _ _), Nat.le_refl _, by simp, by simp⟩
  · have hle : len ≤ zs.length := by
      rw [hlen]
      split
      · exact hl
      · exact Nat.le_refl _
    have hzz : len ≤ reachBytes := by
      have := hz ((((lits (H := H) k (zs.take len)).length) + (lits (H := H) k (zs.drop len)).length) * P.bytesOf e) (by simp [DataW.weights, ht])
      rw [hB] at this
      simp [lits] at this
      omega
    have hlt : (zs.take len).length = len := by simp; omega
    refine ⟨some a, cap, zs.take len, by rw [hlt], ?_, by rw [hlt]; exact hl, by rw [hlt]; exact hzz, fun n hn => hwf n (List.mem_of_mem_take hn)⟩
    refine Kd.C_of_reads (d := (0 : Int)) (h1 := fun _ => rfl) ⟨rfl, by rw [hlt]; have : len ≤ maxLen := Nat.le_trans hl hm; simpa [maxLen] using this, fun _ => ⟨a, rfl, fun j hj => ?_⟩⟩
    rw [hlt] at hj
    rw [hcell j (by omega)]
    simp [List.getD_eq_getElem?_getD, List.getElem?_take, hj]
/-- A struct of two fields of one cell each. -/
theorem two_open {t : TypeId} {f0 f1 : Field} {fuel : Nat} {cs : List Value} {x : DataW H × List MemPlace} (ht : P.underlying t = some (.struct #[f0, f1])) (o0 : f0.offset = 0) (o1 : f1.offset = 1) (c0 : P.cellsOf f0.type = 1) (c1 : P.cellsOf f1.type = 1) (ct : P.cellsOf t = 2)
    (hf : DataW.trod enc P w base spare held fuel t cs = some x) (hz : ∀ n ∈ x.1.weights P t, n ≤ reachBytes) :
    ∃ v0 v1 y0 y1 n, cs = [v0, v1] ∧ DataW.trod enc P w base spare held n f0.type [v0] = some y0 ∧ DataW.trod enc P w base spare held n f1.type [v1] = some y1 ∧ (∀ n ∈ y0.1.weights P f0.type, n ≤ reachBytes) ∧ (∀ n ∈ y1.1.weights P f1.type, n ≤ reachBytes) := by
  obtain ⟨xs, n, _, rfl, hl, hlen, hg⟩ := DataW.trod_struct ht hf
  rw [ct] at hl
  match cs, hl with
  | [v0, v1], _ =>
    match xs, hlen with
    | [y0, y1], _ =>
      have g0 := hg 0 f0 rfl
      have g1 := hg 1 f1 rfl
      rw [o0, c0] at g0
      rw [o1, c1] at g1
      simp only [DataW.weights, ht, DataW.weightsEach, List.map_cons, List.map_nil, List.mem_append] at hz
      exact ⟨v0, v1, y0, y1, n, rfl, by simpa using g0, by simpa using g1, fun n hn => hz n (.inl hn), fun n hn => hz n (.inr (.inl hn))⟩
/-- A file: a row of bytes and a number. -/
theorem file_open {t e : TypeId} {k k1 : IntKind} {f0 f1 : Field} {fuel : Nat} {cs : List Value} {x : DataW H × List MemPlace} (ht : P.underlying t = some (.struct #[f0, f1])) (o0 : f0.offset = 0) (o1 : f1.offset = 1) (c0 : P.cellsOf f0.type = 1) (c1 : P.cellsOf f1.type = 1) (ct : P.cellsOf t = 2)
    (hs : P.underlying f0.type = some (.slice e)) (he : P.underlying e = some (.int k)) (hc : P.cellsOf e = 1) (hB : P.bytesOf e = 1) (hi : P.underlying f1.type = some (.int k1))
    (hf : DataW.trod enc P w base spare held fuel t cs = some x) (hz : ∀ n ∈ x.1.weights P t, n ≤ reachBytes) :
    ∃ A c l a, cs = [.slice A l.length c, .int k1 a] ∧ (Kd.int k).C w A l.length l ∧ l.length ≤ c ∧ l.length ≤ 140737488351232 ∧ (∀ n ∈ l, (Lit.int k n).wf = true) ∧ (Lit.int k1 a).wf = true := by
  obtain ⟨v0, v1, y0, y1, n, rfl, g0, g1, z0, z1⟩ := two_open ht o0 o1 c0 c1 ct hf hz
  obtain ⟨A, c, l, e0, h0, h1, h2, h3⟩ := row_open hs he hc hB g0 z0
  injection e0 with e0
  subst e0
  obtain ⟨a, e1, hx, hw⟩ := DataW.trod_int hi g1
  injection e1 with e1
  subst e1
  exact ⟨A, c, l, a, rfl, h0, h1, h2, h3, hw⟩
/-- A number and a row of bytes. -/
theorem pair_open {t e : TypeId} {k k0 : IntKind} {f0 f1 : Field} {fuel : Nat} {cs : List Value} {x : DataW H × List MemPlace} (ht : P.underlying t = some (.struct #[f0, f1])) (o0 : f0.offset = 0) (o1 : f1.offset = 1) (c0 : P.cellsOf f0.type = 1) (c1 : P.cellsOf f1.type = 1) (ct : P.cellsOf t = 2)
    (hs : P.underlying f1.type = some (.slice e)) (he : P.underlying e = some (.int k)) (hc : P.cellsOf e = 1) (hB : P.bytesOf e = 1) (hi : P.underlying f0.type = some (.int k0))
    (hf : DataW.trod enc P w base spare held fuel t cs = some x) (hz : ∀ n ∈ x.1.weights P t, n ≤ reachBytes) :
    ∃ a A c l, cs = [.int k0 a, .slice A l.length c] ∧ (Kd.int k).C w A l.length l ∧ l.length ≤ c ∧ l.length ≤ 140737488351232 ∧ (∀ n ∈ l, (Lit.int k n).wf = true) ∧ (Lit.int k0 a).wf = true := by
  obtain ⟨v0, v1, y0, y1, n, rfl, g0, g1, z0, z1⟩ := two_open ht o0 o1 c0 c1 ct hf hz
  obtain ⟨A, c, l, e0, h0, h1, h2, h3⟩ := row_open hs he hc hB g1 z1
  injection e0 with e0
  subst e0
  obtain ⟨a, e1, hx, hw⟩ := DataW.trod_int hi g0
  injection e1 with e1
  subst e1
  exact ⟨a, A, c, l, rfl, h0, h1, h2, h3, hw⟩
/-- A struct of three structs of two cells. -/
theorem three_open {t : TypeId} {f0 f1 f2 : Field} {fuel : Nat} {cs : List Value} {x : DataW H × List MemPlace} (ht : P.underlying t = some (.struct #[f0, f1, f2])) (o0 : f0.offset = 0) (o1 : f1.offset = 2) (o2 : f2.offset = 4) (c0 : P.cellsOf f0.type = 2) (c1 : P.cellsOf f1.type = 2) (c2 : P.cellsOf f2.type = 2) (ct : P.cellsOf t = 6)
    (hf : DataW.trod enc P w base spare held fuel t cs = some x) (hz : ∀ n ∈ x.1.weights P t, n ≤ reachBytes) :
    ∃ v0 v1 v2 v3 v4 v5 y0 y1 y2 n, cs = [v0, v1, v2, v3, v4, v5] ∧ DataW.trod enc P w base spare held n f0.type [v0, v1] = some y0 ∧ DataW.trod enc P w base spare held n f1.type [v2, v3] = some y1 ∧ DataW.trod enc P w base spare held n f2.type [v4, v5] = some y2 ∧
      (∀ n ∈ y0.1.weights P f0.type, n ≤ reachBytes) ∧ (∀ n ∈ y1.1.weights P f1.type, n ≤ reachBytes) ∧ (∀ n ∈ y2.1.weights P f2.type, n ≤ reachBytes) := by
  obtain ⟨xs, n, _, rfl, hl, hlen, hg⟩ := DataW.trod_struct ht hf
  rw [ct] at hl
  match cs, hl with
  | [v0, v1, v2, v3, v4, v5], _ =>
    match xs, hlen with
    | [y0, y1, y2], _ =>
      have g0 := hg 0 f0 rfl
      have g1 := hg 1 f1 rfl
      have g2 := hg 2 f2 rfl
      rw [o0, c0] at g0
      rw [o1, c1] at g1
      rw [o2, c2] at g2
      simp only [DataW.weights, ht, DataW.weightsEach, List.map_cons, List.map_nil, List.mem_append] at hz
      exact ⟨v0, v1, v2, v3, v4, v5, y0, y1, y2, n, rfl, by simpa using g0, by simpa using g1, by simpa using g2, fun n hn => hz n (.inl hn), fun n hn => hz n (.inr (.inl hn)), fun n hn => hz n (.inr (.inr (.inl hn)))⟩
end
set_option maxRecDepth 100000 in
/-- A disk. -/
theorem disk_open {H : Type} {enc : TypeId × Value → H} {w : World} {base : Nat} {spare : Nat → Bool} {held : Bool} {v : Value} {d : DataW H} {p : List MemPlace} {ts : List TypeId} {ds : List (DataW H)} {j : Nat}
    (hsz : (DataW.weightsEach Try.prog ts ds).all (· ≤ reachBytes) = true) (htj : ts[j]? = some 26) (hdj : ds[j]? = some d) (hv : Value.okWide Try.prog w .any 0 26 v) (h : DataW.Trod enc Try.prog w base spare held 26 v d p) :
    ∃ A0 c0 l0 a1 A2 c2 l2 a3 A4 c4 l4 a5, v = .agg #[.slice A0 l0.length c0, .int .i64 a1, .slice A2 l2.length c2, .int .i64 a3, .slice A4 l4.length c4, .int .i64 a5] ∧
      (Kd.int .u8).C w A0 l0.length l0 ∧ l0.length ≤ c0 ∧ (Kd.int .u8).C w A2 l2.length l2 ∧ l2.length ≤ c2 ∧ (Kd.int .u8).C w A4 l4.length l4 ∧ l4.length ≤ c4 ∧ l0.length ≤ 140737488351232 ∧ l2.length ≤ 140737488351232 ∧ l4.length ≤ 140737488351232 ∧
      (∀ n ∈ l0, (Lit.int .u8 n).wf = true) ∧ (∀ n ∈ l2, (Lit.int .u8 n).wf = true) ∧ (∀ n ∈ l4, (Lit.int .u8 n).wf = true) ∧ (Lit.int .i64 a1).wf = true ∧ (Lit.int .i64 a3).wf = true ∧ (Lit.int .i64 a5).wf = true := by
  obtain ⟨cs, rfl, hcs⟩ := okWide_struct Try.underlying26 hv
  rw [show Try.prog.cellsOf 26 = 6 by kernel_rfl] at hcs
  have hz : ∀ n ∈ d.weights Try.prog 26, n ≤ reachBytes := fun n hn => by
    have := List.all_eq_true.1 hsz _ (DataW.weights_mem_each htj hdj n hn)
    simpa using this
  obtain ⟨cs⟩ := cs
  obtain ⟨fuel, hf⟩ := h
  have c2 : Try.prog.cellsOf 24 = 2 := by kernel_rfl
  have cb : Try.prog.cellsOf 22 = 1 := by kernel_rfl
  have ci : Try.prog.cellsOf 3 = 1 := by kernel_rfl
  have c8 : Try.prog.cellsOf 5 = 1 := by kernel_rfl
  have b8 : Try.prog.bytesOf 5 = 1 := by kernel_rfl
  obtain ⟨v0, v1, v2, v3, v4, v5, y0, y1, y2, n, e, g0, g1, g2, z0, z1, z2⟩ := three_open Try.underlying26 rfl rfl rfl c2 c2 c2 (by kernel_rfl) hf hz
  have e' : cs.toArray = #[v0, v1, v2, v3, v4, v5] := by rw [← e]; simp [Value.cells]
  obtain ⟨A0, c0, l0, a1, e0, h0, p0, q0, w0, u0⟩ := file_open Try.underlying24 rfl rfl cb ci c2 Try.underlying22 Try.underlying5 c8 b8 Try.underlying3 g0 z0
  obtain ⟨A1, c1, l1, a2, e1, h1, p1, q1, w1, u1⟩ := file_open Try.underlying24 rfl rfl cb ci c2 Try.underlying22 Try.underlying5 c8 b8 Try.underlying3 g1 z1
  obtain ⟨A2, c3, l2, a3, e2, h2, p2, q2, w2, u2⟩ := file_open Try.underlying24 rfl rfl cb ci c2 Try.underlying22 Try.underlying5 c8 b8 Try.underlying3 g2 z2
  simp only [List.cons.injEq, and_true] at e0 e1 e2
  obtain ⟨rfl, rfl⟩ := e0
  obtain ⟨rfl, rfl⟩ := e1
  obtain ⟨rfl, rfl⟩ := e2
  exact ⟨A0, c0, l0, a1, A1, c1, l1, a2, A2, c3, l2, a3, by rw [← e'], h0, p0, h1, p1, h2, p2, q0, q1, q2, w0, w1, w2, u0, u1, u2⟩
theorem weights_of {H : Type} {P : Program} {ts : List TypeId} {ds : List (DataW H)} {j : Nat} {t : TypeId} {d : DataW H} (hsz : (DataW.weightsEach P ts ds).all (· ≤ reachBytes) = true) (htj : ts[j]? = some t) (hdj : ds[j]? = some d) : ∀ n ∈ d.weights P t, n ≤ reachBytes := fun n hn => by
  have := List.all_eq_true.1 hsz _ (DataW.weights_mem_each htj hdj n hn)
  simpa using this
set_option maxRecDepth 100000 in
/-- A row of bytes. -/
theorem bytes_open {H : Type} {enc : TypeId × Value → H} {w : World} {base : Nat} {spare : Nat → Bool} {held : Bool} {v : Value} {d : DataW H} {p : List MemPlace} {ts : List TypeId} {ds : List (DataW H)} {j : Nat}
    (hsz : (DataW.weightsEach Try.prog ts ds).all (· ≤ reachBytes) = true) (htj : ts[j]? = some 22) (hdj : ds[j]? = some d) (hv : Value.okWide Try.prog w .any 0 22 v) (h : DataW.Trod enc Try.prog w base spare held 22 v d p) :
    ∃ A c l, v = .slice A l.length c ∧ (Kd.int .u8).C w A l.length l ∧ l.length ≤ c ∧ l.length ≤ 140737488351232 ∧ (∀ n ∈ l, (Lit.int .u8 n).wf = true) := by
  have hz := weights_of hsz htj hdj
  obtain ⟨A, len, cap, rfl⟩ := okWide_slice Try.underlying22 hv
  obtain ⟨fuel, hf⟩ := h
  obtain ⟨A', c', l, e, h0, h1, h2, h3⟩ := row_open Try.underlying22 Try.underlying5 (by kernel_rfl) (by kernel_rfl) hf hz
  simp only [Value.cells, List.cons.injEq, and_true] at e
  exact ⟨A', c', l, e, h0, h1, h2, h3⟩
end Go.Proofs.Ytbapokpkgonjkaa.Print
