/- Texts of this session, joined by its own program. -/
import Derived.Test.YtbgbocdohadhoaaDoorProg
import Derived.Below
import Derived.Deep.Draws
import Derived.Deep.AppendLies
import Derived.Maps.AppendAt
import Derived.OwnWalk
import Derived.Laws.BytesArg
import Derived.Laws.MakeOwn
import Derived.Laws.OwnMore
import Derived.Deep.OwnRows
import Derived.Tactics
import Derived.Lib.ConvBytes
import Derived.Laws.Slices
import Derived.WalkKit
import Derived.KernelRfl
import Derived.RowKit3
import Derived.Deep.LoopGhost
import Derived.Deep.QuietTactic
import Derived.BigQuiet
import Derived.WideLaws
import Derived.Deep.DeepCutAuto
import Derived.Deep.CutBlock
import Derived.Deep.RegionHeld3
import Derived.Laws.Rows
import Derived.Lib.AppendStr
import Derived.ArgAppend
import Derived.Laws.IdiomCopy
import Derived.OrdersHeld
import Derived.Laws.BitsLemmas
import Derived.RowKit
import Derived.Test.YtbgbocdohadhoaaDoorWWords
import Derived.Test.YtbgbocdohadhoaaDoorWLast
import Derived.Test.YtbgbocdohadhoaaDoorWApart
import Derived.Test.YtbgbocdohadhoaaDoorWArr
import Derived.Test.YtbgbocdohadhoaaDoorWFoot
import Derived.Test.YtbgbocdohadhoaaDoorWKept
import Derived.Laws.StructEq
import Derived.Test.YtbgbocdohadhoaaDoorWRepsOne
import Derived.Test.YtbgbocdohadhoaaDoorWGuard
import Derived.Test.YtbgbocdohadhoaaDoorRows
import Derived.ProofKit
import Derived.OpenShut
import Derived.ShutString
import Derived.ChangeOld
import Derived.SizedLaws
import Derived.ChangeSlices
import Derived.WalkSpells
namespace Go.Proofs.YtbgbocdohadhoaaDoorW.PrintMore
end Go.Proofs.YtbgbocdohadhoaaDoorW.PrintMore
namespace Go.Proofs.YtbgbocdohadhoaaDoorW.PrintLast
end Go.Proofs.YtbgbocdohadhoaaDoorW.PrintLast
namespace Go.Proofs.YtbgbocdohadhoaaDoorW.PrintWords
open Go Go.RowKit
theorem gate_callee {P : Program} {ops : Array Oper} {rest : List Oper} {o : Oper} {a : Act} {Q : Exit → Act → World → Prop} {W : World} {f : FuncId} {xs : Array Operand} {ts : Array TypeId} (_e : o.op = .call { callee := .value (.func f), args := xs, argTypes := ts }) : wpList P ops Q (o :: rest) a W → wpList P ops Q (o :: rest) a W := id
theorem gate_builtin {P : Program} {ops : Array Oper} {rest : List Oper} {o : Oper} {a : Act} {Q : Exit → Act → World → Prop} {W : World} {b : Builtin} {xs : Array Operand} {ts : Array TypeId} (_e : o.op = .call { callee := .builtin b, args := xs, argTypes := ts }) : wpList P ops Q (o :: rest) a W → wpList P ops Q (o :: rest) a W := id
end Go.Proofs.YtbgbocdohadhoaaDoorW.PrintWords
namespace Go.Proofs.YtbgbocdohadhoaaDoorW.PrintMore
def shl (k : IntKind) (x y : Int) : Int := k.wrap (x * 2 ^ min y.toNat k.bits)
theorem shl_small {k : IntKind} {x y j : Int} (h : shl k x y = j) (hy : y ≤ k.bits) : k.wrap (x * 2 ^ y.toNat) = j := by rw [← h]; unfold shl; rw [Nat.min_eq_left (by omega)]
end Go.Proofs.YtbgbocdohadhoaaDoorW.PrintMore
namespace Go.Proofs.YtbgbocdohadhoaaDoor.Print
open Go Go.RowKit Go.Proofs.YtbgbocdohadhoaaDoorW.PrintWords Go.Proofs.YtbgbocdohadhoaaDoorW.PrintLast Go.Proofs.YtbgbocdohadhoaaDoorW.PrintMore
set_option linter.unusedVariables false
set_option linter.unusedSimpArgs false
theorem info5 : (Tryd.prog.info? 5).map (fun i => (i.zero, i.size, i.bytes)) = some (some (.int .u8 0), 1, 1) := by kernel_rfl
theorem info22 : (Tryd.prog.info? 22).map (fun i => (i.zero, i.size, i.bytes)) = some (some (.slice none 0 0), 1, 24) := by kernel_rfl
theorem info26 : (Tryd.prog.info? 26).map (fun i => (i.zero, i.size, i.bytes)) = some (some (.int .u64 0), 1, 8) := by kernel_rfl
theorem info70 : (Tryd.prog.info? 70).map (fun i => (i.zero, i.size, i.bytes)) = some (some (.agg #[(.int .u64 0), (.int .i64 0), (.slice none 0 0)]), 3, 40) := by kernel_rfl
theorem info76 : (Tryd.prog.info? 76).map (fun i => (i.zero, i.size, i.bytes)) = some (some (.agg #[(.slice none 0 0), (.slice none 0 0), (.int .u64 0), (.int .i64 0), (.slice none 0 0), (.int .u64 0), (.int .u64 0), (.slice none 0 0)]), 8, 128) := by kernel_rfl
structure S138 where
 f0 : Int
 f1 : (List Int)
def z138 : S138 := ⟨(0 : Int), ([] : List Int)⟩
def k138 : Kd S138 := Kd.iso (Kd.pair (Kd.int .i64) (Kd.slice 5 (Kd.int .u8))) (fun x : S138 => (x.f0, x.f1))
theorem k138_open {w : World} {x : S138} {cs : List Value} (h : k138.K w x cs) : ∃ A1 c1, cs = [.int .i64 x.f0, .slice A1 x.f1.length c1] ∧ x.f1.length ≤ c1 ∧ (Kd.int .u8).C w A1 x.f1.length x.f1 := by
 obtain ⟨_, _, rfl, rfl, ⟨A1, c1, rfl, l1, g1⟩⟩ := h
 exact ⟨A1, c1, rfl, l1, g1⟩
theorem k138_openM {w : World} {base : Nat} {ok : Nat → Prop} {x : S138} {cs : List Value} (h : k138.M w base ok x cs) : ∃ v1, cs = [.int .i64 x.f0, v1] ∧ (Kd.int .u8).R 5 w base ok v1 x.f1 := by
 obtain ⟨_, _, rfl, rfl, ⟨v1, rfl, g1⟩⟩ := h
 exact ⟨v1, rfl, g1⟩
theorem k138_mkM (w : World) (base : Nat) (ok : Nat → Prop) (x : S138) {v1 : Value} (g1 : (Kd.int .u8).R 5 w base ok v1 x.f1) : k138.M w base ok x [.int .i64 x.f0, v1] := ⟨[.int .i64 x.f0], [v1], rfl, rfl, ⟨v1, rfl, g1⟩⟩
def rd_T138 (xs : List S138) (i : Int) : S138 := xs.getD i.toNat z138
theorem at_T138 {w : World} {A : Option Addr} {n : Nat} {xs : List S138} (h : Kd.C k138 w A n xs) (i : Int) (h0 : 0 ≤ i) (h1 : i < n) : ∃ ad A1 c1, A = some ad ∧ w.cell? (ad.add (i.toNat * 2)) = some (.int .i64 (rd_T138 xs i).f0) ∧ w.cell? ⟨(ad.add (i.toNat * 2)).block, (ad.add (i.toNat * 2)).off + 1, none⟩ = some (.slice A1 (rd_T138 xs i).f1.length c1) ∧ (rd_T138 xs i).f1.length ≤ c1 ∧ (Kd.int .u8).C w A1 (rd_T138 xs i).f1.length (rd_T138 xs i).f1 := by
 obtain ⟨ad, c, e, _, hK, hc0⟩ := Kd.C_get h z138 i h0 h1
 have hc : ∀ j u, c[j]? = some u → w.cell? (ad.add (i.toNat * 2 + j)) = some u := hc0
 obtain ⟨A1, c1, rfl, l1, g1⟩ := k138_open hK
 exact ⟨ad, A1, c1, e, hc 0 _ rfl, by rw [← add_field _ _ 1 (by omega)]; exact hc 1 _ rfl, l1, g1⟩
structure S70 where
 f0 : Int
 f1 : Int
 f2 : (List S138)
def z70 : S70 := ⟨(0 : Int), (0 : Int), ([] : List S138)⟩
def k70 : Kd S70 := Kd.iso (Kd.pair (Kd.int .u64) (Kd.pair (Kd.int .i64) (Kd.slice 138 k138))) (fun x : S70 => (x.f0, x.f1, x.f2))
theorem k70_open {w : World} {x : S70} {cs : List Value} (h : k70.K w x cs) : ∃ A2 c2, cs = [.int .u64 x.f0, .int .i64 x.f1, .slice A2 x.f2.length c2] ∧ x.f2.length ≤ c2 ∧ k138.C w A2 x.f2.length x.f2 := by
 obtain ⟨_, _, rfl, rfl, ⟨_, _, rfl, rfl, ⟨A2, c2, rfl, l2, g2⟩⟩⟩ := h
 exact ⟨A2, c2, rfl, l2, g2⟩
def rd_T70 (xs : List S70) (i : Int) : S70 := xs.getD i.toNat z70
theorem at_T70 {w : World} {A : Option Addr} {n : Nat} {xs : List S70} (h : Kd.C k70 w A n xs) (i : Int) (h0 : 0 ≤ i) (h1 : i < n) : ∃ ad A2 c2, A = some ad ∧ w.cell? (ad.add (i.toNat * 3)) = some (.int .u64 (rd_T70 xs i).f0) ∧ w.cell? ⟨(ad.add (i.toNat * 3)).block, (ad.add (i.toNat * 3)).off + 1, none⟩ = some (.int .i64 (rd_T70 xs i).f1) ∧ w.cell? ⟨(ad.add (i.toNat * 3)).block, (ad.add (i.toNat * 3)).off + 2, none⟩ = some (.slice A2 (rd_T70 xs i).f2.length c2) ∧ (rd_T70 xs i).f2.length ≤ c2 ∧ k138.C w A2 (rd_T70 xs i).f2.length (rd_T70 xs i).f2 := by
 obtain ⟨ad, c, e, _, hK, hc0⟩ := Kd.C_get h z70 i h0 h1
 have hc : ∀ j u, c[j]? = some u → w.cell? (ad.add (i.toNat * 3 + j)) = some u := hc0
 obtain ⟨A2, c2, rfl, l2, g2⟩ := k70_open hK
 exact ⟨ad, A2, c2, e, hc 0 _ rfl, by rw [← add_field _ _ 1 (by omega)]; exact hc 1 _ rfl, by rw [← add_field _ _ 2 (by omega)]; exact hc 2 _ rfl, l2, g2⟩
structure S76 where
 f0 : (List Int)
 f1 : (List Int)
 f2 : Int
 f3 : Int
 f4 : (List Int)
 f5 : Int
 f6 : Int
 f7 : (List Int)
def z76 : S76 := ⟨([] : List Int), ([] : List Int), (0 : Int), (0 : Int), ([] : List Int), (0 : Int), (0 : Int), ([] : List Int)⟩
def k76 : Kd S76 := Kd.iso (Kd.pair (Kd.slice 5 (Kd.int .u8)) (Kd.pair (Kd.slice 5 (Kd.int .u8)) (Kd.pair (Kd.int .u64) (Kd.pair (Kd.int .i64) (Kd.pair (Kd.slice 26 (Kd.int .u64)) (Kd.pair (Kd.int .u64) (Kd.pair (Kd.int .u64) (Kd.slice 26 (Kd.int .u64))))))))) (fun x : S76 => (x.f0, x.f1, x.f2, x.f3, x.f4, x.f5, x.f6, x.f7))
theorem k76_open {w : World} {x : S76} {cs : List Value} (h : k76.K w x cs) : ∃ A0 c0 A1 c1 A4 c4 A7 c7, cs = [.slice A0 x.f0.length c0, .slice A1 x.f1.length c1, .int .u64 x.f2, .int .i64 x.f3, .slice A4 x.f4.length c4, .int .u64 x.f5, .int .u64 x.f6, .slice A7 x.f7.length c7] ∧ x.f0.length ≤ c0 ∧ (Kd.int .u8).C w A0 x.f0.length x.f0 ∧ x.f1.length ≤ c1 ∧ (Kd.int .u8).C w A1 x.f1.length x.f1 ∧ x.f4.length ≤ c4 ∧ (Kd.int .u64).C w A4 x.f4.length x.f4 ∧ x.f7.length ≤ c7 ∧ (Kd.int .u64).C w A7 x.f7.length x.f7 := by
 obtain ⟨_, _, rfl, ⟨A0, c0, rfl, l0, g0⟩, ⟨_, _, rfl, ⟨A1, c1, rfl, l1, g1⟩, ⟨_, _, rfl, rfl, ⟨_, _, rfl, rfl, ⟨_, _, rfl, ⟨A4, c4, rfl, l4, g4⟩, ⟨_, _, rfl, rfl, ⟨_, _, rfl, rfl, ⟨A7, c7, rfl, l7, g7⟩⟩⟩⟩⟩⟩⟩⟩ := h
 exact ⟨A0, c0, A1, c1, A4, c4, A7, c7, rfl, l0, g0, l1, g1, l4, g4, l7, g7⟩
def rd_T76 (xs : List S76) (i : Int) : S76 := xs.getD i.toNat z76
theorem at_T76 {w : World} {A : Option Addr} {n : Nat} {xs : List S76} (h : Kd.C k76 w A n xs) (i : Int) (h0 : 0 ≤ i) (h1 : i < n) : ∃ ad A0 c0 A1 c1 A4 c4 A7 c7, A = some ad ∧ w.cell? (ad.add (i.toNat * 8)) = some (.slice A0 (rd_T76 xs i).f0.length c0) ∧ w.cell? ⟨(ad.add (i.toNat * 8)).block, (ad.add (i.toNat * 8)).off + 1, none⟩ = some (.slice A1 (rd_T76 xs i).f1.length c1) ∧ w.cell? ⟨(ad.add (i.toNat * 8)).block, (ad.add (i.toNat * 8)).off + 2, none⟩ = some (.int .u64 (rd_T76 xs i).f2) ∧ w.cell? ⟨(ad.add (i.toNat * 8)).block, (ad.add (i.toNat * 8)).off + 3, none⟩ = some (.int .i64 (rd_T76 xs i).f3) ∧ w.cell? ⟨(ad.add (i.toNat * 8)).block, (ad.add (i.toNat * 8)).off + 4, none⟩ = some (.slice A4 (rd_T76 xs i).f4.length c4) ∧ w.cell? ⟨(ad.add (i.toNat * 8)).block, (ad.add (i.toNat * 8)).off + 5, none⟩ = some (.int .u64 (rd_T76 xs i).f5) ∧ w.cell? ⟨(ad.add (i.toNat * 8)).block, (ad.add (i.toNat * 8)).off + 6, none⟩ = some (.int .u64 (rd_T76 xs i).f6) ∧ w.cell? ⟨(ad.add (i.toNat * 8)).block, (ad.add (i.toNat * 8)).off + 7, none⟩ = some (.slice A7 (rd_T76 xs i).f7.length c7) ∧ (rd_T76 xs i).f0.length ≤ c0 ∧ (Kd.int .u8).C w A0 (rd_T76 xs i).f0.length (rd_T76 xs i).f0 ∧ (rd_T76 xs i).f1.length ≤ c1 ∧ (Kd.int .u8).C w A1 (rd_T76 xs i).f1.length (rd_T76 xs i).f1 ∧ (rd_T76 xs i).f4.length ≤ c4 ∧ (Kd.int .u64).C w A4 (rd_T76 xs i).f4.length (rd_T76 xs i).f4 ∧ (rd_T76 xs i).f7.length ≤ c7 ∧ (Kd.int .u64).C w A7 (rd_T76 xs i).f7.length (rd_T76 xs i).f7 := by
 obtain ⟨ad, c, e, _, hK, hc0⟩ := Kd.C_get h z76 i h0 h1
 have hc : ∀ j u, c[j]? = some u → w.cell? (ad.add (i.toNat * 8 + j)) = some u := hc0
 obtain ⟨A0, c0, A1, c1, A4, c4, A7, c7, rfl, l0, g0, l1, g1, l4, g4, l7, g7⟩ := k76_open hK
 exact ⟨ad, A0, c0, A1, c1, A4, c4, A7, c7, e, hc 0 _ rfl, by rw [← add_field _ _ 1 (by omega)]; exact hc 1 _ rfl, by rw [← add_field _ _ 2 (by omega)]; exact hc 2 _ rfl, by rw [← add_field _ _ 3 (by omega)]; exact hc 3 _ rfl, by rw [← add_field _ _ 4 (by omega)]; exact hc 4 _ rfl, by rw [← add_field _ _ 5 (by omega)]; exact hc 5 _ rfl, by rw [← add_field _ _ 6 (by omega)]; exact hc 6 _ rfl, by rw [← add_field _ _ 7 (by omega)]; exact hc 7 _ rfl, l0, g0, l1, g1, l4, g4, l7, g7⟩
section
open Go.ChangeShapes Go.WideShapes
section
variable {H : Type} {enc : TypeId × Value → H} {P : Program} {w : World} {base : Nat} {spare : Nat → Bool} {held : Bool}
theorem row_open {t e : TypeId} {k : IntKind} {fuel : Nat} {cs : List Value} {x : DataW H × List MemPlace} (ht : P.underlying t = some (.slice e)) (he : P.underlying e = some (.int k)) (hc : P.cellsOf e = 1) (hB : P.bytesOf e = 1)
  (hf : DataW.trod enc P w base spare held fuel t cs = some x) (hz : ∀ n ∈ x.1.weights P t, n ≤ reachBytes) :
  ∃ A c l, cs = [.slice A l.length c] ∧ (Kd.int k).C w A l.length l ∧ l.length ≤ c ∧ l.length ≤ 140737488351232 ∧ (∀ n ∈ l, (Lit.int k n).wf = true) := by
 rcases open_ints ht he hc hf with ⟨rfl, rfl⟩ | ⟨a, len, cap, zs, rfl, _, hl, hm, hlen, rfl, hcell, hwf⟩
 ·
  exact ⟨none, 0, [], rfl, Kd.C_of_reads (d := (0 : Int)) (h1 := fun _ => rfl) (ReadsInt.nil _ _), Nat.le_refl _, by simp, by simp⟩
 ·
  have hle : len ≤ zs.length := by
   rw [hlen]
   split
   ·
    exact hl
   ·
    exact Nat.le_refl _
  have hzz : len ≤ reachBytes := by
   have := hz ((((lits (H := H) k (zs.take len)).length) + (lits (H := H) k (zs.drop len)).length) * P.bytesOf e) (by simp [DataW.weights, ht])
   rw [hB] at this
   simp [lits] at this
   omega
  have hlt : (zs.take len).length = len := by simp; omega
  refine ⟨some a, cap, zs.take len, by rw [hlt], ?_, by rw [hlt]; exact hl, by rw [hlt]; exact hzz, fun n hn => hwf n (List.mem_of_mem_take hn)⟩
  refine Kd.C_of_reads (d := (0 : Int)) (h1 := fun _ => rfl) ⟨rfl, by rw [hlt]; have : len ≤ maxLen := Nat.le_trans hl hm; simpa [maxLen] using this, fun _ => ⟨a, rfl, fun j hj => ?_⟩⟩
  rw [hlt] at hj
  rw [hcell j (by omega)]
  simp [List.getD_eq_getElem?_getD, List.getElem?_take, hj]
end
theorem weights_of {H : Type} {P : Program} {ts : List TypeId} {ds : List (DataW H)} {j : Nat} {t : TypeId} {d : DataW H} (hsz : (DataW.weightsEach P ts ds).all (· ≤ reachBytes) = true) (htj : ts[j]? = some t) (hdj : ds[j]? = some d) : ∀ n ∈ d.weights P t, n ≤ reachBytes := fun n hn => by
 have := List.all_eq_true.1 hsz _ (DataW.weights_mem_each htj hdj n hn)
 simpa using this
set_option maxRecDepth 100000 in
theorem bytes_open {H : Type} {enc : TypeId × Value → H} {w : World} {base : Nat} {spare : Nat → Bool} {held : Bool} {v : Value} {d : DataW H} {p : List MemPlace} {ts : List TypeId} {ds : List (DataW H)} {j : Nat}
  (hsz : (DataW.weightsEach Tryd.prog ts ds).all (· ≤ reachBytes) = true) (htj : ts[j]? = some 22) (hdj : ds[j]? = some d) (hv : Value.okWide Tryd.prog w .any 0 22 v) (h : DataW.Trod enc Tryd.prog w base spare held 22 v d p) :
  ∃ A c l, v = .slice A l.length c ∧ (Kd.int .u8).C w A l.length l ∧ l.length ≤ c ∧ l.length ≤ 140737488351232 ∧ (∀ n ∈ l, (Lit.int .u8 n).wf = true) := by
 have hz := weights_of hsz htj hdj
 obtain ⟨A, len, cap, rfl⟩ := okWide_slice Tryd.underlying22 hv
 obtain ⟨fuel, hf⟩ := h
 obtain ⟨A', c', l, e, h0, h1, h2, h3⟩ := row_open Tryd.underlying22 Tryd.underlying5 (by kernel_rfl) (by kernel_rfl) hf hz
 simp only [Value.cells, List.cons.injEq, and_true] at e
 exact ⟨A', c', l, e, h0, h1, h2, h3⟩
theorem byte_range {l : List Int} (h : ∀ n ∈ l, (Lit.int .u8 n).wf = true) : ∀ x ∈ l, 0 ≤ x ∧ x < 256 := by
 intro x hx
 have := h x hx
 simp [Lit.wf, IntKind.min, IntKind.max, IntKind.bits, IntKind.signed] at this
 omega
end
def spec_l3var.f : Nat → Int → Option (List Int)
 | 0, _ => none
 | k + 1, a0 => if a0 < 128 then (some (([(a0) % 256] : List Int))) else ((some (([(IntKind.u64.wrap ((Int.tmod a0 128) + 128)) % 256] : List Int) : List Int)).bind fun y347 => ((spec_l3var.f k (IntKind.u64.wrap (Int.tdiv a0 128))).bind fun t350 => (if y347.length + t350.length < 140737488355328 then (some (y347 ++ t350)) else (none))))
set_option maxHeartbeats 8000000 in
set_option maxRecDepth 100000 in
theorem spec_l3var.calls (k : Nat) : ∀ (a0 : Int) (r : List Int) (w : World) (h : spec_l3var.f k a0 = some r),
  Calls Tryd.prog 105 #[.int .u64 a0] w fun e w' => ∃ v0_ : Value, e = .returned (v0_) ∧ Kd.R (Kd.int .u8) 5 w' w.heap.size (fun _ => True) v0_ r ∧ Below w.heap.size w w' := by
 induction k using Nat.strongRecOn with
 | _ k ih =>
 intro a0 r w h
 cases k with
 | zero => exact absurd h (by simp [spec_l3var.f])
 | succ k =>
 simp only [spec_l3var.f] at h
 have HB := Aside0.mk (Below.refl w.heap.size w)
 have H : (if a0 < 128 then (some (([(a0) % 256] : List Int))) else ((some (([(IntKind.u64.wrap ((Int.tmod a0 128) + 128)) % 256] : List Int) : List Int)).bind fun y347 => ((spec_l3var.f k (IntKind.u64.wrap (Int.tdiv a0 128))).bind fun t350 => (if y347.length + t350.length < 140737488355328 then (some (y347 ++ t350)) else (none))))) = some r := h
 clear h
 by_cases c2 : a0 < 128
 ·
  rw [if_pos c2] at H
  have c2b0 : decide (a0 < 128) = true := decide_eq_true c2
  clear c2
  obtain ⟨y344, hy344⟩ : ∃ y_ : List Int, y_ = (([(a0) % 256] : List Int)) := ⟨_, rfl⟩
  replace H : (some y344) = some r := by first | (rw [hy344]; with_reducible exact H) | (have H2_ := (Option.bind_some _ _).symm.trans H; rw [hy344]; with_reducible exact H2_) | (have H2_ := (Option.bind_some _ _).symm.trans H; with_reducible exact H2_) | with_reducible exact H | (rw [hy344]; exact H) | exact H
  have Ny344 := Aside0.mk hy344
  clear hy344
  obtain rfl := Option.some.inj H
  go_enter Tryd.func105, Tryd.ntmps105
  go_wp2_with (first | ((with_reducible refine gate_dst (N := 8) rfl ?_); refine Kd.R_lit (Kd.int .u8) _ 5 ?hg (N := 8) ?hd (xs := ([(a0) % 256] : List Int)) (inner := [.int .u8 ((a0) % 256)]) (ok := fun _ => True) (okp := fun _ => True) ?hr ?hp (fun _ hk => hk) trivial (Below.refl _ _) (Nat.le_refl _) (by simp) ?_; (case hd => rfl); (case hg => rfl); (case hr => first | (go_simp; done) | (go_simp; rfl)); (case hp => exact (Reps.one (show Kd.M (Kd.int .u8) _ _ _ ((a0) % 256) [.int .u8 ((a0) % 256)] from rfl) (Reps.none _ _))); intro v345 w3 ho4 hb hg_ hnew_; clear hg_ hnew_; (first | rw [← Ny344.out] at ho4 | (simp only [Int.reduceToNat] at ho4; rw [← Ny344.out] at ho4)); have n0_ := Aside0.mk (Kd.R_lower ho4 (below_size (by repeat (first | (with_reducible first | exact HB.out | apply below_alloc | apply pw_below_drewN | apply below_drew1) | exact HB.out)))); have n1_ := Aside0.mk (below_step (by repeat (first | (with_reducible first | exact HB.out | apply below_alloc | apply pw_below_drewN | apply below_drew1) | exact HB.out)) hb); clear HB; have HO346 := n0_; have HB := n1_; clear n0_ n1_; clear hb ho4))
  go_ret
  exact ⟨_, by first | rfl | (simp [errW_none, errW_some] <;> rfl) | (simp [*, errW_none, errW_some] <;> rfl), by (with_reducible repeat (first | apply Kd.R_alloc | apply Kd.R_drewN | apply Kd.R_drew)); exact HO346.out, by repeat (first | (with_reducible first | exact HB.out | apply below_alloc | apply pw_below_drewN | apply below_drew1) | exact HB.out)⟩
 ·
  rw [if_neg c2] at H
  have c2b0 : decide (a0 < 128) = false := decide_eq_false c2
  clear c2
  obtain ⟨y347, hy347⟩ : ∃ y_ : List Int, y_ = (([(IntKind.u64.wrap ((Int.tmod a0 128) + 128)) % 256] : List Int)) := ⟨_, rfl⟩
  replace H : ((spec_l3var.f k (IntKind.u64.wrap (Int.tdiv a0 128))).bind fun t350 => (if y347.length + t350.length < 140737488355328 then (some (y347 ++ t350)) else (none))) = some r := by first | (rw [hy347]; with_reducible exact H) | (have H2_ := (Option.bind_some _ _).symm.trans H; rw [hy347]; with_reducible exact H2_) | (have H2_ := (Option.bind_some _ _).symm.trans H; with_reducible exact H2_) | with_reducible exact H | (rw [hy347]; exact H) | exact H
  have Ny347 := Aside0.mk hy347
  clear hy347
  replace H := Option.bind_eq_some_iff.mp H
  obtain ⟨t350, A50, H⟩ := H
  replace H : (if y347.length + t350.length < 140737488355328 then (some (y347 ++ t350)) else (none)) = some r := H
  have A5 := Aside0.mk A50
  clear A50
  by_cases c6 : y347.length + t350.length < 140737488355328
  ·
   rw [if_pos c6] at H
   have LMc6 := Aside0.mk c6
   clear c6
   obtain ⟨y353, hy353⟩ : ∃ y_ : List Int, y_ = (y347 ++ t350) := ⟨_, rfl⟩
   replace H : (some y353) = some r := by first | (rw [hy353]; with_reducible exact H) | (have H2_ := (Option.bind_some _ _).symm.trans H; rw [hy353]; with_reducible exact H2_) | (have H2_ := (Option.bind_some _ _).symm.trans H; with_reducible exact H2_) | with_reducible exact H | (rw [hy353]; exact H) | exact H
   have Ny353 := Aside0.mk hy353
   clear hy353
   obtain rfl := Option.some.inj H
   go_enter Tryd.func105, Tryd.ntmps105
   go_wp2_with (first | ((with_reducible refine gate_dst (N := 13) rfl ?_); refine Kd.R_lit (Kd.int .u8) _ 5 ?hg (N := 13) ?hd (xs := ([(IntKind.u64.wrap ((Int.tmod a0 128) + 128)) % 256] : List Int)) (inner := [.int .u8 ((IntKind.u64.wrap ((Int.tmod a0 128) + 128)) % 256)]) (ok := fun _ => True) (okp := fun _ => True) ?hr ?hp (fun _ hk => hk) trivial (Below.refl _ _) (Nat.le_refl _) (by simp) ?_; (case hd => rfl); (case hg => rfl); (case hr => first | (go_simp; done) | (go_simp; rfl)); (case hp => exact (Reps.one (show Kd.M (Kd.int .u8) _ _ _ ((IntKind.u64.wrap ((Int.tmod a0 128) + 128)) % 256) [.int .u8 ((IntKind.u64.wrap ((Int.tmod a0 128) + 128)) % 256)] from rfl) (Reps.none _ _))); intro v348 w7 ho8 hb hg_ hnew_; clear hg_ hnew_; (first | rw [← Ny347.out] at ho8 | (simp only [Int.reduceToNat] at ho8; rw [← Ny347.out] at ho8)); have n0_ := Aside0.mk (Kd.R_lower ho8 (below_size (by repeat (first | (with_reducible first | exact HB.out | apply below_alloc | apply pw_below_drewN | apply below_drew1) | exact HB.out)))); have n1_ := Aside0.mk (below_step (by repeat (first | (with_reducible first | exact HB.out | apply below_alloc | apply pw_below_drewN | apply below_drew1) | exact HB.out)) hb); clear HB; have HO349 := n0_; have HB := n1_; clear n0_ n1_; clear hb ho8) | ((with_reducible refine gate_callee (f := 105) rfl ?_); refine goesL_ (some 17) rfl rfl Tryd.func105 (by kernel_rfl) rfl #[.int .u64 (IntKind.u64.wrap (Int.tdiv a0 128))] rfl (by (try simp only [List.map_toArray, List.map_cons, List.map_nil]); first | done | rfl | (simp only [List.length_drop, List.length_take]; rfl)) ?_; (with_reducible refine (ih k (by omega) (IntKind.u64.wrap (Int.tdiv a0 128)) t350 _ A5.out).mono ?_); rintro e w9 ⟨v351, rfl, ho0, hb⟩; refine ⟨_, rfl, ?_⟩; have n0_ := Aside0.mk (Kd.R_elder' (by (with_reducible repeat (first | apply Kd.R_alloc | apply Kd.R_drewN | apply Kd.R_drew)); exact HO349.out) (Kd.R_base ho0) hb); have n1_ := Aside0.mk (Kd.R_lower (Kd.R_new' ho0 (Kd.R_lt (by (with_reducible repeat (first | apply Kd.R_alloc | apply Kd.R_drewN | apply Kd.R_drew)); exact HO349.out))) (below_size (by repeat (first | (with_reducible first | exact HB.out | apply below_alloc | apply pw_below_drewN | apply below_drew1) | exact HB.out)))); have n2_ := Aside0.mk (below_step (by repeat (first | (with_reducible first | exact HB.out | apply below_alloc | apply pw_below_drewN | apply below_drew1) | exact HB.out)) hb); clear HO349; clear HB; have HO349 := n0_; have HO352 := n1_; have HB := n2_; clear n0_ n1_ n2_; (try clear hb); (try clear hb2); (try clear hk); (try clear hi); (try clear ho0); obtain ⟨Ao11, co11, eo11⟩ := Kd.R_slice HO352.out; subst eo11) | ((with_reducible refine gate_builtin (b := .append) (xs := #[.tmp 14, .tmp 17]) rfl ?_); at_builtin; refine Kd.R_append_rows (Kd.int .u8) (w0 := w) w.heap.size rfl (.tmp 14) (.tmp 17) 22 5 (.int .u8 0) 1 rfl Tryd.underlying22 info5 rfl (by decide) (by omega) v348 y347 t350 _ _ _ (fun k_ => some k_ ≠ (.slice Ao11 t350.length co11 : Value).ownBlock) (fun _ => False) rfl rfl ?aO ?aR (fun _ _ h => h) (fun _ h => h.elim) ?aF ?aB ?aS ?aL ?_; (case aR => repeat (first | exact (Kd.R_reads' HO352.out).2.2 | (with_reducible refine Kd.C_alloc ?_ _) | (with_reducible refine Kd.C_drewN ?_ _) | (with_reducible refine Kd.C_drew ?_))); (case aB => exact (by repeat (first | (with_reducible first | exact HB.out | apply below_alloc | apply pw_below_drewN | apply below_drew1) | exact HB.out))); (case aF => exact (fun k_ hk => Kd.fresh' (Kd.R_lt (by (with_reducible repeat (first | apply Kd.R_alloc | apply Kd.R_drewN | apply Kd.R_drew)); exact HO352.out)) k_ hk)); (case aO => exact (by (with_reducible repeat (first | apply Kd.R_alloc | apply Kd.R_drewN | apply Kd.R_drew)); exact Kd.R_mono HO349.out (fun _ hk => hk.2))); (case aS => exact (below_size (by repeat (first | (with_reducible first | exact HB.out | apply below_alloc | apply pw_below_drewN | apply below_drew1) | exact HB.out)))); (case aL => have := LMc6.out; omega); intro v354 w10 ho hb hg hat; rw [← Ny353.out] at ho; have n0_ := Aside0.mk (Kd.R_after (ok := (fun _ => True)) (by (with_reducible repeat (first | apply Kd.R_alloc | apply Kd.R_drewN | apply Kd.R_drew)); exact HO352.out) hg hat); have n1_ := Aside0.mk (hb); have n2_ := Aside0.mk (ho); clear HO352; clear HB; clear HO349; have HO352 := n0_; have HB := n1_; have HO355 := n2_; clear n0_ n1_ n2_; clear ho hb hg hat))
   go_ret
   exact ⟨_, by first | rfl | (simp [errW_none, errW_some] <;> rfl) | (simp [*, errW_none, errW_some] <;> rfl), by (with_reducible repeat (first | apply Kd.R_alloc | apply Kd.R_drewN | apply Kd.R_drew)); exact Kd.R_mono HO355.out (fun _ hk => trivial), by repeat (first | (with_reducible first | exact HB.out | apply below_alloc | apply pw_below_drewN | apply below_drew1) | exact HB.out)⟩
  ·
   rw [if_neg c6] at H
   exact absurd H (by simp)
def spec_l3text.f (k : Nat) (l0 : List Int) : Option (List Int) := (spec_l3var.f k (IntKind.u64.wrap ((l0.length : Int)))).bind fun t356 => (if t356.length + l0.length < 140737488355328 then (some (t356 ++ l0)) else (none))
set_option maxHeartbeats 8000000 in
set_option maxRecDepth 100000 in
theorem spec_l3text.calls (k : Nat) (A0 : Option Addr) (c0 : Nat) (l0 : List Int) (r : List Int) (w : World) (hr0 : Kd.C (Kd.int .u8) w A0 l0.length l0) (hc0 : l0.length ≤ c0) (h : spec_l3text.f k l0 = some r) :
  Calls Tryd.prog 106 #[.slice A0 l0.length c0] w fun e w' => ∃ v0_ : Value, e = .returned (v0_) ∧ Kd.R (Kd.int .u8) 5 w' w.heap.size (fun _ => True) v0_ r ∧ Below w.heap.size w w' := by
 have HR0 := Aside0.mk hr0
 have HC0 := Aside0.mk hc0
 clear hr0 hc0
 have HB := Aside0.mk (Below.refl w.heap.size w)
 have H : ((spec_l3var.f k (IntKind.u64.wrap ((l0.length : Int)))).bind fun t356 => (if t356.length + l0.length < 140737488355328 then (some (t356 ++ l0)) else (none))) = some r := h
 clear h
 replace H := Option.bind_eq_some_iff.mp H
 obtain ⟨t356, A20, H⟩ := H
 replace H : (if t356.length + l0.length < 140737488355328 then (some (t356 ++ l0)) else (none)) = some r := H
 have A2 := Aside0.mk A20
 clear A20
 by_cases c3 : t356.length + l0.length < 140737488355328
 ·
  rw [if_pos c3] at H
  have LMc3 := Aside0.mk c3
  clear c3
  obtain ⟨y359, hy359⟩ : ∃ y_ : List Int, y_ = (t356 ++ l0) := ⟨_, rfl⟩
  replace H : (some y359) = some r := by first | (rw [hy359]; with_reducible exact H) | (have H2_ := (Option.bind_some _ _).symm.trans H; rw [hy359]; with_reducible exact H2_) | (have H2_ := (Option.bind_some _ _).symm.trans H; with_reducible exact H2_) | with_reducible exact H | (rw [hy359]; exact H) | exact H
  have Ny359 := Aside0.mk hy359
  clear hy359
  obtain rfl := Option.some.inj H
  go_enter Tryd.func106, Tryd.ntmps106
  go_wp2_with (first | ((with_reducible refine gate_callee (f := 105) rfl ?_); refine goesL_ (some 6) rfl rfl Tryd.func105 (by kernel_rfl) rfl #[.int .u64 (IntKind.u64.wrap ((l0.length : Int)))] rfl (by (try simp only [List.map_toArray, List.map_cons, List.map_nil]); first | done | rfl | (simp only [List.length_drop, List.length_take]; rfl)) ?_; (with_reducible refine (spec_l3var.calls k (IntKind.u64.wrap ((l0.length : Int))) t356 _ A2.out).mono ?_); rintro e w4 ⟨v357, rfl, ho0, hb⟩; refine ⟨_, rfl, ?_⟩; have n0_ := Aside0.mk (Kd.R_lower ho0 (below_size (by repeat (first | (with_reducible first | exact HB.out | apply below_alloc | apply pw_below_drewN | apply below_drew1) | exact HB.out)))); have n1_ := Aside0.mk (below_step (by repeat (first | (with_reducible first | exact HB.out | apply below_alloc | apply pw_below_drewN | apply below_drew1) | exact HB.out)) hb); clear HB; have HO358 := n0_; have HB := n1_; clear n0_ n1_; (try clear hb); (try clear hb2); (try clear hk); (try clear hi); (try clear ho0)) | ((with_reducible refine gate_builtin (b := .append) (xs := #[.tmp 6, .tmp 7]) rfl ?_); at_builtin; refine Kd.R_append_rows (Kd.int .u8) (w0 := w) w.heap.size rfl (.tmp 6) (.tmp 7) 22 5 (.int .u8 0) 1 rfl Tryd.underlying22 info5 rfl (by decide) (by omega) v357 t356 l0 _ _ _ (fun _ => True) (fun _ => False) rfl rfl ?aO ?aR (fun _ _ h => h) (fun _ h => h.elim) ?aF ?aB ?aS ?aL ?_; (case aR => repeat (first | exact (Kd.C_below HR0.out HB.out) | (with_reducible refine Kd.C_alloc ?_ _) | (with_reducible refine Kd.C_drewN ?_ _) | (with_reducible refine Kd.C_drew ?_))); (case aB => exact (by repeat (first | (with_reducible first | exact HB.out | apply below_alloc | apply pw_below_drewN | apply below_drew1) | exact HB.out))); (case aF => exact (fun _ _ => trivial)); (case aO => exact (by (with_reducible repeat (first | apply Kd.R_alloc | apply Kd.R_drewN | apply Kd.R_drew)); exact HO358.out)); (case aS => exact (below_size (by repeat (first | (with_reducible first | exact HB.out | apply below_alloc | apply pw_below_drewN | apply below_drew1) | exact HB.out)))); (case aL => have := LMc3.out; omega); intro v360 w5 ho hb hg hat; rw [← Ny359.out] at ho; have n0_ := Aside0.mk (hb); have n1_ := Aside0.mk (ho); clear HB; clear HO358; have HB := n0_; have HO361 := n1_; clear n0_ n1_; clear ho hb hg hat))
  go_ret
  exact ⟨_, by first | rfl | (simp [errW_none, errW_some] <;> rfl) | (simp [*, errW_none, errW_some] <;> rfl), by (with_reducible repeat (first | apply Kd.R_alloc | apply Kd.R_drewN | apply Kd.R_drew)); exact HO361.out, by repeat (first | (with_reducible first | exact HB.out | apply below_alloc | apply pw_below_drewN | apply below_drew1) | exact HB.out)⟩
 ·
  rw [if_neg c3] at H
  exact absurd H (by simp)
def varB : Nat → Int → List Int
 | 0, _ => []
 | k + 1, v => if v < 128 then [v] else (v % 128 + 128) :: varB k (v / 128)
def varN (v : Int) : List Int := varB 10 v
def textB (b : List Int) : List Int := varN (b.length : Int) ++ b
theorem varB_length (k : Nat) : ∀ v, (varB k v).length ≤ k := by
 induction k with
 | zero => intro v; simp [varB]
 | succ k ih =>
  intro v
  simp only [varB]
  split
  ·
   simp
  ·
   have := ih (v / 128)
   simp only [List.length_cons]
   omega
theorem varN_length (v : Int) : (varN v).length ≤ 10 := varB_length 10 v
theorem u64_idI (v : Int) (h0 : 0 ≤ v) (h1 : v < 18446744073709551616) : IntKind.u64.wrap v = v := by
 have e : IntKind.u64.wrap v = v % 18446744073709551616 := by simp [IntKind.wrap, IntKind.signed, IntKind.bits]
 rw [e]
 omega
theorem var_f (n : Nat) : ∀ (k : Nat) (v : Int), 0 ≤ v → v < 18446744073709551616 → v < 128 ^ n → n ≤ 10 → 0 < n → n ≤ k → spec_l3var.f k v = some (varB n v) := by
 induction n with
 | zero => intro k v _ _ _ _ h; omega
 | succ n ih =>
  intro k v h0 h1 hv hn _ hk
  obtain ⟨k, rfl⟩ : ∃ m, k = m + 1 := ⟨k - 1, by omega⟩
  simp only [spec_l3var.f, varB]
  by_cases c : v < 128
  ·
   rw [if_pos c, if_pos c, show v % 256 = v by omega]
  ·
   rw [if_neg c, if_neg c, Option.bind_some]
   have e1 : Int.tmod v 128 = v % 128 := Int.tmod_eq_emod_of_nonneg h0
   have e2 : Int.tdiv v 128 = v / 128 := Int.tdiv_eq_ediv_of_nonneg h0
   have h128 : v / 128 < 128 ^ n := by
    rw [Int.ediv_lt_iff_lt_mul (by omega)]
    rw [Int.pow_succ] at hv
    exact hv
   have hn0 : 0 < n := by
    rcases Nat.eq_zero_or_pos n with rfl | h
    ·
     simp at hv; omega
    ·
     exact h
   rw [e1, e2, u64_idI _ (by omega) (by omega), u64_idI _ (by omega) (by omega), ih k (v / 128) (by omega) (by omega) h128 (by omega) hn0 (by omega), Option.bind_some, if_pos (by have := varB_length n (v / 128); simp only [List.length_singleton]; omega), show (v % 128 + 128) % 256 = v % 128 + 128 by omega]
   rfl
theorem varN_f (k : Nat) (v : Int) (h0 : 0 ≤ v) (h1 : v < 18446744073709551616) (hk : 10 ≤ k) : spec_l3var.f k v = some (varN v) :=
 var_f 10 k v h0 h1 (Int.lt_trans h1 (by decide)) (by omega) (by omega) hk
theorem textB_length (b : List Int) : (textB b).length ≤ 10 + b.length := by
 unfold textB
 rw [List.length_append]
 have := varN_length (b.length : Int)
 omega
theorem text_f (k : Nat) (b : List Int) (hb : b.length ≤ 140737488350000) (hk : 10 ≤ k) : spec_l3text.f k b = some (textB b) := by
 unfold spec_l3text.f
 rw [u64_idI _ (by omega) (by omega), varN_f k _ (by omega) (by omega) hk, Option.bind_some, if_pos (by have := varN_length (b.length : Int); omega)]
 rfl
theorem var_ok (v : Int) (h0 : 0 ≤ v) (h1 : v < 18446744073709551616) (w : World) : Calls Tryd.prog 105 #[.int .u64 v] w fun e w' => ∃ B d, e = .returned (.slice B (varN v).length d) ∧ Kd.R (Kd.int .u8) 5 w' w.heap.size (fun _ => True) (.slice B (varN v).length d) (varN v) ∧ Below w.heap.size w w' := by
 refine (spec_l3var.calls 10 v _ w (varN_f 10 v h0 h1 (by omega))).mono ?_
 rintro e w' ⟨u, rfl, hr, hb⟩
 obtain ⟨B, d, rfl⟩ := Kd.R_slice hr
 exact ⟨B, d, rfl, hr, hb⟩
theorem text_ok (A : Option Addr) (c : Nat) (l : List Int) (hl : l.length ≤ 140737488350000) (w : World) (h : Kd.C (Kd.int .u8) w A l.length l) (hc : l.length ≤ c) : Calls Tryd.prog 106 #[.slice A l.length c] w fun e w' => ∃ B d, e = .returned (.slice B (textB l).length d) ∧ Kd.R (Kd.int .u8) 5 w' w.heap.size (fun _ => True) (.slice B (textB l).length d) (textB l) ∧ Below w.heap.size w w' := by
 refine (spec_l3text.calls 10 A c l _ w h hc (text_f 10 l hl (by omega))).mono ?_
 rintro e w' ⟨u, rfl, hr, hb⟩
 obtain ⟨B, d, rfl⟩ := Kd.R_slice hr
 exact ⟨B, d, rfl, hr, hb⟩
structure PK (w0 W : World) (g : Nat) (l : List Int) : Prop where
 ex : ∃ A c, W.heap[g]? = some (.cells #[.slice A l.length c] 92 (0, 0)) ∧ Kd.R (Kd.int .u8) 5 W w0.heap.size (fun _ => True) (.slice A l.length c) l
 be : Below w0.heap.size w0 W
 hg : w0.heap.size ≤ g
def KeepP (w w' : World) (g : Nat) : Prop := w.heap.size ≤ w'.heap.size ∧ ∀ b, b < w.heap.size → b ≠ g → (¬ ∃ cs, w.heap[b]? = some (.cells cs 5 (0, 0))) → w'.heap[b]? = w.heap[b]?
theorem KeepP.refl (w : World) (g : Nat) : KeepP w w g := ⟨Nat.le_refl _, fun _ _ _ _ => rfl⟩
theorem KeepP.trans {a b c : World} {g : Nat} (h : KeepP a b g) (k : KeepP b c g) : KeepP a c g :=
 ⟨Nat.le_trans h.1 k.1, fun i hi hn hu => by
  have e := h.2 i hi hn hu
  exact (k.2 i (Nat.lt_of_lt_of_le hi h.1) hn (by rw [e]; exact hu)).trans e⟩
theorem KeepP.below {w w1 w2 : World} {g : Nat} (h : KeepP w w1 g) (hb : Below w1.heap.size w1 w2) : KeepP w w2 g := h.trans ⟨hb.size, fun i hi _ _ => hb.block i hi⟩
theorem KeepP.grown {w w1 w2 : World} {g : Nat} {v : Value} (h : KeepP w w1 g) (hg : w1.grownBy w2 v.ownBlock) (hty : ∀ k, v.ownBlock = some k → ∃ cells, w1.heap[k]? = some (.cells cells 5 (0, 0))) : KeepP w w2 g :=
 h.trans ⟨hg.size, fun i hi _ hu => hg.block i hi (fun e => hu (hty i e.symm))⟩
theorem KeepP.set {w w1 : World} {g j : Nat} (h : KeepP w w1 g) (v : Value) : KeepP w (w1.setCell ⟨g, j, none⟩ v) g :=
 h.trans ⟨by simp [World.setCell], fun i hi hn _ => Below.heap_setCell w1 ⟨g, j, none⟩ v i hn⟩
theorem or_byte (y : Int) (h : 0 ≤ y) : Go.bits .or .u8 (y % 256) 128 = y % 128 + 128 := by
 have key : ∀ n : Fin 256, Go.bits .or .u8 ((n.val : Nat) : Int) 128 = ((n.val : Nat) : Int) % 128 + 128 := by decide +kernel
 have h2 := key ⟨(y % 256).toNat, by omega⟩
 simp only at h2
 rw [show (((y % 256).toNat : Nat) : Int) = y % 256 by omega] at h2
 rw [h2]
 omega
theorem LEN10 (l xs : List Int) (i : Nat) (hi : i ≤ xs.length) : (l ++ (xs.take i).flatMap varN).length + 10 ≤ l.length + 10 * (i + 1) := by
 have h : ∀ ys : List Int, (ys.flatMap varN).length ≤ 10 * ys.length := by
  intro ys
  induction ys with
  | nil => simp
  | cons y r ih =>
   rw [List.flatMap_cons, List.length_append, List.length_cons]
   have := varN_length y
   omega
 have := h (xs.take i)
 rw [List.length_append]
 rw [List.length_take] at this
 omega
set_option maxHeartbeats 4000000 in
set_option maxRecDepth 100000 in
theorem packer_numbers (w0 w : World) (g : Nat) (l : List Int) (A : Option Addr) (c : Nat) (xs : List Int) (bx : Nat) (okx : Nat → Prop) (HP : PK w0 w g l) (hx : Kd.R (Kd.int .u64) 26 w bx okx (.slice A xs.length c) xs) (hr : ∀ x ∈ xs, 0 ≤ x ∧ x < 18446744073709551616) (hl : l.length + 10 * xs.length ≤ 100000000) :
  Calls Tryd.prog 63 #[.pointer (some ⟨g, 0, none⟩), .slice A xs.length c] w fun e w' => e = .returned (.tuple #[]) ∧ PK w0 w' g (l ++ xs.flatMap varN) ∧ KeepP w w' g := by
 have HX := Aside0.mk hx
 have HQ := Aside0.mk HP
 have HRR := Aside0.mk hr
 have HLL := Aside0.mk hl
 have hxl : xs.length ≤ 100000000 := by omega
 clear hx HP hr hl
 go_enter Tryd.func63, Tryd.ntmps63
 go_wp2
 go_loopw [8] (fun v8 wr => ∃ i : Nat, v8 = .int .i64 i ∧ i ≤ xs.length ∧ Aside0 (PK w0 wr g (l ++ (xs.take i).flatMap varN)) ∧ Aside0 (Kd.R (Kd.int .u64) 26 wr bx okx (.slice A xs.length c) xs) ∧ Aside0 (KeepP w wr g)) (fun v8 _ => xs.length - (intOf v8).toNat)
 case atStart => exact ⟨0, rfl, by omega, by simpa using HQ, HX, ⟨KeepP.refl w g⟩⟩
 case round =>
  clear HQ HX
  obtain ⟨i, rfl, hi, HQ, HX, HK⟩ := hrel
  by_cases hlt : i < xs.length
  ·
   obtain ⟨ga, ca, eA, gb, gl, _⟩ := Kd.R_form HX.out (by omega)
   injection eA with eA _ eC
   subst eA
   subst eC
   have x0 := (Kd.R_celln (enc := Value.int .u64) (h1 := fun _ => rfl) 0 HX.out (i : Int) (by omega) (by omega)).1
   rw [Int.toNat_natCast] at x0
   have hxi : rdOf 0 xs (i : Int) = xs[i] := by rw [show rdOf 0 xs (i : Int) = xs.getD i 0 from rfl]; simp [List.getD_eq_getElem?_getD, hlt]
   rw [hxi] at x0
   have ⟨r0, r1⟩ := HRR.out xs[i] (List.getElem_mem hlt)
   have hd1 : decide ((i : Int) < (xs.length : Int)) = true := decide_eq_true (by omega)
   have hd2 : decide (i < xs.length) = true := decide_eq_true hlt
   have HTK := Aside0.mk (show (xs.take (i + 1)).flatMap varN = (xs.take i).flatMap varN ++ varN xs[i] by rw [List.take_succ_eq_append_getElem hlt, List.flatMap_append, List.flatMap_singleton])
   generalize hxe : xs[i] = x at *
   have HXE := Aside0.mk hxe
   clear hxe hxi
   go_wp2
   obtain ⟨wo, rfl⟩ : ∃ wo : World, wo = wr := ⟨_, rfl⟩
   go_loopw [5] (fun v5 wi => ∃ (y : Int) (j : Nat) (pre : List Int), v5 = .int .u64 y ∧ 0 ≤ y ∧ y < 18446744073709551616 ∧ Aside0 (y < 128 ^ j ∧ 0 < j ∧ pre.length + j ≤ l.length + 10 * (i + 1)) ∧ Aside0 (pre ++ varB j y = l ++ (xs.take i).flatMap varN ++ varN x) ∧ Aside0 (PK w0 wi g pre) ∧ Aside0 (Kd.R (Kd.int .u64) 26 wi bx okx (.slice (some ⟨ga, 0, none⟩) xs.length c) xs) ∧ Aside0 (KeepP w wi g)) (fun v5 _ => (intOf v5).toNat)
   case atStart => exact ⟨x, 10, l ++ (xs.take i).flatMap varN, rfl, r0, r1, ⟨⟨Int.lt_trans r1 (by decide), by omega, LEN10 l xs i (by omega)⟩⟩, ⟨rfl⟩, HQ, HX, HK⟩
   case round =>
    clear HQ HX HK r0 r1 x0
    obtain ⟨y, j, pre, rfl, y0, y1, HJ, HV, HP, HX, HK⟩ := hrel
    obtain ⟨hj1, hj2, hj3⟩ := HJ.out
    have HL := Aside0.mk (show (pre.length + 1) * 1 ≤ 140737488355328 by have := HLL.out; omega)
    obtain ⟨⟨Ap, cp, hbox, hR⟩, hbe, hgg⟩ := HP.out
    have z0 := blk_cell hbox 0
    have f0 := blk_frozen hbox 0
    simp only [List.getElem?_toArray, List.getElem?_cons_zero] at z0
    have HR := Aside0.mk hR
    have HB := Aside0.mk hbe
    have hne := Kd.R_ne hR hbox (by decide)
    have HZ := Aside0.mk (show (∀ w5, wr.grownBy w5 (Value.slice Ap pre.length cp).ownBlock → w5.cell? ⟨g, 0, none⟩ = some (Value.slice Ap pre.length cp)) ∧ (∀ w5, wr.grownBy w5 (Value.slice Ap pre.length cp).ownBlock → w5.frozen? ⟨g, 0, none⟩ = false) from ⟨fun w5 hg => (blk_cell (blk_grown hbox hg hne) 0).trans rfl, fun w5 hg => blk_frozen (blk_grown hbox hg hne) 0⟩)
    have HN := Aside0.mk (And.intro hbox (And.intro hne hgg))
    clear hbox hR hbe hgg hne
    by_cases hy : 128 ≤ y
    ·
     have t1 : decide (128 ≤ y) = true := decide_eq_true hy
     have t2 := or_byte y y0
     have HD := Aside0.mk (And.intro y0 (And.intro y1 (And.intro hy (And.intro hj1 (And.intro hj2 hj3)))))
     clear hj1 hj2 hj3 hy y1
     go_wp2_with (at_builtin; refine Kd.R_append (Kd.int .u8) (w0 := w0) w0.heap.size rfl (.tmp 18) (.tmp 22) 22 5 (.int .u8 0) 1 rfl Tryd.underlying22 info5 rfl (by decide) (by omega) (.slice Ap pre.length cp) pre (y % 128 + 128) [.int .u8 (y % 128 + 128)] (fun _ => True) (fun _ => False) ?eS ?eX rfl (fun _ hk => hk.elim) (fun _ _ => trivial) HR.out HB.out HB.out.size HL.out ?_; (case eS => first | rfl | simp [Act.eval, Act.put]); (case eX => first | rfl | simp [Act.eval, Act.put]); intro v1 w5 ho hb hg hat; obtain ⟨A1, c1, rfl⟩ := Kd.R_slice ho; have ho' := Aside0.mk ho; have hb' := Aside0.mk hb; have hg' := Aside0.mk hg; have y0 := HZ.out.1 w5 hg; have y1 := HZ.out.2 w5 hg; clear ho hb hg hat)
     have HPn := Aside0.mk (show PK w0 (w5.setCell ⟨g, 0, none⟩ (.slice A1 (pre ++ [y % 128 + 128]).length c1)) g (pre ++ [y % 128 + 128]) from ⟨⟨A1, c1, blk_put (blk_grown HN.out.1 hg'.out HN.out.2.1) 0 _ rfl, Kd.R_set ho'.out (blk_grown HN.out.1 hg'.out HN.out.2.1) (by decide) 0 _⟩, below_set hb'.out HN.out.2.2, HN.out.2.2⟩)
     have HXn := Aside0.mk (show Kd.R (Kd.int .u64) 26 (w5.setCell ⟨g, 0, none⟩ (.slice A1 (pre ++ [y % 128 + 128]).length c1)) bx okx (.slice (some ⟨ga, 0, none⟩) xs.length c) xs from Kd.R_set (Kd.R_over' HX.out (Kd.R_typed HR.out) (by decide) hg'.out) (blk_grown HN.out.1 hg'.out HN.out.2.1) (by decide) 0 _)
     have HKn := Aside0.mk ((HK.out.grown hg'.out (Kd.R_typed HR.out)).set (j := 0) (.slice A1 (pre ++ [y % 128 + 128]).length c1))
     have eL : (pre ++ [y % 128 + 128]).length = pre.length + 1 := by simp
     rw [eL] at HPn HXn HKn
     obtain ⟨d0, d1, d2, d3, d4, d5⟩ := HD.out
     obtain ⟨j, rfl⟩ : ∃ q, j = q + 1 := ⟨j - 1, by omega⟩
     have hj0 : 0 < j := by
      rcases Nat.eq_zero_or_pos j with rfl | h
      ·
       simp at d3; omega
      ·
       exact h
     have hdv : y / 128 < 128 ^ j := by
      rw [Int.ediv_lt_iff_lt_mul (by omega)]
      rw [Int.pow_succ] at d3
      exact d3
     have hvv : (pre ++ [y % 128 + 128]) ++ varB j (y / 128) = l ++ (xs.take i).flatMap varN ++ varN x := by
      rw [← HV.out, varB, if_neg (by omega), List.append_assoc]
      rfl
     go_roundw
     case rel => exact ⟨y / 128, j, pre ++ [y % 128 + 128], rfl, by omega, by omega, ⟨⟨hdv, hj0, by rw [eL]; omega⟩⟩, ⟨hvv⟩, HPn, HXn, HKn⟩
     case measure => simp [intOf]; omega
    ·
     have t1 : decide (128 ≤ y) = false := decide_eq_false hy
     have t3 : y % 256 = y := by omega
     have HD := Aside0.mk (And.intro y0 (And.intro y1 (And.intro hy (And.intro hj1 (And.intro hj2 hj3)))))
     clear hj1 hj2 hj3 hy y1 y0
     go_wp2_with (at_builtin; refine Kd.R_append (Kd.int .u8) (w0 := w0) w0.heap.size rfl (.tmp 32) (.tmp 35) 22 5 (.int .u8 0) 1 rfl Tryd.underlying22 info5 rfl (by decide) (by omega) (.slice Ap pre.length cp) pre (y) [.int .u8 (y)] (fun _ => True) (fun _ => False) ?eS ?eX rfl (fun _ hk => hk.elim) (fun _ _ => trivial) HR.out HB.out HB.out.size HL.out ?_; (case eS => first | rfl | simp [Act.eval, Act.put]); (case eX => first | rfl | simp [Act.eval, Act.put]); intro v1 w5 ho hb hg hat; obtain ⟨A1, c1, rfl⟩ := Kd.R_slice ho; have ho' := Aside0.mk ho; have hb' := Aside0.mk hb; have hg' := Aside0.mk hg; have y0 := HZ.out.1 w5 hg; have y1 := HZ.out.2 w5 hg; clear ho hb hg hat)
     have HPn := Aside0.mk (show PK w0 (w5.setCell ⟨g, 0, none⟩ (.slice A1 (pre ++ [y]).length c1)) g (pre ++ [y]) from ⟨⟨A1, c1, blk_put (blk_grown HN.out.1 hg'.out HN.out.2.1) 0 _ rfl, Kd.R_set ho'.out (blk_grown HN.out.1 hg'.out HN.out.2.1) (by decide) 0 _⟩, below_set hb'.out HN.out.2.2, HN.out.2.2⟩)
     have HXn := Aside0.mk (show Kd.R (Kd.int .u64) 26 (w5.setCell ⟨g, 0, none⟩ (.slice A1 (pre ++ [y]).length c1)) bx okx (.slice (some ⟨ga, 0, none⟩) xs.length c) xs from Kd.R_set (Kd.R_over' HX.out (Kd.R_typed HR.out) (by decide) hg'.out) (blk_grown HN.out.1 hg'.out HN.out.2.1) (by decide) 0 _)
     have HKn := Aside0.mk ((HK.out.grown hg'.out (Kd.R_typed HR.out)).set (j := 0) (.slice A1 (pre ++ [y]).length c1))
     have eL : (pre ++ [y]).length = pre.length + 1 := by simp
     rw [eL] at HPn HXn HKn
     obtain ⟨d0, d1, d2, d3, d4, d5⟩ := HD.out
     obtain ⟨j, rfl⟩ : ∃ q, j = q + 1 := ⟨j - 1, by omega⟩
     have hvv : pre ++ [y] = l ++ (xs.take (i + 1)).flatMap varN := by
      rw [HTK.out, ← List.append_assoc, ← HV.out, varB, if_pos (by omega)]
     rw [hvv] at HPn
     go_roundw
     case rel => exact ⟨i + 1, by go_num, by omega, HPn, HXn, HKn⟩
     case measure => simp [intOf]; omega
  ·
   obtain rfl : i = xs.length := by omega
   go_wp2
   go_end0
   exact ⟨rfl, by simpa using HQ.out, HK.out⟩
theorem lit1 (w : World) (x : Int) : Kd.R (Kd.int .u64) 26 (w.alloc (.cells #[.int .u64 x] 26)) w.heap.size (fun _ => True) (.slice (some ⟨w.heap.size, 0, none⟩) 1 1) [x] :=
 Kd.R_of_own (enc := Value.int .u64) (h1 := fun _ => rfl) (xs := [x]) (own_lit w w.heap.size 26 .u64 [x] (Nat.le_refl _) (by simp)) (fun _ _ => trivial)
theorem PK.open_ {w0 W : World} {g : Nat} {l : List Int} (h : PK w0 W g l) : ∃ A c, W.heap[g]? = some (.cells #[.slice A l.length c] 92 (0, 0)) ∧ Kd.R (Kd.int .u8) 5 W w0.heap.size (fun _ => True) (.slice A l.length c) l ∧ W.cell? ⟨g, 0, none⟩ = some (.slice A l.length c) ∧ W.frozen? ⟨g, 0, none⟩ = false ∧
  ∀ w5, W.grownBy w5 (Value.slice A l.length c).ownBlock → w5.heap[g]? = some (.cells #[.slice A l.length c] 92 (0, 0)) ∧ w5.cell? ⟨g, 0, none⟩ = some (.slice A l.length c) ∧ w5.frozen? ⟨g, 0, none⟩ = false := by
 obtain ⟨⟨A, c, hbox, hR⟩, hbe, hgg⟩ := h
 have hne := Kd.R_ne hR hbox (by decide)
 exact ⟨A, c, hbox, hR, (blk_cell hbox 0).trans rfl, blk_frozen hbox 0, fun w5 hg => ⟨blk_grown hbox hg hne, (blk_cell (blk_grown hbox hg hne) 0).trans rfl, blk_frozen (blk_grown hbox hg hne) 0⟩⟩
theorem PK.put {w0 W w5 : World} {g : Nat} {l l' : List Int} {A A' : Option Addr} {c c' : Nat} (h : PK w0 W g l) (h5 : w5.heap[g]? = some (.cells #[.slice A l.length c] 92 (0, 0))) (hr : Kd.R (Kd.int .u8) 5 w5 w0.heap.size (fun _ => True) (.slice A' l'.length c') l') (hb : Below w0.heap.size w0 w5) : PK w0 (w5.setCell ⟨g, 0, none⟩ (.slice A' l'.length c')) g l' :=
 ⟨⟨A', c', blk_put h5 0 _ rfl, Kd.R_set hr h5 (by decide) 0 _⟩, below_set hb h.hg, h.hg⟩
theorem PK.alloc {w0 W : World} {g : Nat} {l : List Int} (h : PK w0 W g l) (o : Obj) : PK w0 (W.alloc o) g l := by
 obtain ⟨⟨A, c, hbox, hR⟩, hbe, hgg⟩ := h
 exact ⟨⟨A, c, blk_alloc hbox o, Kd.R_alloc hR o⟩, below_alloc hbe o, hgg⟩
set_option maxHeartbeats 2000000 in
set_option maxRecDepth 100000 in
theorem packer_text (w0 w : World) (g : Nat) (l : List Int) (A : Option Addr) (c : Nat) (b : List Int) (HP : PK w0 w g l) (hb : Kd.C (Kd.int .u8) w0 A b.length b) (hc : b.length ≤ c) (hl : l.length + 10 + b.length ≤ 100000000) :
  Calls Tryd.prog 64 #[.pointer (some ⟨g, 0, none⟩), .slice A b.length c] w fun e w' => e = .returned (.tuple #[]) ∧ PK w0 w' g (l ++ textB b) ∧ KeepP w w' g := by
 have HQ := Aside0.mk HP
 have HC := Aside0.mk hb
 have HLL := Aside0.mk hl
 have hu : IntKind.u64.wrap (b.length : Int) = (b.length : Int) := u64_idI _ (by omega) (by omega)
 clear HP hb hl
 go_enter Tryd.func64, Tryd.ntmps64
 go_wp2_with fail
 refine (packer_numbers w0 _ g l (some ⟨w.heap.size, 0, none⟩) 1 [(b.length : Int)] w.heap.size (fun _ => True) (HQ.out.alloc _) (lit1 w _) (by intro x hx; rw [List.mem_singleton.1 hx]; have := HLL.out; omega) (by have := HLL.out; simp only [List.length_singleton]; omega)).mono ?_
 rintro e w1 ⟨rfl, h1, h2⟩
 rw [List.flatMap_singleton] at h1
 obtain ⟨Ap, cp, hbox, hR, z0, f0, hgz⟩ := h1.open_
 have H1 := Aside0.mk h1
 have HR := Aside0.mk hR
 have HX := Aside0.mk hbox
 have HZ := Aside0.mk hgz
 have HK := Aside0.mk ((KeepP.refl w g).below (below_alloc (Below.refl w.heap.size w) (.cells #[.int .u64 (b.length : Int)] 26)) |>.trans h2)
 have HL := Aside0.mk (show ((l ++ varN (b.length : Int)).length + b.length) * 1 ≤ 140737488355328 by have := HLL.out; have := varN_length (b.length : Int); rw [List.length_append]; omega)
 generalize hq : l ++ varN (b.length : Int) = q at *
 have HE := Aside0.mk hq
 clear h1 h2 hbox hR hgz hq hu
 go_wp2_with (at_builtin; refine Kd.R_append_rows (Kd.int .u8) (w0 := w0) w0.heap.size rfl (.tmp 14) (.tmp 15) 22 5 (.int .u8 0) 1 rfl Tryd.underlying22 info5 rfl (by decide) (by omega) (.slice Ap q.length cp) q b A b.length c (fun _ => True) (fun _ => False) ?eS ?eX ?aO ?aR (fun _ _ h => h) (fun _ h => h.elim) (fun _ _ => trivial) ?aB ?aS ?aL ?_; (case aO => exact HR.out); (case aR => exact Kd.C_below HC.out H1.out.be); (case aB => exact H1.out.be); (case aS => exact H1.out.be.size); (case aL => exact HL.out); (case eS => first | rfl | simp [Act.eval, Act.put]); (case eX => first | rfl | simp [Act.eval, Act.put]); intro v1 w5 ho hb hg hat; obtain ⟨A1, c1, rfl⟩ := Kd.R_slice ho; have ho' := Aside0.mk ho; have hb' := Aside0.mk hb; have hg' := Aside0.mk hg; have y0 := (HZ.out w5 hg).2.1; have y1 := (HZ.out w5 hg).2.2; clear ho hb hg hat)
 go_end0
 have hfin := H1.out.put (HZ.out _ hg'.out).1 ho'.out hb'.out
 have hk := (HK.out.grown hg'.out (Kd.R_typed HR.out)).set (j := 0) (.slice A1 (q ++ b).length c1)
 have eT : q ++ b = l ++ textB b := by rw [← HE.out, textB, List.append_assoc]
 have eL : (q ++ b).length = q.length + b.length := List.length_append
 rw [eL] at hfin hk
 rw [← eT]
 exact ⟨rfl, hfin, hk⟩
def OB (A : Option Addr) (n c : Nat) (k : Nat) : Prop := some k = (Value.slice A n c).ownBlock
structure BK (w0 W : World) (lo hi : Nat) (A : Option Addr) (c : Nat) (l : List Int) : Prop where
 r : Kd.R (Kd.int .u8) 5 W w0.heap.size (fun k => OB A l.length c k) (.slice A l.length c) l
 b : ∀ k, OB A l.length c k → lo ≤ k ∧ k < hi
theorem BK.reads {w0 W : World} {lo hi : Nat} {A : Option Addr} {c : Nat} {l : List Int} (h : BK w0 W lo hi A c l) : Kd.C (Kd.int .u8) W A l.length l ∧ l.length ≤ c := ⟨(Kd.R_reads' h.r).2.2, (Kd.R_reads' h.r).2.1⟩
theorem BK.of {w0 w W : World} {ok : Nat → Prop} {A : Option Addr} {c : Nat} {l : List Int} (h : Kd.R (Kd.int .u8) 5 W w.heap.size ok (.slice A l.length c) l) (hB : Below w0.heap.size w0 w) : BK w0 W w.heap.size W.heap.size A c l :=
 ⟨Kd.R_tight rfl (Kd.R_lower h hB.size), fun k hk => ⟨Kd.R_base h k hk.symm, Kd.R_lt h k hk.symm⟩⟩
theorem BK.below {w0 W W' : World} {lo hi : Nat} {A : Option Addr} {c : Nat} {l : List Int} (h : BK w0 W lo hi A c l) (hb : Below W.heap.size W W') : BK w0 W' lo hi A c l := ⟨Kd.R_below h.r hb, h.b⟩
theorem kept_below {w W : World} {S : Nat → Prop} (h : Below w.heap.size w W) : Kept w W S := ⟨h.size, fun i hi _ => h.block i hi⟩
def laws_toByteS.l0 : Nat → List Int → List Int → Int → Option (List Int)
 | 0, _, _, _ => none
 | k + 1, x0, x3, x4 => if x4 < (x0.length : Int) then (if 0 ≤ x4 then (if x4 < (x3.length : Int) then (laws_toByteS.l0 k x0 (x3.set (x4 : Int).toNat (rd x0 x4)) (wrap64 (x4 + 1))) else (none)) else (none)) else (some x3)
def laws_toByteS.f (k : Nat) (l0 : List Int) : Option (List Int) := if 0 ≤ (l0.length : Int) then (if ((l0.length : Int) : Int).toNat ≤ 281474976710656 then (laws_toByteS.l0 k l0 (List.replicate ((l0.length : Int) : Int).toNat 0) 0) else (none)) else (none)
set_option maxHeartbeats 8000000 in
set_option maxRecDepth 100000 in
theorem laws_toByteS.calls (k : Nat) (A0 : Option Addr) (c0 : Nat) (l0 : List Int) (r : List Int) (w : World) (hr0 : Kd.C (Kd.int .u8) w A0 l0.length l0) (hc0 : l0.length ≤ c0) (h : laws_toByteS.f k l0 = some r) :
  Calls Tryd.prog 10 #[.slice A0 l0.length c0] w fun e w' => ∃ v0_ : Value, e = .returned (v0_) ∧ Kd.R (Kd.int .u8) 5 w' w.heap.size (fun _ => True) v0_ r ∧ Below w.heap.size w w' := by
 have HR0 := Aside0.mk hr0
 have HC0 := Aside0.mk hc0
 clear hr0 hc0
 have HB := Aside0.mk (Below.refl w.heap.size w)
 have H : (if 0 ≤ (l0.length : Int) then (if ((l0.length : Int) : Int).toNat ≤ 281474976710656 then (laws_toByteS.l0 k l0 (List.replicate ((l0.length : Int) : Int).toNat 0) 0) else (none)) else (none)) = some r := h
 clear h
 by_cases c2 : 0 ≤ (l0.length : Int)
 ·
  rw [if_pos c2] at H
  have c2b0 := eq_true c2
  have c2b1 : decide (0 ≤ (l0.length : Int)) = true := decide_eq_true c2
  clear c2
  by_cases c3 : ((l0.length : Int) : Int).toNat ≤ 281474976710656
  ·
   rw [if_pos c3] at H
   have c3b0 := eq_true c3
   have c3b1 : decide (((l0.length : Int) : Int).toNat ≤ 281474976710656) = true := decide_eq_true c3
   clear c3
   obtain ⟨y116, hy116⟩ : ∃ y_ : List Int, y_ = (List.replicate ((l0.length : Int) : Int).toNat 0) := ⟨_, rfl⟩
   replace H : (laws_toByteS.l0 k l0 y116 0) = some r := by first | (rw [hy116]; with_reducible exact H) | (have H2_ := (Option.bind_some _ _).symm.trans H; rw [hy116]; with_reducible exact H2_) | (have H2_ := (Option.bind_some _ _).symm.trans H; with_reducible exact H2_) | with_reducible exact H | (rw [hy116]; exact H) | exact H
   have Ny116 := Aside0.mk hy116
   clear hy116
   have H' := Aside0.mk H
   clear H
   go_enter Tryd.func10, Tryd.ntmps10
   go_wp2_with (first | ((with_reducible refine gate_dst (N := 7) rfl ?_); refine Kd.R_make (Kd.int .u8) _ 5 rfl (N := 7) rfl 22 _ _ rfl (l0.length : Int) rfl rfl Tryd.underlying22 (.int .u8 0) 1 info5 rfl (by decide) (by omega) 0 (ok := fun _ => True) (okp := fun _ => True) rfl (fun _ hk => hk) trivial (of_decide_eq_true (by first | (with_reducible assumption) | assumption)) (Nat.le_trans (Nat.mul_le_mul_right _ (of_decide_eq_true (by first | (with_reducible assumption) | assumption) : (l0.length : Int).toNat ≤ 281474976710656)) (by omega)) (Below.refl _ _) (Nat.le_refl _) ?_; intro v117 w4 ho5 hb hg_ hnew_; clear hg_ hnew_; (first | rw [← Ny116.out] at ho5 | (simp only [Int.reduceToNat] at ho5; rw [← Ny116.out] at ho5)); have n0_ := Aside0.mk (Kd.R_lower ho5 (below_size (by repeat (first | (with_reducible first | exact HB.out | apply below_alloc | apply pw_below_drewN | apply below_drew1) | exact HB.out)))); have n1_ := Aside0.mk (below_step (by repeat (first | (with_reducible first | exact HB.out | apply below_alloc | apply pw_below_drewN | apply below_drew1) | exact HB.out)) hb); clear HB; have HO118 := n0_; have HB := n1_; clear n0_ n1_; clear hb ho5))
   go_loopg [4] k (fun kq v4 w' => ∃ (x3_1 : List Int) (x4_1 : Int), v4 = .int .i64 x4_1 ∧ Aside0 (laws_toByteS.l0 kq l0 x3_1 x4_1 = some r) ∧ Aside0 (kq ≤ k) ∧ Aside0 (Kd.R (Kd.int .u8) 5 w' w.heap.size (fun _ => True) v117 x3_1) ∧ Aside0 (Below w.heap.size w w'))
   case atStart => exact ⟨(y116), (0), (by first | rfl | (simp; done) | (simp [*]; done)), H', ⟨Nat.le_refl _⟩, ⟨by (with_reducible repeat (first | apply Kd.R_alloc | apply Kd.R_drewN | apply Kd.R_drew)); exact HO118.out⟩, ⟨by repeat (first | (with_reducible first | exact HB.out | apply below_alloc | apply pw_below_drewN | apply below_drew1) | exact HB.out)⟩⟩
   case round =>
    clear H'
    try clear c1
    try clear c2
    try clear c2b0
    try clear c2b1
    try clear p2
    try clear c3
    try clear c3b0
    try clear c3b1
    obtain ⟨x3_1, x4_1, rfl, HA, HK1, HO_3, HB⟩ := hrel
    cases gk with
    | zero => exact absurd HA.out (by simp [laws_toByteS.l0])
    | succ k1 =>
     have H := HA.out
     clear HA
     simp only [laws_toByteS.l0] at H
     by_cases c6 : x4_1 < (l0.length : Int)
     ·
      rw [if_pos c6] at H
      have c6b0 : decide (x4_1 < (l0.length : Int)) = true := decide_eq_true c6
      clear c6
      by_cases c7 : 0 ≤ x4_1
      ·
       rw [if_pos c7] at H
       have c7b0 : decide (0 ≤ x4_1) = true := decide_eq_true c7
       clear c7
       by_cases c8 : x4_1 < (x3_1.length : Int)
       ·
        rw [if_pos c8] at H
        have c8b0 : decide (x4_1 < (x3_1.length : Int)) = true := decide_eq_true c8
        clear c8
        obtain ⟨y120, hy120⟩ : ∃ y_ : List Int, y_ = (x3_1.set (x4_1 : Int).toNat (rd l0 x4_1)) := ⟨_, rfl⟩
        replace H : (laws_toByteS.l0 k1 l0 y120 (wrap64 (x4_1 + 1))) = some r := by first | (rw [hy120]; with_reducible exact H) | (have H2_ := (Option.bind_some _ _).symm.trans H; rw [hy120]; with_reducible exact H2_) | (have H2_ := (Option.bind_some _ _).symm.trans H; with_reducible exact H2_) | with_reducible exact H | (rw [hy120]; exact H) | exact H
        have Ny120 := Aside0.mk hy120
        clear hy120
        have H' := Aside0.mk H
        clear H
        have p119 : 0 ≤ (x4_1 : Int) := of_decide_eq_true (by first | (with_reducible assumption) | assumption)
        have q119 : x4_1 < (l0.length : Int) := of_decide_eq_true (by first | (with_reducible assumption) | assumption)
        obtain ⟨ad119, e119, hx119_0⟩ := Kd.at_int HR0.out x4_1 p119 q119
        cases e119
        replace hx119_0 := (HB.out.cell (World.block_lt_of_cell? w _ hx119_0)).trans hx119_0
        replace p119 := eq_true p119
        replace q119 := eq_true q119
        have p9 : 0 ≤ (x4_1 : Int) := of_decide_eq_true (by first | (with_reducible assumption) | assumption)
        have q9 : (x4_1 : Int) < ((x3_1.length : Int) : Int) := of_decide_eq_true (by first | (with_reducible assumption) | assumption)
        obtain ⟨go9, co9, eo9, gb9, gl9, cl9, HG9⟩ := Kd.R_form HO_3.out (by omega)
        (first | cases eo9 | (injection eo9 with ea_ en_ ec_; (first | subst ea_ | (injection ea_ with ea_; subst ea_)); subst ec_; clear en_))
        have GB9 := Aside0.mk gb9
        have GG9 := Aside0.mk HG9
        clear gb9 gl9 HG9
        obtain ⟨hx9_0, hf9_0⟩ := Kd.R_celln 0 HO_3.out (x4_1 : Int) p9 q9
        replace p9 := eq_true p9
        replace q9 := eq_true q9
        have HP10 := Kd.R_putg HO_3.out (x4_1 : Int) (rd l0 x4_1)
        go_wp2_with (first | ((with_reducible refine gate_store (t := 5) (p := 20) rfl ?_); refine store_event (t := 5) (p := 20) (v := ?vo_w11) (w1 := (wr.setCell ⟨go9, (x4_1 : Int).toNat, none⟩ (.int .u8 (rd l0 x4_1)))) ?hg ?ho ?hn ?hr ?_; (case ho => rfl); (case hg => rfl); (case hn => rfl); (case hr => first | (go_simp; done) | (go_simp; rfl)); intro w11 hw; have hg : wr.grownBy w11 (some go9) := (by rw [hw]; exact HP10.2); have hp_ : Kd.R (Kd.int .u8) 5 w11 w.heap.size (fun _ => True) (.slice (some ⟨go9, 0, none⟩) x3_1.length co9) y120 := (by rw [hw, Ny120.out]; exact HP10.1); clear HP10; have n0_ := Aside0.mk (hp_); have n1_ := Aside0.mk ((by rw [hw]; exact below_set (HB.out) GB9.out : Below w.heap.size w w11)); clear HO_3; clear HB; have HO_3 := n0_; have HB := n1_; clear n0_ n1_; clear hg hw hp_))
        go_roundg k1
        case measure => have := HK1.out; omega
        case rel => exact ⟨(y120), (wrap64 (x4_1 + 1)), (by first | rfl | (simp; done) | (simp [*]; done)), H', ⟨by have := HK1.out; omega⟩, ⟨by (with_reducible repeat (first | apply Kd.R_alloc | apply Kd.R_drewN | apply Kd.R_drew)); exact HO_3.out⟩, ⟨by repeat (first | (with_reducible first | exact HB.out | apply below_alloc | apply pw_below_drewN | apply below_drew1) | exact HB.out)⟩⟩
       ·
        rw [if_neg c8] at H
        exact absurd H (by simp)
      ·
       rw [if_neg c7] at H
       exact absurd H (by simp)
     ·
      rw [if_neg c6] at H
      have c6b0 : decide (x4_1 < (l0.length : Int)) = false := decide_eq_false c6
      clear c6
      obtain rfl := Option.some.inj H
      go_wp2
      go_ret
      exact ⟨_, by first | rfl | (simp [errW_none, errW_some] <;> rfl) | (simp [*, errW_none, errW_some] <;> rfl), by (with_reducible repeat (first | apply Kd.R_alloc | apply Kd.R_drewN | apply Kd.R_drew)); exact HO_3.out, by repeat (first | (with_reducible first | exact HB.out | apply below_alloc | apply pw_below_drewN | apply below_drew1) | exact HB.out)⟩
  ·
   rw [if_neg c3] at H
   exact absurd H (by simp)
 ·
  rw [if_neg c2] at H
  exact absurd H (by simp)
def laws_eqByteS.l0 : Nat → List Int → List Int → Int → Option (Bool)
 | 0, _, _, _ => none
 | k + 1, x0, x1, x5 => if x5 < (x0.length : Int) then (if 0 ≤ x5 then (if x5 < (x1.length : Int) then (if (rd x0 x5) = (rd x1 x5) then (laws_eqByteS.l0 k x0 x1 (wrap64 (x5 + 1))) else (some false)) else (none)) else (none)) else (some true)
def laws_eqByteS.f (k : Nat) (l0 : List Int) (l1 : List Int) : Option (Bool) := if (l0.length : Int) = (l1.length : Int) then (laws_eqByteS.l0 k l0 l1 0) else (some false)
set_option maxHeartbeats 8000000 in
set_option maxRecDepth 100000 in
theorem laws_eqByteS.calls (k : Nat) (A0 : Option Addr) (c0 : Nat) (l0 : List Int) (A1 : Option Addr) (c1 : Nat) (l1 : List Int) (r : Bool) (w : World) (hr0 : Kd.C (Kd.int .u8) w A0 l0.length l0) (hc0 : l0.length ≤ c0) (hr1 : Kd.C (Kd.int .u8) w A1 l1.length l1) (hc1 : l1.length ≤ c1) (h : laws_eqByteS.f k l0 l1 = some r) :
  Calls Tryd.prog 12 #[.slice A0 l0.length c0, .slice A1 l1.length c1] w fun e w' => e = .returned (.bool r) ∧ Drawn0 w w' := by
 have HR0 := Aside0.mk hr0
 have HC0 := Aside0.mk hc0
 clear hr0 hc0
 have HR1 := Aside0.mk hr1
 have HC1 := Aside0.mk hc1
 clear hr1 hc1
 have H : (if (l0.length : Int) = (l1.length : Int) then (laws_eqByteS.l0 k l0 l1 0) else (some false)) = some r := h
 clear h
 by_cases c3 : (l0.length : Int) = (l1.length : Int)
 ·
  rw [if_pos c3] at H
  have c3b0 : ((l0.length : Int) == (l1.length : Int)) = true := beq_iff_eq.mpr c3
  have c3b1 : ((l0.length : Int) != (l1.length : Int)) = false := bne_eq_false_iff_eq.mpr c3
  have c3b2 : (l0.length == l1.length) = true := by first | simpa using c3 | (simp at c3 ⊢; omega)
  clear c3
  have H' := Aside0.mk H
  clear H
  go_enter Tryd.func12, Tryd.ntmps12
  go_wp2
  repeat (go_quiet (fail); try go_wp2)
  go_loopg [5] k (fun kq v5 w' => ∃ (x5_1 : Int), v5 = .int .i64 x5_1 ∧ Aside0 (laws_eqByteS.l0 kq l0 l1 x5_1 = some r) ∧ Aside0 (kq ≤ k) ∧ Drawn0 w w')
  case atStart => exact ⟨(0), (by first | rfl | (simp; done) | (simp [*]; done)), H', ⟨Nat.le_refl _⟩, by repeat (first | exact Drawn0.refl _ | apply Drawn0.step)⟩
  case round =>
   clear H'
   try clear c1
   try clear p2
   try clear c3
   try clear c3b0
   try clear c3b1
   try clear c3b2
   obtain ⟨x5_1, rfl, HA, HK1, ⟨m1, rfl⟩⟩ := hrel
   cases gk with
   | zero => exact absurd HA.out (by simp [laws_eqByteS.l0])
   | succ k1 =>
    have H := HA.out
    clear HA
    simp only [laws_eqByteS.l0] at H
    by_cases c4 : x5_1 < (l0.length : Int)
    ·
     rw [if_pos c4] at H
     have c4b0 : decide (x5_1 < (l0.length : Int)) = true := decide_eq_true c4
     clear c4
     by_cases c5 : 0 ≤ x5_1
     ·
      rw [if_pos c5] at H
      have c5b0 : decide (0 ≤ x5_1) = true := decide_eq_true c5
      clear c5
      by_cases c6 : x5_1 < (l1.length : Int)
      ·
       rw [if_pos c6] at H
       have c6b0 : decide (x5_1 < (l1.length : Int)) = true := decide_eq_true c6
       clear c6
       by_cases c7 : (rd l0 x5_1) = (rd l1 x5_1)
       ·
        rw [if_pos c7] at H
        have c7b0 : ((rd l0 x5_1) == (rd l1 x5_1)) = true := beq_iff_eq.mpr c7
        have c7b1 : ((rd l0 x5_1) != (rd l1 x5_1)) = false := bne_eq_false_iff_eq.mpr c7
        clear c7
        have H' := Aside0.mk H
        clear H
        have p121 : 0 ≤ (x5_1 : Int) := of_decide_eq_true (by first | (with_reducible assumption) | assumption)
        have q121 : x5_1 < (l0.length : Int) := of_decide_eq_true (by first | (with_reducible assumption) | assumption)
        obtain ⟨ad121, e121, hx121_0⟩ := Kd.at_int HR0.out x5_1 p121 q121
        cases e121
        replace p121 := eq_true p121
        replace q121 := eq_true q121
        have p122 : 0 ≤ (x5_1 : Int) := of_decide_eq_true (by first | (with_reducible assumption) | assumption)
        have q122 : x5_1 < (l1.length : Int) := of_decide_eq_true (by first | (with_reducible assumption) | assumption)
        obtain ⟨ad122, e122, hx122_0⟩ := Kd.at_int HR1.out x5_1 p122 q122
        cases e122
        replace p122 := eq_true p122
        replace q122 := eq_true q122
        go_wp2
        repeat (go_quiet (fail); try go_wp2)
        go_roundg k1
        case measure => have := HK1.out; omega
        case rel => exact ⟨(wrap64 (x5_1 + 1)), (by first | rfl | (simp; done) | (simp [*]; done)), H', ⟨by have := HK1.out; omega⟩, by repeat (first | exact Drawn0.refl _ | apply Drawn0.step)⟩
       ·
        rw [if_neg c7] at H
        have c7b0 : ((rd l0 x5_1) == (rd l1 x5_1)) = false := beq_eq_false_iff_ne.mpr c7
        have c7b1 : ((rd l0 x5_1) != (rd l1 x5_1)) = true := bne_iff_ne.mpr c7
        obtain rfl := Option.some.inj H
        have p121 : 0 ≤ (x5_1 : Int) := of_decide_eq_true (by first | (with_reducible assumption) | assumption)
        have q121 : x5_1 < (l0.length : Int) := of_decide_eq_true (by first | (with_reducible assumption) | assumption)
        obtain ⟨ad121, e121, hx121_0⟩ := Kd.at_int HR0.out x5_1 p121 q121
        cases e121
        replace p121 := eq_true p121
        replace q121 := eq_true q121
        have p122 : 0 ≤ (x5_1 : Int) := of_decide_eq_true (by first | (with_reducible assumption) | assumption)
        have q122 : x5_1 < (l1.length : Int) := of_decide_eq_true (by first | (with_reducible assumption) | assumption)
        obtain ⟨ad122, e122, hx122_0⟩ := Kd.at_int HR1.out x5_1 p122 q122
        cases e122
        replace p122 := eq_true p122
        replace q122 := eq_true q122
        go_wp2
        repeat (go_quiet (fail); try go_wp2)
        go_ret
        exact ⟨by first | rfl | (simp; done) | (simp [*]; done), by repeat (first | exact Drawn0.refl _ | apply Drawn0.step)⟩
      ·
       rw [if_neg c6] at H
       exact absurd H (by simp)
     ·
      rw [if_neg c5] at H
      exact absurd H (by simp)
    ·
     rw [if_neg c4] at H
     have c4b0 : decide (x5_1 < (l0.length : Int)) = false := decide_eq_false c4
     clear c4
     obtain rfl := Option.some.inj H
     go_wp2
     repeat (go_quiet (fail); try go_wp2)
     go_ret
     exact ⟨by first | rfl | (simp; done) | (simp [*]; done), by repeat (first | exact Drawn0.refl _ | apply Drawn0.step)⟩
 ·
  rw [if_neg c3] at H
  have c3b0 : ((l0.length : Int) == (l1.length : Int)) = false := beq_eq_false_iff_ne.mpr c3
  have c3b1 : ((l0.length : Int) != (l1.length : Int)) = true := bne_iff_ne.mpr c3
  have c3b2 : (l0.length == l1.length) = false := by first | simpa using c3 | (simp at c3 ⊢; omega)
  obtain rfl := Option.some.inj H
  go_enter Tryd.func12, Tryd.ntmps12
  go_wp2
  repeat (go_quiet (fail); try go_wp2)
  go_ret
  exact ⟨by first | rfl | (simp; done) | (simp [*]; done), by repeat (first | exact Drawn0.refl _ | apply Drawn0.step)⟩
def laws_markByteS.l0 : Nat → List Int → Int → Int → Option (Int × List Int)
 | 0, _, _, _ => none
 | k + 1, x0, x1, x5 => if x5 < (x0.length : Int) then (if 0 ≤ x5 then (laws_markByteS.l0 k (x0.set (x5 : Int).toNat ((x1) % 256)) (wrap64 (x1 + 1)) (wrap64 (x5 + 1))) else (none)) else (some (x1, x0))
def laws_markByteS.f (k : Nat) (l0 : List Int) (a1 : Int) : Option (Int × List Int) := laws_markByteS.l0 k l0 a1 0
set_option maxHeartbeats 8000000 in
set_option maxRecDepth 100000 in
theorem laws_markByteS.calls (k : Nat) (P0_ : Nat → Prop) (u9000_ : Value) (l0 : List Int) (a1 : Int) (r1 : Int) (r2 : List Int) (w0 w : World) (hB : Below w0.heap.size w0 w) (ho0 : Kd.R (Kd.int .u8) 5 w w0.heap.size P0_ u9000_ l0) (h : laws_markByteS.f k l0 a1 = some (r1, r2)) :
  Calls Tryd.prog 26 #[u9000_, .int .i64 a1] w fun e w' => e = .returned (.int .i64 r1) ∧ Kd.R (Kd.int .u8) 5 w' w0.heap.size (fun k_ => (P0_ k_ ∨ w.heap.size ≤ k_)) u9000_ r2 ∧ Below w0.heap.size w0 w' ∧ Kept w w' (fun k_ => P0_ k_) := by
 have HO0 := Aside0.mk (show Kd.R (Kd.int .u8) 5 w w0.heap.size (fun k_ => (P0_ k_ ∨ w.heap.size ≤ k_)) u9000_ l0 from Kd.R_mono ho0 (fun k_ hk => (.inl hk)))
 have HK := Aside0.mk (Kept.refl w (fun k_ => P0_ k_))
 have HW0 := Aside0.mk hB.size
 have HB := Aside0.mk hB
 clear hB
 have H : (laws_markByteS.l0 k l0 a1 0) = some (r1, r2) := h
 clear h
 have H' := Aside0.mk H
 clear H
 go_enter Tryd.func26, Tryd.ntmps26
 go_wp2
 go_loopg [1, 5] k (fun kq v1 v5 w' => ∃ (x0_1 : List Int) (x1_1 : Int) (x5_1 : Int), v1 = .int .i64 x1_1 ∧ v5 = .int .i64 x5_1 ∧ Aside0 (laws_markByteS.l0 kq x0_1 x1_1 x5_1 = some (r1, r2)) ∧ Aside0 (kq ≤ k) ∧ Aside0 (Kd.R (Kd.int .u8) 5 w' w0.heap.size (fun k_ => (P0_ k_ ∨ w.heap.size ≤ k_)) u9000_ x0_1) ∧ Aside0 (Kept w w' (fun k_ => P0_ k_)) ∧ Aside0 (Below w0.heap.size w0 w'))
 case atStart => exact ⟨(l0), (a1), (0), (by first | rfl | (simp; done) | (simp [*]; done)), (by first | rfl | (simp; done) | (simp [*]; done)), H', ⟨Nat.le_refl _⟩, ⟨by (with_reducible repeat (first | apply Kd.R_alloc | apply Kd.R_drewN | apply Kd.R_drew)); exact HO0.out⟩, ⟨by repeat (first | (with_reducible first | exact HK.out | apply Kept.alloc | apply Kept.drewN | apply Kept.drew) | exact HK.out)⟩, ⟨by repeat (first | (with_reducible first | exact HB.out | apply below_alloc | apply pw_below_drewN | apply below_drew1) | exact HB.out)⟩⟩
 case round =>
  clear H'
  try clear c2
  try clear p2
  obtain ⟨x0_1, x1_1, x5_1, rfl, rfl, HA, HK1, HO_0, HK, HB⟩ := hrel
  cases gk with
  | zero => exact absurd HA.out (by simp [laws_markByteS.l0])
  | succ k1 =>
   have H := HA.out
   clear HA
   simp only [laws_markByteS.l0] at H
   by_cases c3 : x5_1 < (x0_1.length : Int)
   ·
    rw [if_pos c3] at H
    have c3b0 : decide (x5_1 < (x0_1.length : Int)) = true := decide_eq_true c3
    clear c3
    by_cases c4 : 0 ≤ x5_1
    ·
     rw [if_pos c4] at H
     have c4b0 : decide (0 ≤ x5_1) = true := decide_eq_true c4
     clear c4
     obtain ⟨y313, hy313⟩ : ∃ y_ : List Int, y_ = (x0_1.set (x5_1 : Int).toNat ((x1_1) % 256)) := ⟨_, rfl⟩
     replace H : (laws_markByteS.l0 k1 y313 (wrap64 (x1_1 + 1)) (wrap64 (x5_1 + 1))) = some (r1, r2) := by first | (rw [hy313]; with_reducible exact H) | (have H2_ := (Option.bind_some _ _).symm.trans H; rw [hy313]; with_reducible exact H2_) | (have H2_ := (Option.bind_some _ _).symm.trans H; with_reducible exact H2_) | with_reducible exact H | (rw [hy313]; exact H) | exact H
     have Ny313 := Aside0.mk hy313
     clear hy313
     have H' := Aside0.mk H
     clear H
     obtain ⟨Ao6, co6, eo6⟩ := Kd.R_slice HO_0.out
     subst eo6
     have p5 : 0 ≤ (x5_1 : Int) := of_decide_eq_true (by first | (with_reducible assumption) | assumption)
     have q5 : (x5_1 : Int) < ((x0_1.length : Int) : Int) := of_decide_eq_true (by first | (with_reducible assumption) | assumption)
     obtain ⟨go5, co5, eo5, gb5, gl5, cl5, HG5⟩ := Kd.R_form HO_0.out (by omega)
     (first | cases eo5 | (injection eo5 with ea_ en_ ec_; (first | subst ea_ | (injection ea_ with ea_; subst ea_)); subst ec_; clear en_))
     have GB5 := Aside0.mk gb5
     have GG5 := Aside0.mk HG5
     clear gb5 gl5 HG5
     have HMgo5 := Aside0.mk (show (P0_ go5 ∨ w.heap.size ≤ go5) from (HO_0.out.1 _ rfl))
     obtain ⟨hx5_0, hf5_0⟩ := Kd.R_celln 0 HO_0.out (x5_1 : Int) p5 q5
     replace p5 := eq_true p5
     replace q5 := eq_true q5
     have HP7 := Kd.R_putg HO_0.out (x5_1 : Int) ((x1_1) % 256)
     go_wp2_with (first | ((with_reducible refine gate_store (t := 5) (p := 16) rfl ?_); refine store_event (t := 5) (p := 16) (v := ?vo_w8) (w1 := (wr.setCell ⟨go5, (x5_1 : Int).toNat, none⟩ (.int .u8 ((x1_1) % 256)))) ?hg ?ho ?hn ?hr ?_; (case ho => rfl); (case hg => rfl); (case hn => rfl); (case hr => first | (go_simp; done) | (go_simp; rfl)); intro w8 hw; have hg : wr.grownBy w8 (some go5) := (by rw [hw]; exact HP7.2); have hp_ : Kd.R (Kd.int .u8) 5 w8 w0.heap.size (fun k_ => (P0_ k_ ∨ w.heap.size ≤ k_)) (.slice (some ⟨go5, 0, none⟩) x0_1.length co6) y313 := (by rw [hw, Ny313.out]; exact HP7.1); clear HP7; have n0_ := Aside0.mk (hp_); have n1_ := Aside0.mk ((by rw [hw]; exact below_set (HB.out) GB5.out : Below w0.heap.size w0 w8)); have n2_ := Aside0.mk (Kept.of_grown (S := (fun k_ => P0_ k_)) hg (by repeat (first | (with_reducible first | exact HK.out | apply Kept.alloc | apply Kept.drewN | apply Kept.drew) | exact HK.out)) (fun k_ e_ => (HO_0.out.1 k_ e_))); clear HO_0; clear HB; clear HK; have HO_0 := n0_; have HB := n1_; have HK := n2_; clear n0_ n1_ n2_; clear hg hw hp_))
     go_roundg k1
     case measure => have := HK1.out; omega
     case rel => exact ⟨(y313), (wrap64 (x1_1 + 1)), (wrap64 (x5_1 + 1)), (by first | rfl | (simp; done) | (simp [*]; done)), (by first | rfl | (simp; done) | (simp [*]; done)), H', ⟨by have := HK1.out; omega⟩, ⟨by (with_reducible repeat (first | apply Kd.R_alloc | apply Kd.R_drewN | apply Kd.R_drew)); exact HO_0.out⟩, ⟨by repeat (first | (with_reducible first | exact HK.out | apply Kept.alloc | apply Kept.drewN | apply Kept.drew) | exact HK.out)⟩, ⟨by repeat (first | (with_reducible first | exact HB.out | apply below_alloc | apply pw_below_drewN | apply below_drew1) | exact HB.out)⟩⟩
    ·
     rw [if_neg c4] at H
     exact absurd H (by simp)
   ·
    rw [if_neg c3] at H
    have c3b0 : decide (x5_1 < (x0_1.length : Int)) = false := decide_eq_false c3
    clear c3
    simp only [Option.some.injEq, Prod.mk.injEq] at H
    obtain ⟨rfl, rfl⟩ := H
    obtain ⟨Ao9, co9, eo9⟩ := Kd.R_slice HO_0.out
    subst eo9
    go_wp2
    go_ret
    exact ⟨by first | rfl | (simp [errW_none, errW_some] <;> rfl) | (simp [*, errW_none, errW_some] <;> rfl), by (with_reducible repeat (first | apply Kd.R_alloc | apply Kd.R_drewN | apply Kd.R_drew)); exact HO_0.out, by repeat (first | (with_reducible first | exact HB.out | apply below_alloc | apply pw_below_drewN | apply below_drew1) | exact HB.out), by repeat (first | (with_reducible first | exact HK.out | apply Kept.alloc | apply Kept.drewN | apply Kept.drew) | exact HK.out)⟩
def laws_heldByteS.l0 : Nat → List Int → Int → Int → Option (Int)
 | 0, _, _, _ => none
 | k + 1, x0, x1, x5 => if x5 < (x0.length : Int) then (if 0 ≤ x5 then (if (rd x0 x5) = ((x1) % 256) then (laws_heldByteS.l0 k x0 (wrap64 (x1 + 1)) (wrap64 (x5 + 1))) else (some (-1))) else (none)) else (some x1)
def laws_heldByteS.f (k : Nat) (l0 : List Int) (a1 : Int) : Option (Int) := laws_heldByteS.l0 k l0 a1 0
set_option maxHeartbeats 8000000 in
set_option maxRecDepth 100000 in
theorem laws_heldByteS.calls (k : Nat) (A0 : Option Addr) (c0 : Nat) (l0 : List Int) (a1 : Int) (r : Int) (w : World) (hr0 : Kd.C (Kd.int .u8) w A0 l0.length l0) (hc0 : l0.length ≤ c0) (h : laws_heldByteS.f k l0 a1 = some r) :
  Calls Tryd.prog 27 #[.slice A0 l0.length c0, .int .i64 a1] w fun e w' => e = .returned (.int .i64 r) ∧ Drawn0 w w' := by
 have HR0 := Aside0.mk hr0
 have HC0 := Aside0.mk hc0
 clear hr0 hc0
 have H : (laws_heldByteS.l0 k l0 a1 0) = some r := h
 clear h
 have H' := Aside0.mk H
 clear H
 go_enter Tryd.func27, Tryd.ntmps27
 go_wp2
 go_loopg [1, 5] k (fun kq v1 v5 w' => ∃ (x1_1 : Int) (x5_1 : Int), v1 = .int .i64 x1_1 ∧ v5 = .int .i64 x5_1 ∧ Aside0 (laws_heldByteS.l0 kq l0 x1_1 x5_1 = some r) ∧ Aside0 (kq ≤ k) ∧ Drawn0 w w')
 case atStart => exact ⟨(a1), (0), (by first | rfl | (simp; done) | (simp [*]; done)), (by first | rfl | (simp; done) | (simp [*]; done)), H', ⟨Nat.le_refl _⟩, by repeat (first | exact Drawn0.refl _ | apply Drawn0.step)⟩
 case round =>
  clear H'
  try clear c2
  try clear p2
  obtain ⟨x1_1, x5_1, rfl, rfl, HA, HK1, ⟨m1, rfl⟩⟩ := hrel
  cases gk with
  | zero => exact absurd HA.out (by simp [laws_heldByteS.l0])
  | succ k1 =>
   have H := HA.out
   clear HA
   simp only [laws_heldByteS.l0] at H
   by_cases c3 : x5_1 < (l0.length : Int)
   ·
    rw [if_pos c3] at H
    have c3b0 : decide (x5_1 < (l0.length : Int)) = true := decide_eq_true c3
    clear c3
    by_cases c4 : 0 ≤ x5_1
    ·
     rw [if_pos c4] at H
     have c4b0 : decide (0 ≤ x5_1) = true := decide_eq_true c4
     clear c4
     by_cases c5 : (rd l0 x5_1) = ((x1_1) % 256)
     ·
      rw [if_pos c5] at H
      have c5b0 : ((rd l0 x5_1) == ((x1_1) % 256)) = true := beq_iff_eq.mpr c5
      have c5b1 : ((rd l0 x5_1) != ((x1_1) % 256)) = false := bne_eq_false_iff_eq.mpr c5
      clear c5
      have H' := Aside0.mk H
      clear H
      have p467 : 0 ≤ (x5_1 : Int) := of_decide_eq_true (by first | (with_reducible assumption) | assumption)
      have q467 : x5_1 < (l0.length : Int) := of_decide_eq_true (by first | (with_reducible assumption) | assumption)
      obtain ⟨ad467, e467, hx467_0⟩ := Kd.at_int HR0.out x5_1 p467 q467
      cases e467
      replace p467 := eq_true p467
      replace q467 := eq_true q467
      go_wp2
      go_roundg k1
      case measure => have := HK1.out; omega
      case rel => exact ⟨(wrap64 (x1_1 + 1)), (wrap64 (x5_1 + 1)), (by first | rfl | (simp; done) | (simp [*]; done)), (by first | rfl | (simp; done) | (simp [*]; done)), H', ⟨by have := HK1.out; omega⟩, by repeat (first | exact Drawn0.refl _ | apply Drawn0.step)⟩
     ·
      rw [if_neg c5] at H
      have c5b0 : ((rd l0 x5_1) == ((x1_1) % 256)) = false := beq_eq_false_iff_ne.mpr c5
      have c5b1 : ((rd l0 x5_1) != ((x1_1) % 256)) = true := bne_iff_ne.mpr c5
      obtain rfl := Option.some.inj H
      have p467 : 0 ≤ (x5_1 : Int) := of_decide_eq_true (by first | (with_reducible assumption) | assumption)
      have q467 : x5_1 < (l0.length : Int) := of_decide_eq_true (by first | (with_reducible assumption) | assumption)
      obtain ⟨ad467, e467, hx467_0⟩ := Kd.at_int HR0.out x5_1 p467 q467
      cases e467
      replace p467 := eq_true p467
      replace q467 := eq_true q467
      go_wp2
      go_ret
      exact ⟨by first | rfl | (simp; done) | (simp [*]; done), by repeat (first | exact Drawn0.refl _ | apply Drawn0.step)⟩
    ·
     rw [if_neg c4] at H
     exact absurd H (by simp)
   ·
    rw [if_neg c3] at H
    have c3b0 : decide (x5_1 < (l0.length : Int)) = false := decide_eq_false c3
    clear c3
    obtain rfl := Option.some.inj H
    go_wp2
    go_ret
    exact ⟨by first | rfl | (simp; done) | (simp [*]; done), by repeat (first | exact Drawn0.refl _ | apply Drawn0.step)⟩
theorem wrap_up (i : Nat) (h : i ≤ 140737488355328) : wrap64 ((i : Int) + 1) = ((i + 1 : Nat) : Int) := by
 unfold wrap64; omega
theorem rd_nat (l : List Int) (i : Nat) : rd l (i : Int) = l.getD i 0 := by
 unfold rd; rw [Int.toNat_natCast]
theorem getD_at (l : List Int) (i : Nat) (h : i < l.length) : l.getD i 0 = l[i] := by
 rw [List.getD_eq_getElem?_getD, List.getElem?_eq_getElem h]; rfl
theorem toByteS_loop (l : List Int) (hl : l.length ≤ 140737488351232) (d : Nat) : ∀ (k i : Nat) (x : List Int), x.length = l.length → i + d = l.length → d < k →
  (∀ j, j < i → x[j]? = l[j]?) → laws_toByteS.l0 k l x (i : Int) = some l := by
 induction d with
 | zero =>
  intro k i x hx hi hk hj
  obtain ⟨k, rfl⟩ : ∃ m, k = m + 1 := ⟨k - 1, by omega⟩
  simp only [laws_toByteS.l0]
  rw [if_neg (by omega)]
  congr 1
  apply List.ext_getElem?
  intro j
  rcases Nat.lt_or_ge j i with h | h
  ·
   exact hj j h
  ·
   rw [List.getElem?_eq_none (by omega), List.getElem?_eq_none (by omega)]
 | succ d ih =>
  intro k i x hx hi hk hj
  obtain ⟨k, rfl⟩ : ∃ m, k = m + 1 := ⟨k - 1, by omega⟩
  simp only [laws_toByteS.l0]
  rw [if_pos (by omega), if_pos (by omega), if_pos (by omega), wrap_up i (by omega)]
  refine ih k (i + 1) _ (by rw [List.length_set]; exact hx) (by omega) (by omega) ?_
  intro j h
  rw [Int.toNat_natCast, List.getElem?_set]
  by_cases e : i = j
  ·
   subst e
   rw [if_pos rfl, if_pos (by omega), rd_nat, List.getD_eq_getElem?_getD, List.getElem?_eq_getElem (by omega)]
   rfl
  ·
   rw [if_neg e]
   exact hj j (by omega)
theorem toByteS_f (l : List Int) (hl : l.length ≤ 140737488351232) (k : Nat) (hk : l.length < k) : laws_toByteS.f k l = some l := by
 unfold laws_toByteS.f
 rw [if_pos (by omega), if_pos (by omega)]
 exact toByteS_loop l hl l.length k 0 _ (by rw [List.length_replicate]; omega) (by omega) hk (fun j h => absurd h (by omega))
theorem eqByteS_loop (l : List Int) (hl : l.length ≤ 140737488351232) (d : Nat) : ∀ (k i : Nat), i + d = l.length → d < k → laws_eqByteS.l0 k l l (i : Int) = some true := by
 induction d with
 | zero =>
  intro k i hi hk
  obtain ⟨k, rfl⟩ : ∃ m, k = m + 1 := ⟨k - 1, by omega⟩
  simp only [laws_eqByteS.l0]
  rw [if_neg (by omega)]
 | succ d ih =>
  intro k i hi hk
  obtain ⟨k, rfl⟩ : ∃ m, k = m + 1 := ⟨k - 1, by omega⟩
  simp only [laws_eqByteS.l0]
  rw [if_pos (by omega), if_pos (by omega), if_pos (by omega), if_pos trivial, wrap_up i (by omega)]
  exact ih k (i + 1) (by omega) (by omega)
theorem eqByteS_self (l : List Int) (hl : l.length ≤ 140737488351232) (k : Nat) (hk : l.length < k) : laws_eqByteS.f k l l = some true := by
 unfold laws_eqByteS.f
 rw [if_pos rfl]
 exact eqByteS_loop l hl l.length k 0 (by omega) hk
def marksB (n : Nat) (m : Nat) : List Int := (List.range n).map fun i => ((m + i : Nat) : Int) % 256
theorem marksB_length (n m : Nat) : (marksB n m).length = n := by simp [marksB]
theorem marksB_at (n m i : Nat) (h : i < n) : (marksB n m)[i]? = some (((m + i : Nat) : Int) % 256) := by simp [marksB, h]
theorem markByteS_loop (n m : Nat) (hm : m + n ≤ 140737488351232) (d : Nat) : ∀ (k i : Nat) (x : List Int), x.length = n → i + d = n → d < k → (∀ j, j < i → x[j]? = (marksB n m)[j]?) →
  laws_markByteS.l0 k x ((m + i : Nat) : Int) (i : Int) = some (((m + n : Nat) : Int), marksB n m) := by
 induction d with
 | zero =>
  intro k i x hx hi hk hj
  obtain ⟨k, rfl⟩ : ∃ m, k = m + 1 := ⟨k - 1, by omega⟩
  simp only [laws_markByteS.l0]
  rw [if_neg (by omega)]
  have e : x = marksB n m := by
   apply List.ext_getElem?
   intro j
   rcases Nat.lt_or_ge j i with h | h
   ·
    exact hj j h
   ·
    rw [List.getElem?_eq_none (by omega), List.getElem?_eq_none (by rw [marksB_length]; omega)]
  rw [e, show i = n by omega]
 | succ d ih =>
  intro k i x hx hi hk hj
  obtain ⟨k, rfl⟩ : ∃ m, k = m + 1 := ⟨k - 1, by omega⟩
  simp only [laws_markByteS.l0]
  rw [if_pos (by omega), if_pos (by omega), wrap_up i (by omega), wrap_up (m + i) (by omega)]
  refine ih k (i + 1) _ (by rw [List.length_set]; exact hx) (by omega) (by omega) ?_
  intro j h
  rw [Int.toNat_natCast, List.getElem?_set]
  by_cases e : i = j
  ·
   subst e
   rw [if_pos rfl, if_pos (by omega), marksB_at n m i (by omega)]
  ·
   rw [if_neg e]
   exact hj j (by omega)
theorem markByteS_f (l : List Int) (m : Nat) (hm : m + l.length ≤ 140737488351232) (k : Nat) (hk : l.length < k) : laws_markByteS.f k l (m : Int) = some (((m + l.length : Nat) : Int), marksB l.length m) := by
 unfold laws_markByteS.f
 exact markByteS_loop l.length m hm l.length k 0 l rfl (by omega) hk (fun j h => absurd h (by omega))
theorem heldByteS_loop (n m : Nat) (hm : m + n ≤ 140737488351232) (d : Nat) : ∀ (k i : Nat), i + d = n → d < k → laws_heldByteS.l0 k (marksB n m) ((m + i : Nat) : Int) (i : Int) = some (((m + n : Nat) : Int)) := by
 induction d with
 | zero =>
  intro k i hi hk
  obtain ⟨k, rfl⟩ : ∃ m, k = m + 1 := ⟨k - 1, by omega⟩
  simp only [laws_heldByteS.l0]
  rw [if_neg (by rw [marksB_length]; omega), show i = n by omega]
 | succ d ih =>
  intro k i hi hk
  obtain ⟨k, rfl⟩ : ∃ m, k = m + 1 := ⟨k - 1, by omega⟩
  simp only [laws_heldByteS.l0]
  have hr : rd (marksB n m) (i : Int) = ((m + i : Nat) : Int) % 256 := by
   rw [rd_nat, List.getD_eq_getElem?_getD, marksB_at n m i (by omega)]; rfl
  rw [if_pos (by rw [marksB_length]; omega), if_pos (by omega), if_pos hr, wrap_up i (by omega), wrap_up (m + i) (by omega)]
  exact ih k (i + 1) (by omega) (by omega)
theorem heldByteS_f (n m : Nat) (hm : m + n ≤ 140737488351232) (k : Nat) (hk : n < k) : laws_heldByteS.f k (marksB n m) (m : Int) = some (((m + n : Nat) : Int)) := by
 unfold laws_heldByteS.f
 exact heldByteS_loop n m hm n k 0 (by omega) hk
theorem readsNone {α : Type} {R : α → List Value → Prop} {size : Nat} {w : World} {n : Nat} {l : List α} (h : ReadsRow R size w none n l) : l = [] := by
 rcases Nat.eq_zero_or_pos n with h0 | h0
 ·
  exact List.eq_nil_of_length_eq_zero (by rw [h.1, h0])
 ·
  obtain ⟨ad, e, _⟩ := h.2.2 h0
  cases e
theorem lit_empty (w : World) : Kd.R (Kd.int .u8) 5 (w.alloc (.cells #[] 5)) w.heap.size (fun _ => True) (.slice (some ⟨w.heap.size, 0, none⟩) 0 0) [] :=
 ⟨fun _ _ => trivial, [], own_lit w w.heap.size 5 .u8 [] (Nat.le_refl _) (by decide), ⟨rfl, fun j p h => by simp at h⟩⟩
def bytes_Clone.f (l0 : List Int) : Option (List Int) := if l0.length < 140737488355328 then some l0 else none
set_option maxHeartbeats 400000 in
set_option maxRecDepth 100000 in
theorem bytes_Clone.calls (A0 : Option Addr) (c0 : Nat) (l0 : List Int) (r : List Int) (w : World) (hr0 : Kd.C (Kd.int .u8) w A0 l0.length l0) (hc0 : l0.length ≤ c0) (h : bytes_Clone.f l0 = some r) :
  Calls Tryd.prog 132 #[.slice A0 l0.length c0] w fun e w' => ∃ v0_ : Value, e = .returned (v0_) ∧ Kd.R (Kd.int .u8) 5 w' w.heap.size (fun _ => True) v0_ r ∧ Below w.heap.size w w' := by
 unfold bytes_Clone.f at h
 split at h
 case isFalse => cases h
 rename_i hl0
 have HL := Aside0.mk hl0
 clear hl0
 obtain rfl := Option.some.inj h
 clear h
 have HR := Aside0.mk hr0
 clear hr0
 have ke : ∀ (a : Option Addr) (n c : Nat) (W : World), (binOp .eql 22 (.slice a n c) (.slice none 0 0)).run Tryd.prog W = .ok (.bool a.isNone) W := fun a n c W => Lib.run_eql_slice_nil W 22 5 a n c 0 0 Tryd.underlying22
 rcases A0 with _ | ad
 ·
  obtain rfl := readsNone HR.out
  go_enter Tryd.func132, Tryd.ntmps132
  go_wp2_with fail
  go_ret
  exact ⟨_, rfl, Kd.R_nil _ _ _ _ _, Below.refl _ _⟩
 ·
  go_enter Tryd.func132, Tryd.ntmps132
  go_wp2_with ((with_reducible refine gate_builtin (b := .append) (xs := #[.tmp 5, .tmp 6]) rfl ?_); at_builtin; refine Kd.R_append_rows (Kd.int .u8) (w0 := w) w.heap.size rfl (.tmp 5) (.tmp 6) 22 5 (.int .u8 0) 1 rfl Tryd.underlying22 info5 rfl (by decide) (by omega) (.slice (some ⟨w.heap.size, 0, none⟩) 0 0) ([] : List Int) l0 _ _ _ (fun _ => True) (fun _ => False) rfl rfl (lit_empty w) (Kd.C_alloc HR.out _) (fun _ _ h => h) (fun _ h => h.elim) (fun _ _ => trivial) (below_alloc (Below.refl _ _) _) (below_size (below_alloc (Below.refl _ _) _)) (by have := HL.out; simp only [List.length_nil]; omega) ?_; intro v1 w1 ho hb hg hat)
  go_ret
  exact ⟨_, rfl, ho, hb⟩
structure UP (w0 W : World) (g : Nat) (l : List Int) (bad : Bool) : Prop where
 ex : ∃ A c, W.heap[g]? = some (.cells #[.slice A l.length c, .bool bad] 103 (0, 0)) ∧ l.length ≤ c ∧ Kd.C (Kd.int .u8) w0 A l.length l
 be : Below w0.heap.size w0 W
 hg : w0.heap.size ≤ g
theorem UP.below {w0 W W' : World} {g : Nat} {l : List Int} {bad : Bool} (h : UP w0 W g l bad) (hb : Below W.heap.size W W') : UP w0 W' g l bad := by
 obtain ⟨⟨A, c, hx, hc, hr⟩, hbe, hg⟩ := h
 exact ⟨⟨A, c, blk_below hx hb, hc, hr⟩, below_step hbe hb, hg⟩
theorem kept_setP (w : World) (g j : Nat) (v : Value) : Kept w (w.setCell ⟨g, j, none⟩ v) (fun k => k = g) := ⟨by simp [World.setCell], fun i hi hn => Below.heap_setCell w ⟨g, j, none⟩ v i hn⟩
theorem Kept.trans_ {a b c : World} {S : Nat → Prop} (h : Kept a b S) (k : Kept b c S) : Kept a c S := ⟨Nat.le_trans h.1 k.1, fun i hi hn => (k.2 i (Nat.lt_of_lt_of_le hi h.1) hn).trans (h.2 i hi hn)⟩
set_option maxHeartbeats 2000000 in
set_option maxRecDepth 100000 in
theorem unp_byte (w0 w : World) (g : Nat) (l : List Int) (bad : Bool) (HU : UP w0 w g l bad) :
  Calls Tryd.prog 109 #[.pointer (some ⟨g, 0, none⟩)] w fun e w' => e = .returned (.int .u8 (l.headD 0)) ∧ UP w0 w' g l.tail (bad || l.isEmpty) ∧ Kept w w' (fun k => k = g) := by
 obtain ⟨⟨A, c, hbox, hc, hr⟩, hbe, hgg⟩ := HU
 have z0 := blk_cell hbox 0
 have z1 := blk_cell hbox 1
 simp only [List.getElem?_toArray, List.getElem?_cons_zero, List.getElem?_cons_succ] at z0 z1
 have f0 := blk_frozen hbox 0
 have f1 := blk_frozen hbox 1
 have HX := Aside0.mk hbox
 have HB := Aside0.mk (And.intro hbe hgg)
 cases l with
 | nil =>
  have HR := Aside0.mk (And.intro hc hr)
  clear hbox hbe hgg hc hr
  simp only [List.length_nil] at z0
  go_enter Tryd.func109, Tryd.ntmps109
  go_wp2_with fail
  go_ret
  refine ⟨rfl, ⟨⟨A, c, ?_, HR.out.1, HR.out.2⟩, below_set HB.out.1 HB.out.2, HB.out.2⟩, kept_setP w g 1 _⟩
  rw [show (bad || ([] : List Int).isEmpty) = true by simp]
  exact blk_put HX.out 1 _ rfl
 | cons x r =>
  have hxx := (Kd.C_below hr hbe)
  obtain ⟨ad, rfl, hx⟩ := Kd.at_int hxx 0 (by omega) (by simp only [List.length_cons]; omega)
  obtain ⟨i0, hi0, _, hsz0, _⟩ := info_parts info5
  obtain ⟨A6, hcut6, hA6, hC6⟩ := print_drop_of (P := Tryd.prog) (Value.int .u8) 0 22 5 .i64 Tryd.underlying22 hi0 hsz0 (some ad) c (x :: r) 1 (by omega) (by simp only [List.length_cons]; omega) hc
  have HR := Aside0.mk (And.intro hC6 (Kd.C_of_reads (h1 := fun _ => rfl) (hA6 _ (Kd.reads_of_C hr))))
  have hrd : rd (x :: r) 0 = x := rfl
  rw [hrd] at hx
  replace hx : w.cell? ad = some (.int .u8 x) := hx
  have e1 : (x :: r).drop (1 : Int).toNat = r := rfl
  rw [e1] at hcut6 HR
  rw [show (1 : Int).toNat = 1 from rfl] at hcut6 HR
  have hln : decide (((x :: r).length : Int) = 0) = false := decide_eq_false (by simp only [List.length_cons]; omega)
  have hln2 : decide ((0 : Int) < ((x :: r).length : Int)) = true := decide_eq_true (by simp only [List.length_cons]; omega)
  generalize hL : (x :: r).length = L at *
  have hln3 : (0 : Int) < (L : Int) := by rw [← hL]; simp only [List.length_cons]; omega
  clear hbox hbe hgg hc hr hxx hrd hC6 hA6 hi0 hsz0
  go_enter Tryd.func109, Tryd.ntmps109
  go_wp2_with fail
  go_ret
  refine ⟨rfl, ⟨⟨A6, _, ?_, HR.out.1, HR.out.2⟩, below_set HB.out.1 HB.out.2, HB.out.2⟩, kept_setP w g 0 _⟩
  rw [show (bad || (x :: r).isEmpty) = bad by simp]
  exact blk_put HX.out 0 _ rfl
def numL : Nat → Nat → Int → List Int → Bool → Int × List Int × Bool
 | 0, _, _, l, _ => (0, l, true)
 | d + 1, i, v, l, bad => if l.headD 0 < 128 then (Go.bits .or .u64 v (IntKind.u64.wrap (IntKind.u64.wrap (Go.bits .and .u8 (l.headD 0) 127) * 2 ^ (7 * i))), l.tail, bad || l.isEmpty) else numL d (i + 1) (Go.bits .or .u64 v (IntKind.u64.wrap (IntKind.u64.wrap (Go.bits .and .u8 (l.headD 0) 127) * 2 ^ (7 * i)))) l.tail (bad || l.isEmpty)
set_option maxHeartbeats 2000000 in
set_option maxRecDepth 100000 in
theorem unp_number (w0 w : World) (g : Nat) (l : List Int) (bad : Bool) (HU : UP w0 w g l bad) :
  Calls Tryd.prog 69 #[.pointer (some ⟨g, 0, none⟩)] w fun e w' => e = .returned (.int .u64 (numL 10 0 0 l bad).1) ∧ UP w0 w' g (numL 10 0 0 l bad).2.1 (numL 10 0 0 l bad).2.2 ∧ Kept w w' (fun k => k = g) := by
 have HQ := Aside0.mk HU
 clear HU
 go_enter Tryd.func69, Tryd.ntmps69
 go_wp2
 go_loopw [3, 6] (fun v3 v6 wr => ∃ (v : Int) (i d : Nat) (lr : List Int) (bd : Bool), v3 = .int .u64 v ∧ v6 = .int .i64 i ∧ i + d = 10 ∧ Aside0 (numL d i v lr bd = numL 10 0 0 l bad) ∧ Aside0 (UP w0 wr g lr bd) ∧ Aside0 (Kept w wr (fun k => k = g))) (fun _ v6 _ => 10 - (intOf v6).toNat)
 case atStart => exact ⟨0, 0, 10, l, bad, rfl, rfl, rfl, ⟨rfl⟩, HQ, ⟨Kept.refl w _⟩⟩
 case round =>
  clear HQ
  obtain ⟨v, i, d, lr, bd, rfl, rfl, hid, HV, HQ, HK⟩ := hrel
  by_cases hlt : i < 10
  ·
   have hd1 : decide ((i : Int) < 10) = true := decide_eq_true (by omega)
   obtain ⟨d, rfl⟩ : ∃ q, d = q + 1 := ⟨d - 1, by omega⟩
   go_wp2_with fail
   refine (unp_byte w0 _ g lr bd HQ.out).mono ?_
   rintro e w1 ⟨rfl, h1, h2⟩
   have HQ1 := Aside0.mk h1
   have HK1 := Aside0.mk (Kept.trans_ HK.out h2)
   clear h1 h2 HK HQ
   have hw7 : wrap64 (7 * (i : Int)) = 7 * (i : Int) := by unfold wrap64; omega
   have hn7 : (0 : Int) ≤ 7 * (i : Int) := by omega
   by_cases hc : lr.headD 0 < 128
   ·
    have hd2 : decide (lr.headD 0 < 128) = true := decide_eq_true hc
    have HE := HV.out
    rw [numL, if_pos hc] at HE
    have HE' := Aside0.mk HE
    clear HE HV hc
    generalize lr.headD 0 = x at *
    go_wp2_with fail
    go_ret
    rw [← HE'.out]
    exact ⟨rfl, HQ1.out, HK1.out⟩
   ·
    have hd2 : decide (lr.headD 0 < 128) = false := decide_eq_false hc
    have HE := HV.out
    rw [numL, if_neg hc] at HE
    have HE' := Aside0.mk HE
    clear HE HV hc
    generalize lr.headD 0 = x at *
    go_wp2_with fail
    go_roundw
    case rel => exact ⟨_, i + 1, d, lr.tail, bd || lr.isEmpty, rfl, by go_num, by omega, HE', HQ1, HK1⟩
    case measure => simp [intOf]; omega
  ·
   have hd1 : decide ((i : Int) < 10) = false := decide_eq_false (by omega)
   obtain rfl : d = 0 := by omega
   obtain ⟨⟨A, c, hbox, hc, hr⟩, hbe, hgg⟩ := HQ.out
   have z1 := blk_cell hbox 1
   simp only [List.getElem?_toArray, List.getElem?_cons_zero, List.getElem?_cons_succ] at z1
   have f1 := blk_frozen hbox 1
   have HX := Aside0.mk hbox
   have HR := Aside0.mk (And.intro hc hr)
   have HB := Aside0.mk (And.intro hbe hgg)
   clear hbox hc hr hbe hgg
   go_wp2_with fail
   go_ret
   rw [← HV.out]
   exact ⟨rfl, ⟨⟨A, c, blk_put HX.out 1 _ rfl, HR.out.1, HR.out.2⟩, below_set HB.out.1 HB.out.2, HB.out.2⟩, Kept.trans_ HK.out (kept_setP _ g 1 _)⟩
theorem or_nonneg (a b : Int) : 0 ≤ Go.bits .or .u64 a b := by
 show 0 ≤ IntKind.u64.wrap _
 exact wrap_u64_nonneg _
theorem numL_nonneg : ∀ (d i : Nat) (v : Int) (l : List Int) (bad : Bool), 0 ≤ (numL d i v l bad).1
 | 0, _, _, _, _ => by simp [numL]
 | d + 1, i, v, l, bad => by
  unfold numL
  split
  ·
   exact or_nonneg _ _
  ·
   exact numL_nonneg d _ _ _ _
theorem numL_len : ∀ (d i : Nat) (v : Int) (l : List Int) (bad : Bool), (numL d i v l bad).2.1.length ≤ l.length
 | 0, _, _, _, _ => by simp [numL]
 | d + 1, i, v, l, bad => by
  unfold numL
  split
  ·
   simp
  ·
   have := numL_len d (i + 1) (Go.bits .or .u64 v (IntKind.u64.wrap (IntKind.u64.wrap (Go.bits .and .u8 (l.headD 0) 127) * 2 ^ (7 * i)))) l.tail (bad || l.isEmpty)
   simp only [List.length_tail] at this
   omega
def cntL (l : List Int) (bad : Bool) : Int × List Int × Bool := if ((numL 10 0 0 l bad).2.1.length : Int) < (numL 10 0 0 l bad).1 then (0, (numL 10 0 0 l bad).2.1, true) else numL 10 0 0 l bad
theorem cntL_range (l : List Int) (bad : Bool) : 0 ≤ (cntL l bad).1 ∧ (cntL l bad).1 ≤ ((cntL l bad).2.1.length : Int) := by
 have := numL_nonneg 10 0 0 l bad
 unfold cntL
 split
 ·
  simp
 ·
  omega
theorem cntL_len (l : List Int) (bad : Bool) : (cntL l bad).2.1.length ≤ l.length := by
 have := numL_len 10 0 0 l bad
 unfold cntL
 split <;> exact this
set_option maxHeartbeats 2000000 in
set_option maxRecDepth 100000 in
theorem unp_count (w0 w : World) (g : Nat) (l : List Int) (bad : Bool) (HU : UP w0 w g l bad) (hl : l.length ≤ 2097152) :
  Calls Tryd.prog 70 #[.pointer (some ⟨g, 0, none⟩)] w fun e w' => e = .returned (.int .i64 (cntL l bad).1) ∧ UP w0 w' g (cntL l bad).2.1 (cntL l bad).2.2 ∧ Kept w w' (fun k => k = g) := by
 have HQ := Aside0.mk HU
 have hn0 := numL_nonneg 10 0 0 l bad
 have hnl := Nat.le_trans (numL_len 10 0 0 l bad) hl
 have HC := Aside0.mk (show cntL l bad = if ((numL 10 0 0 l bad).2.1.length : Int) < (numL 10 0 0 l bad).1 then (0, (numL 10 0 0 l bad).2.1, true) else numL 10 0 0 l bad from rfl)
 clear HU hl
 go_enter Tryd.func70, Tryd.ntmps70
 go_wp2_with fail
 refine (unp_number w0 w g l bad HQ.out).mono ?_
 rintro e w1 ⟨rfl, h1, h2⟩
 rcases hq : numL 10 0 0 l bad with ⟨n, r, b⟩
 rw [hq] at h1 hn0 hnl HC
 simp only at h1 hn0 hnl HC
 have HK := Aside0.mk h2
 have HQ1 := Aside0.mk h1
 obtain ⟨⟨A, c, hbox, hc, hr⟩, hbe, hgg⟩ := h1
 have z0 := blk_cell hbox 0
 have z1 := blk_cell hbox 1
 simp only [List.getElem?_toArray, List.getElem?_cons_zero, List.getElem?_cons_succ] at z0 z1
 have f1 := blk_frozen hbox 1
 have HX := Aside0.mk hbox
 have HR := Aside0.mk (And.intro hc hr)
 have HB := Aside0.mk (And.intro hbe hgg)
 have hu := u64_idI (r.length : Int) (by omega) (by omega)
 have HN := Aside0.mk (And.intro hn0 hnl)
 clear hbox hc hr hbe hgg h2 hq HQ hn0 hnl
 by_cases hlt : (r.length : Int) < n
 ·
  have hd : decide ((r.length : Int) < n) = true := decide_eq_true hlt
  have HE := Aside0.mk (show cntL l bad = (0, r, true) by rw [HC.out, if_pos hlt])
  clear HC hlt
  go_wp2_with fail
  go_ret
  rw [HE.out]
  exact ⟨rfl, ⟨⟨A, c, blk_put HX.out 1 _ rfl, HR.out.1, HR.out.2⟩, below_set HB.out.1 HB.out.2, HB.out.2⟩, Kept.trans_ HK.out (kept_setP _ g 1 _)⟩
 ·
  have hd : decide ((r.length : Int) < n) = false := decide_eq_false hlt
  have HW := Aside0.mk (show wrap64 n = n by have := HN.out; clear hu; unfold wrap64; omega)
  have HE := Aside0.mk (show cntL l bad = (n, r, b) by rw [HC.out, if_neg hlt])
  clear HC hlt
  go_wp2_with fail
  go_ret
  rw [HE.out]
  exact ⟨congrArg (fun x => Ending.returned (Value.int .i64 x)) HW.out, HQ1.out, HK.out⟩
def txtL (l : List Int) (bad : Bool) : List Int × List Int × Bool := ((cntL l bad).2.1.take (cntL l bad).1.toNat, (cntL l bad).2.1.drop (cntL l bad).1.toNat, (cntL l bad).2.2)
theorem txtL_len (l : List Int) (bad : Bool) : (txtL l bad).1.length ≤ l.length ∧ (txtL l bad).2.1.length ≤ l.length := by
 have := cntL_len l bad
 unfold txtL
 simp only [List.length_take, List.length_drop]
 omega
set_option maxHeartbeats 2000000 in
set_option maxRecDepth 100000 in
theorem unp_text (w0 w : World) (g : Nat) (l : List Int) (bad : Bool) (HU : UP w0 w g l bad) (hl : l.length ≤ 2097152) :
  Calls Tryd.prog 110 #[.pointer (some ⟨g, 0, none⟩)] w fun e w' => ∃ v : Value, e = .returned v ∧ Kd.R (Kd.int .u8) 5 w' w.heap.size (fun _ => True) v (txtL l bad).1 ∧ UP w0 w' g (txtL l bad).2.1 (txtL l bad).2.2 ∧ Kept w w' (fun k => k = g) := by
 have HQ := Aside0.mk HU
 have hn0 := cntL_range l bad
 have hnl := Nat.le_trans (cntL_len l bad) hl
 have HC := Aside0.mk (show txtL l bad = ((cntL l bad).2.1.take (cntL l bad).1.toNat, (cntL l bad).2.1.drop (cntL l bad).1.toNat, (cntL l bad).2.2) from rfl)
 have HL := Aside0.mk hl
 clear HU hl
 go_enter Tryd.func110, Tryd.ntmps110
 go_wp2_with fail
 refine (unp_count w0 w g l bad HQ.out HL.out).mono ?_
 rintro e w1 ⟨rfl, h1, h2⟩
 rcases hq : cntL l bad with ⟨n, r, b⟩
 rw [hq] at h1 hn0 hnl HC
 simp only at h1 hn0 hnl HC
 obtain ⟨hn0, hn1⟩ := hn0
 have HK := Aside0.mk h2
 obtain ⟨⟨A, c, hbox, hc, hr⟩, hbe, hgg⟩ := h1
 have z0 := blk_cell hbox 0
 simp only [List.getElem?_toArray, List.getElem?_cons_zero, List.getElem?_cons_succ] at z0
 have hrr := Kd.C_below hr hbe
 obtain ⟨i0, hi0, _, hsz0, _⟩ := info_parts info5
 obtain ⟨hcut1, hA1, hC1⟩ := print_take_of (P := Tryd.prog) (Value.int .u8) 0 22 5 .i64 Tryd.underlying22 hi0 hsz0 A c r n hn0 hn1 hc
 obtain ⟨A6, hcut6, hA6, hC6⟩ := print_drop_of (P := Tryd.prog) (Value.int .u8) 0 22 5 .i64 Tryd.underlying22 hi0 hsz0 A c r n hn0 hn1 hc
 have HT := Aside0.mk (And.intro (Kd.C_of_reads (h1 := fun _ => rfl) (hA1 _ (Kd.reads_of_C hrr))) hC1)
 have HD := Aside0.mk (And.intro hC6 (Kd.C_of_reads (h1 := fun _ => rfl) (hA6 _ (Kd.reads_of_C hr))))
 have htl : (r.take n.toNat).length ≤ 2097152 := by rw [List.length_take]; omega
 have HTL := Aside0.mk htl
 have HX := Aside0.mk hbox
 have HB := Aside0.mk (And.intro hbe hgg)
 generalize r.take n.toNat = t at *
 generalize r.drop n.toNat = q at *
 clear hbox hc hr hrr hbe hgg h2 hq HQ hn0 hn1 hnl htl hA1 hC1 hA6 hC6 hi0 hsz0
 go_wp2_with fail
 refine (bytes_Clone.calls A c t t w1 HT.out.1 HT.out.2 (by unfold bytes_Clone.f; rw [if_pos (by have := HTL.out; omega)])).mono ?_
 rintro e w2 ⟨v, rfl, hv, hb⟩
 have HV := Aside0.mk (Kd.R_lower hv HK.out.1)
 obtain ⟨B, d, rfl⟩ := Kd.R_slice hv
 have HX2 := Aside0.mk (blk_below HX.out hb)
 have HB2 := Aside0.mk (below_step HB.out.1 hb)
 have HK2 := Aside0.mk (Kept.trans_ HK.out (Kept.of_below hb _))
 clear z0 hv hb HX
 have z0 := blk_cell HX2.out 0
 simp only [List.getElem?_toArray, List.getElem?_cons_zero, List.getElem?_cons_succ] at z0
 have f0 := blk_frozen HX2.out 0
 go_wp2_with fail
 go_ret
 rw [HC.out]
 exact ⟨_, rfl, Kd.R_set HV.out HX2.out (by decide) 0 _, ⟨⟨A6, _, blk_put HX2.out 0 _ rfl, HD.out.1, HD.out.2⟩, below_set HB2.out HB.out.2, HB.out.2⟩, Kept.trans_ HK2.out (kept_setP _ g 0 _)⟩
def spec_l3readByte.f (l0 : List Int) (a1 : Int) : Option (Int × Int) := if a1 < 0 then (some (0, (-1))) else (if a1 ≥ (l0.length : Int) then (some (0, (-1))) else (if 0 ≤ a1 then (if a1 < (l0.length : Int) then (some (wrap64 (rd l0 a1), wrap64 (a1 + 1))) else (none)) else (none)))
set_option maxHeartbeats 8000000 in
set_option maxRecDepth 100000 in
theorem spec_l3readByte.calls (A0 : Option Addr) (c0 : Nat) (l0 : List Int) (a1 : Int) (r1 : Int) (r2 : Int) (w : World) (hr0 : Kd.C (Kd.int .u8) w A0 l0.length l0) (hc0 : l0.length ≤ c0) (h : spec_l3readByte.f l0 a1 = some (r1, r2)) :
  Calls Tryd.prog 67 #[.slice A0 l0.length c0, .int .i64 a1] w fun e w' => e = .returned (.tuple #[.int .i64 r1, .int .i64 r2]) ∧ Drawn0 w w' := by
 have HR0 := Aside0.mk hr0
 have HC0 := Aside0.mk hc0
 clear hr0 hc0
 have H : (if a1 < 0 then (some (0, (-1))) else (if a1 ≥ (l0.length : Int) then (some (0, (-1))) else (if 0 ≤ a1 then (if a1 < (l0.length : Int) then (some (wrap64 (rd l0 a1), wrap64 (a1 + 1))) else (none)) else (none)))) = some (r1, r2) := h
 clear h
 by_cases c3 : a1 < 0
 ·
  rw [if_pos c3] at H
  have c3b0 : decide (a1 < 0) = true := decide_eq_true c3
  clear c3
  simp only [Option.some.injEq, Prod.mk.injEq] at H
  obtain ⟨rfl, rfl⟩ := H
  go_enter Tryd.func67, Tryd.ntmps67
  go_wp2
  go_ret2
  exact ⟨by first | rfl | (simp; done) | (simp [*]; done), by repeat (first | exact Drawn0.refl _ | apply Drawn0.step)⟩
 ·
  rw [if_neg c3] at H
  have c3b0 : decide (a1 < 0) = false := decide_eq_false c3
  clear c3
  by_cases c4 : a1 ≥ (l0.length : Int)
  ·
   rw [if_pos c4] at H
   have c4b0 : decide ((l0.length : Int) ≤ a1) = true := decide_eq_true c4
   clear c4
   simp only [Option.some.injEq, Prod.mk.injEq] at H
   obtain ⟨rfl, rfl⟩ := H
   go_enter Tryd.func67, Tryd.ntmps67
   go_wp2
   go_ret2
   exact ⟨by first | rfl | (simp; done) | (simp [*]; done), by repeat (first | exact Drawn0.refl _ | apply Drawn0.step)⟩
  ·
   rw [if_neg c4] at H
   have c4b0 : decide ((l0.length : Int) ≤ a1) = false := decide_eq_false c4
   clear c4
   by_cases c5 : 0 ≤ a1
   ·
    rw [if_pos c5] at H
    have c5b0 : decide (0 ≤ a1) = true := decide_eq_true c5
    clear c5
    by_cases c6 : a1 < (l0.length : Int)
    ·
     rw [if_pos c6] at H
     have c6b0 : decide (a1 < (l0.length : Int)) = true := decide_eq_true c6
     clear c6
     simp only [Option.some.injEq, Prod.mk.injEq] at H
     obtain ⟨rfl, rfl⟩ := H
     have p504 : 0 ≤ (a1 : Int) := of_decide_eq_true (by first | (with_reducible assumption) | assumption)
     have q504 : a1 < (l0.length : Int) := of_decide_eq_true (by first | (with_reducible assumption) | assumption)
     obtain ⟨ad504, e504, hx504_0⟩ := Kd.at_int HR0.out a1 p504 q504
     cases e504
     replace p504 := eq_true p504
     replace q504 := eq_true q504
     go_enter Tryd.func67, Tryd.ntmps67
     go_wp2
     go_ret2
     exact ⟨by first | rfl | (simp; done) | (simp [*]; done), by repeat (first | exact Drawn0.refl _ | apply Drawn0.step)⟩
    ·
     rw [if_neg c6] at H
     exact absurd H (by simp)
   ·
    rw [if_neg c5] at H
    exact absurd H (by simp)
mutual
def spec_l3readVar.l0 : Nat → List Int → Int → Int → Int → Option (Int × Int)
  | 0, _, _, _, _ => none
  | k + 1, x0, x1, x6, x7 => if x7 < 10 then (if x1 < 0 then (spec_l3readVar.j1 k x0 x1 x6 x7 true) else (spec_l3readVar.j1 k x0 x1 x6 x7 (decide ((wrap64 (x1 + x7)) ≥ (x0.length : Int))))) else (some (0, (-1)))
def spec_l3readVar.j1 : Nat → List Int → Int → Int → Int → Bool → Option (Int × Int)
  | 0, _, _, _, _, _ => none
  | k + 1, x0, x1, x6, x7, x22 => if x22 = true then (some (0, (-1))) else (if 0 ≤ (wrap64 (x1 + x7)) then (if (wrap64 (x1 + x7)) < (x0.length : Int) then (if 0 ≤ (IntKind.u64.wrap (wrap64 (7 * x7))) then (if (rd x0 (wrap64 (x1 + x7))) < 128 then (some (Go.bits .or .u64 x6 (shl .u64 (IntKind.u64.wrap (Int.tmod (rd x0 (wrap64 (x1 + x7))) 128)) (IntKind.u64.wrap (wrap64 (7 * x7)))), wrap64 ((wrap64 (x1 + x7)) + 1))) else (spec_l3readVar.l0 k x0 x1 (Go.bits .or .u64 x6 (shl .u64 (IntKind.u64.wrap (Int.tmod (rd x0 (wrap64 (x1 + x7))) 128)) (IntKind.u64.wrap (wrap64 (7 * x7))))) (wrap64 (x7 + 1)))) else (none)) else (none)) else (none))
end
def spec_l3readVar.f (k : Nat) (l0 : List Int) (a1 : Int) : Option (Int × Int) := spec_l3readVar.l0 k l0 a1 0 0
set_option maxHeartbeats 8000000 in
set_option maxRecDepth 100000 in
theorem spec_l3readVar.calls (k : Nat) (A0 : Option Addr) (c0 : Nat) (l0 : List Int) (a1 : Int) (r1 : Int) (r2 : Int) (w : World) (hr0 : Kd.C (Kd.int .u8) w A0 l0.length l0) (hc0 : l0.length ≤ c0) (h : spec_l3readVar.f k l0 a1 = some (r1, r2)) :
  Calls Tryd.prog 65 #[.slice A0 l0.length c0, .int .i64 a1] w fun e w' => e = .returned (.tuple #[.int .u64 r1, .int .i64 r2]) ∧ Drawn0 w w' := by
 have HR0 := Aside0.mk hr0
 have HC0 := Aside0.mk hc0
 clear hr0 hc0
 have H : (spec_l3readVar.l0 k l0 a1 0 0) = some (r1, r2) := h
 clear h
 have H' := Aside0.mk H
 clear H
 go_enter Tryd.func65, Tryd.ntmps65
 go_wp2
 go_loopg [6, 7] k (fun kq v6 v7 w' => ∃ (x6_1 : Int) (x7_1 : Int), v6 = .int .u64 x6_1 ∧ v7 = .int .i64 x7_1 ∧ Aside0 (spec_l3readVar.l0 kq l0 a1 x6_1 x7_1 = some (r1, r2)) ∧ Aside0 (kq ≤ k) ∧ Drawn0 w w')
 case atStart => exact ⟨(0), (0), (by first | rfl | (simp; done) | (simp [*]; done)), (by first | rfl | (simp; done) | (simp [*]; done)), H', ⟨Nat.le_refl _⟩, by repeat (first | exact Drawn0.refl _ | apply Drawn0.step)⟩
 case round =>
  clear H'
  try clear p2
  obtain ⟨x6_1, x7_1, rfl, rfl, HA, HK1, ⟨m1, rfl⟩⟩ := hrel
  cases gk with
  | zero => exact absurd HA.out (by simp [spec_l3readVar.l0])
  | succ k1 =>
   have H := HA.out
   clear HA
   simp only [spec_l3readVar.l0] at H
   by_cases c3 : x7_1 < 10
   ·
    rw [if_pos c3] at H
    have c3b0 : decide (x7_1 < 10) = true := decide_eq_true c3
    clear c3
    have HC4 := Aside0.mk H
    clear H
    go_upto_region 5 with (fail)
    go_cut [22] (fun v22 wc => ∃ (kq : Nat) (x22_3 : Bool), v22 = .bool x22_3 ∧ Aside0 (spec_l3readVar.j1 kq l0 a1 x6_1 x7_1 x22_3 = some (r1, r2)) ∧ Aside0 (kq ≤ k1) ∧ Drawn0 w wc)
    case first =>
     have H := HC4.out
     clear HC4
     by_cases c5 : a1 < 0
     ·
      rw [if_pos c5] at H
      have c5b0 : decide (a1 < 0) = true := decide_eq_true c5
      clear c5
      (first | rw [c5b0] | (simp only [i64_w, i32_w]; rw [c5b0]) | skip)
      have H' := Aside0.mk H
      clear H
      go_wp2
      go_meet
      case rel => exact ⟨_, (true), (by first | rfl | (simp; done) | (simp [*]; done)), H', ⟨by have := HK1.out; first | omega | exact Nat.le_refl _⟩, by repeat (first | exact Drawn0.refl _ | apply Drawn0.step)⟩
     ·
      rw [if_neg c5] at H
      have c5b0 : decide (a1 < 0) = false := decide_eq_false c5
      clear c5
      (first | rw [c5b0] | (simp only [i64_w, i32_w]; rw [c5b0]) | skip)
      have H' := Aside0.mk H
      clear H
      go_wp2
      go_meet
      case rel => exact ⟨_, (decide ((wrap64 (a1 + x7_1)) ≥ (l0.length : Int))), (by first | rfl | (simp; done) | (simp [*]; done)), H', ⟨by have := HK1.out; first | omega | exact Nat.le_refl _⟩, by repeat (first | exact Drawn0.refl _ | apply Drawn0.step)⟩
    case rest =>
     clear HC4
     try clear p2
     try clear c3
     try clear c3b0
     try clear c5
     try clear c5b0
     try clear p2
     obtain ⟨kq, x22_3, rfl, HA, HJ3, ⟨mc3, rfl⟩⟩ := hcut
     cases kq with
     | zero => exact absurd HA.out (by simp [spec_l3readVar.j1])
     | succ kj3 =>
      have H := HA.out
      clear HA
      simp only [spec_l3readVar.j1] at H
      by_cases c6 : x22_3 = true
      ·
       subst c6
       have H1 : (some (0, (-1))) = some (r1, r2) := by first | rfl | (rw [if_pos rfl] at H; exact H)
       clear H
       have H := H1
       clear H1
       simp only [Option.some.injEq, Prod.mk.injEq] at H
       obtain ⟨rfl, rfl⟩ := H
       go_wp2
       go_ret2
       exact ⟨by first | rfl | (simp; done) | (simp [*]; done), by repeat (first | exact Drawn0.refl _ | apply Drawn0.step)⟩
      ·
       replace c6 := Bool.eq_false_iff.mpr c6
       subst c6
       have H1 : (if 0 ≤ (wrap64 (a1 + x7_1)) then (if (wrap64 (a1 + x7_1)) < (l0.length : Int) then (if 0 ≤ (IntKind.u64.wrap (wrap64 (7 * x7_1))) then (if (rd l0 (wrap64 (a1 + x7_1))) < 128 then (some (Go.bits .or .u64 x6_1 (shl .u64 (IntKind.u64.wrap (Int.tmod (rd l0 (wrap64 (a1 + x7_1))) 128)) (IntKind.u64.wrap (wrap64 (7 * x7_1)))), wrap64 ((wrap64 (a1 + x7_1)) + 1))) else (spec_l3readVar.l0 kj3 l0 a1 (Go.bits .or .u64 x6_1 (shl .u64 (IntKind.u64.wrap (Int.tmod (rd l0 (wrap64 (a1 + x7_1))) 128)) (IntKind.u64.wrap (wrap64 (7 * x7_1))))) (wrap64 (x7_1 + 1)))) else (none)) else (none)) else (none)) = some (r1, r2) := by first | rfl | (rw [if_neg (show ¬ (false = true) by decide)] at H; exact H)
       clear H
       have H := H1
       clear H1
       obtain ⟨ji7, hji7⟩ : ∃ j_ : Int, (wrap64 (a1 + x7_1)) = j_ := ⟨_, rfl⟩
       replace H : (if 0 ≤ (ji7) then (if (ji7) < (l0.length : Int) then (if 0 ≤ (IntKind.u64.wrap (wrap64 (7 * x7_1))) then (if (rd l0 (ji7)) < 128 then (some (Go.bits .or .u64 x6_1 (shl .u64 (IntKind.u64.wrap (Int.tmod (rd l0 (ji7)) 128)) (IntKind.u64.wrap (wrap64 (7 * x7_1)))), wrap64 ((ji7) + 1))) else (spec_l3readVar.l0 kj3 l0 a1 (Go.bits .or .u64 x6_1 (shl .u64 (IntKind.u64.wrap (Int.tmod (rd l0 (ji7)) 128)) (IntKind.u64.wrap (wrap64 (7 * x7_1))))) (wrap64 (x7_1 + 1)))) else (none)) else (none)) else (none)) = some (r1, r2) := by first | (rw [hji7] at H; exact H) | (simp only [hji7] at H ⊢; exact H)
       have hji7w : (IntKind.i64.wrap (a1 + x7_1)) = ji7 := (i64_w _).trans hji7
       by_cases c8 : 0 ≤ (ji7)
       ·
        rw [if_pos c8] at H
        have c8b0 : decide (0 ≤ (ji7)) = true := decide_eq_true c8
        clear c8
        by_cases c9 : (ji7) < (l0.length : Int)
        ·
         rw [if_pos c9] at H
         have c9b0 : decide ((ji7) < (l0.length : Int)) = true := decide_eq_true c9
         clear c9
         obtain ⟨ji10, hji10⟩ : ∃ j_ : Int, (IntKind.u64.wrap (wrap64 (7 * x7_1))) = j_ := ⟨_, rfl⟩
         replace H : (if 0 ≤ (ji10) then (if (rd l0 (ji7)) < 128 then (some (Go.bits .or .u64 x6_1 (shl .u64 (IntKind.u64.wrap (Int.tmod (rd l0 (ji7)) 128)) (ji10)), wrap64 ((ji7) + 1))) else (spec_l3readVar.l0 kj3 l0 a1 (Go.bits .or .u64 x6_1 (shl .u64 (IntKind.u64.wrap (Int.tmod (rd l0 (ji7)) 128)) (ji10))) (wrap64 (x7_1 + 1)))) else (none)) = some (r1, r2) := by first | (rw [hji10] at H; exact H) | (simp only [hji10] at H ⊢; exact H)
         by_cases c11 : 0 ≤ (ji10)
         ·
          rw [if_pos c11] at H
          have c11b0 := eq_true c11
          have c11b1 : decide (0 ≤ (ji10)) = true := decide_eq_true c11
          clear c11
          obtain ⟨ji12, hji12⟩ : ∃ j_ : Int, (shl .u64 (IntKind.u64.wrap (Int.tmod (rd l0 (ji7)) 128)) (ji10)) = j_ := ⟨_, rfl⟩
          replace H : (if (rd l0 (ji7)) < 128 then (some (Go.bits .or .u64 x6_1 (ji12), wrap64 ((ji7) + 1))) else (spec_l3readVar.l0 kj3 l0 a1 (Go.bits .or .u64 x6_1 (ji12)) (wrap64 (x7_1 + 1)))) = some (r1, r2) := by first | (rw [hji12] at H; exact H) | (simp only [hji12] at H ⊢; exact H)
          have hji12_ : (IntKind.u64.wrap ((IntKind.u64.wrap (Int.tmod (rd l0 (ji7)) 128)) * 2 ^ min (ji10).toNat 64)) = ji12 := hji12
          have hji12z : (ji10) ≤ 64 → (IntKind.u64.wrap ((IntKind.u64.wrap (Int.tmod (rd l0 (ji7)) 128)) * 2 ^ (ji10).toNat)) = ji12 := shl_small hji12
          by_cases c13 : (rd l0 (ji7)) < 128
          ·
           rw [if_pos c13] at H
           have c13b0 : decide ((rd l0 (ji7)) < 128) = true := decide_eq_true c13
           clear c13
           simp only [Option.some.injEq, Prod.mk.injEq] at H
           obtain ⟨rfl, rfl⟩ := H
           have p494 : 0 ≤ ((ji7) : Int) := of_decide_eq_true (by first | (with_reducible assumption) | assumption)
           have q494 : (ji7) < (l0.length : Int) := of_decide_eq_true (by first | (with_reducible assumption) | assumption)
           obtain ⟨ad494, e494, hx494_0⟩ := Kd.at_int HR0.out (ji7) p494 q494
           cases e494
           replace p494 := eq_true p494
           replace q494 := eq_true q494
           go_wp2
           go_ret2
           exact ⟨by first | rfl | (simp; done) | (simp only [← hji7, ← hji10, ← hji12] <;> (first | rfl | simp)) | (simp [*]; done), by repeat (first | exact Drawn0.refl _ | apply Drawn0.step)⟩
          ·
           rw [if_neg c13] at H
           have c13b0 : decide ((rd l0 (ji7)) < 128) = false := decide_eq_false c13
           clear c13
           have H' := Aside0.mk H
           clear H
           have p494 : 0 ≤ ((ji7) : Int) := of_decide_eq_true (by first | (with_reducible assumption) | assumption)
           have q494 : (ji7) < (l0.length : Int) := of_decide_eq_true (by first | (with_reducible assumption) | assumption)
           obtain ⟨ad494, e494, hx494_0⟩ := Kd.at_int HR0.out (ji7) p494 q494
           cases e494
           replace p494 := eq_true p494
           replace q494 := eq_true q494
           go_wp2
           go_roundg kj3
           case measure => have := HK1.out; have := HJ3.out; omega
           case rel => exact ⟨(Go.bits .or .u64 x6_1 (ji12)), (wrap64 (x7_1 + 1)), (by first | rfl | (simp; done) | (simp only [← hji12] <;> (first | rfl | simp)) | (simp [*]; done)), (by first | rfl | (simp; done) | (simp [*]; done)), H', ⟨by have := HK1.out; have := HJ3.out; omega⟩, by repeat (first | exact Drawn0.refl _ | apply Drawn0.step)⟩
         ·
          rw [if_neg c11] at H
          exact absurd H (by simp)
        ·
         rw [if_neg c9] at H
         exact absurd H (by simp)
       ·
        rw [if_neg c8] at H
        exact absurd H (by simp)
   ·
    rw [if_neg c3] at H
    have c3b0 : decide (x7_1 < 10) = false := decide_eq_false c3
    clear c3
    simp only [Option.some.injEq, Prod.mk.injEq] at H
    obtain ⟨rfl, rfl⟩ := H
    go_wp2
    go_ret2
    exact ⟨by first | rfl | (simp; done) | (simp [*]; done), by repeat (first | exact Drawn0.refl _ | apply Drawn0.step)⟩
def spec_l1copy.f (l0 : List Int) : Option (List Int) := if ([] : List Int).length + l0.length < 140737488355328 then (some (([] : List Int) ++ l0)) else (none)
set_option maxHeartbeats 8000000 in
set_option maxRecDepth 100000 in
theorem spec_l1copy.calls (A0 : Option Addr) (c0 : Nat) (l0 : List Int) (r : List Int) (w : World) (hr0 : Kd.C (Kd.int .u8) w A0 l0.length l0) (hc0 : l0.length ≤ c0) (h : spec_l1copy.f l0 = some r) :
  Calls Tryd.prog 108 #[.slice A0 l0.length c0] w fun e w' => ∃ v0_ : Value, e = .returned (v0_) ∧ Kd.R (Kd.int .u8) 5 w' w.heap.size (fun _ => True) v0_ r ∧ Below w.heap.size w w' := by
 have HR0 := Aside0.mk hr0
 have HC0 := Aside0.mk hc0
 clear hr0 hc0
 have HB := Aside0.mk (Below.refl w.heap.size w)
 have H : (if ([] : List Int).length + l0.length < 140737488355328 then (some (([] : List Int) ++ l0)) else (none)) = some r := h
 clear h
 by_cases c2 : ([] : List Int).length + l0.length < 140737488355328
 ·
  rw [if_pos c2] at H
  have LMc2 := Aside0.mk c2
  clear c2
  obtain ⟨y495, hy495⟩ : ∃ y_ : List Int, y_ = (([] : List Int) ++ l0) := ⟨_, rfl⟩
  replace H : (some y495) = some r := by first | (rw [hy495]; with_reducible exact H) | (have H2_ := (Option.bind_some _ _).symm.trans H; rw [hy495]; with_reducible exact H2_) | (have H2_ := (Option.bind_some _ _).symm.trans H; with_reducible exact H2_) | with_reducible exact H | (rw [hy495]; exact H) | exact H
  have Ny495 := Aside0.mk hy495
  clear hy495
  obtain rfl := Option.some.inj H
  go_enter Tryd.func108, Tryd.ntmps108
  go_wp2_with (first | ((with_reducible refine gate_builtin (b := .append) (xs := #[.tmp 4, .tmp 5]) rfl ?_); at_builtin; refine Kd.R_append_rows (Kd.int .u8) (w0 := w) w.heap.size rfl (.tmp 4) (.tmp 5) 22 5 (.int .u8 0) 1 rfl Tryd.underlying22 info5 rfl (by decide) (by omega) (.slice none 0 0) ([] : List Int) l0 _ _ _ (fun _ => True) (fun _ => False) rfl rfl ?aO ?aR (fun _ _ h => h) (fun _ h => h.elim) ?aF ?aB ?aS ?aL ?_; (case aR => repeat (first | exact HR0.out | (with_reducible refine Kd.C_alloc ?_ _) | (with_reducible refine Kd.C_drewN ?_ _) | (with_reducible refine Kd.C_drew ?_))); (case aB => exact (by repeat (first | (with_reducible first | exact HB.out | apply below_alloc | apply pw_below_drewN | apply below_drew1) | exact HB.out))); (case aF => exact (fun _ _ => trivial)); (case aO => exact ((Kd.R_nil _ _ _ _ (fun _ => True)))); (case aS => exact (below_size (by repeat (first | (with_reducible first | exact HB.out | apply below_alloc | apply pw_below_drewN | apply below_drew1) | exact HB.out)))); (case aL => have := LMc2.out; omega); intro v496 w3 ho hb hg hat; rw [← Ny495.out] at ho; have n0_ := Aside0.mk (hb); have n1_ := Aside0.mk (ho); clear HB; have HB := n0_; have HO497 := n1_; clear n0_ n1_; clear ho hb hg hat))
  go_ret
  exact ⟨_, by first | rfl | (simp [errW_none, errW_some] <;> rfl) | (simp [*, errW_none, errW_some] <;> rfl), by (with_reducible repeat (first | apply Kd.R_alloc | apply Kd.R_drewN | apply Kd.R_drew)); exact HO497.out, by repeat (first | (with_reducible first | exact HB.out | apply below_alloc | apply pw_below_drewN | apply below_drew1) | exact HB.out)⟩
 ·
  rw [if_neg c2] at H
  exact absurd H (by simp)
end Go.Proofs.YtbgbocdohadhoaaDoor.Print
