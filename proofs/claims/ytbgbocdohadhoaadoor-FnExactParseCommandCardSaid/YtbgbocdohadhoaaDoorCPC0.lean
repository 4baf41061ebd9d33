/- Texts of this session, joined by its own program. -/
import Derived.Test.YtbgbocdohadhoaaDoorProg
import Derived.Below
import Derived.Deep.Draws
import Derived.Deep.AppendLies
import Derived.Maps.AppendAt
import Derived.OwnWalk
import Derived.Laws.BytesArg
import Derived.Laws.MakeOwn
import Derived.Laws.OwnMore
import Derived.Deep.OwnRows
import Derived.Tactics
import Derived.Lib.ConvBytes
import Derived.Laws.Slices
import Derived.WalkKit
import Derived.KernelRfl
import Derived.RowKit3
import Derived.Deep.LoopGhost
import Derived.Deep.QuietTactic
import Derived.BigQuiet
import Derived.WideLaws
import Derived.Deep.DeepCutAuto
import Derived.Deep.CutBlock
import Derived.Deep.RegionHeld3
import Derived.Laws.Rows
import Derived.Lib.AppendStr
import Derived.ArgAppend
import Derived.Laws.IdiomCopy
import Derived.OrdersHeld
import Derived.Laws.BitsLemmas
import Derived.RowKit
import Derived.Laws.StructEq
import Derived.Test.YtbgbocdohadhoaaDoorRows
import Derived.ProofKit
import Derived.OpenShut
import Derived.ShutString
import Derived.ChangeOld
import Derived.SizedLaws
import Derived.ChangeSlices
import Derived.Lib.Bytes
import Derived.Lib.Split
import Derived.Lib.SplitLaws
import Derived.Lib.ParseIntB
import Derived.Lib.SlTrimSet
import Derived.Ground.NamesProg
import Derived.Ground.MpProg
import Derived.Ground.SlgfProg
import Derived.Shelf.SlGeneric
import Derived.Shelf.Lays
import Derived.Shelf.Pu.Lays
import Derived.Shelf.SlLaysH
import Derived.Shelf.Strings.SlTrimAscii
import Derived.Shelf.Pu.ParseUintPublic10
import Derived.RangeFuncOwn
import Derived.Carry
import Derived.WalkSpells
import Derived.WalkMore
import Derived.Shelf.Strings.Search3
import Derived.Test.YtbgbocdohadhoaaDoorCPCw0
namespace Go.Proofs.YtbgbocdohadhoaaDoorW.PrintMore
end Go.Proofs.YtbgbocdohadhoaaDoorW.PrintMore
namespace Go.Proofs.YtbgbocdohadhoaaDoorW.PrintLast
end Go.Proofs.YtbgbocdohadhoaaDoorW.PrintLast
namespace Go.Proofs.YtbgbocdohadhoaaDoorW.PrintWords
open Go Go.RowKit
theorem gate_callee {P : Program} {ops : Array Oper} {rest : List Oper} {o : Oper} {a : Act} {Q : Exit → Act → World → Prop} {W : World} {f : FuncId} {xs : Array Operand} {ts : Array TypeId} (_e : o.op = .call { callee := .value (.func f), args := xs, argTypes := ts }) : wpList P ops Q (o :: rest) a W → wpList P ops Q (o :: rest) a W := id
theorem gate_builtin {P : Program} {ops : Array Oper} {rest : List Oper} {o : Oper} {a : Act} {Q : Exit → Act → World → Prop} {W : World} {b : Builtin} {xs : Array Operand} {ts : Array TypeId} (_e : o.op = .call { callee := .builtin b, args := xs, argTypes := ts }) : wpList P ops Q (o :: rest) a W → wpList P ops Q (o :: rest) a W := id
end Go.Proofs.YtbgbocdohadhoaaDoorW.PrintWords
namespace Go.Proofs.YtbgbocdohadhoaaDoor.Print
open Go Go.RowKit Go.Proofs.YtbgbocdohadhoaaDoorW.PrintWords Go.Proofs.YtbgbocdohadhoaaDoorW.PrintLast Go.Proofs.YtbgbocdohadhoaaDoorW.PrintMore
set_option linter.unusedVariables false
set_option linter.unusedSimpArgs false
theorem info5 : (Tryd.prog.info? 5).map (fun i => (i.zero, i.size, i.bytes)) = some (some (.int .u8 0), 1, 1) := by kernel_rfl
theorem info22 : (Tryd.prog.info? 22).map (fun i => (i.zero, i.size, i.bytes)) = some (some (.slice none 0 0), 1, 24) := by kernel_rfl
section
open Go.ChangeShapes Go.WideShapes
section
variable {H : Type} {enc : TypeId × Value → H} {P : Program} {w : World} {base : Nat} {spare : Nat → Bool} {held : Bool}
theorem row_open {t e : TypeId} {k : IntKind} {fuel : Nat} {cs : List Value} {x : DataW H × List MemPlace} (ht : P.underlying t = some (.slice e)) (he : P.underlying e = some (.int k)) (hc : P.cellsOf e = 1) (hB : P.bytesOf e = 1)
  (hf : DataW.trod enc P w base spare held fuel t cs = some x) (hz : ∀ n ∈ x.1.weights P t, n ≤ reachBytes) :
  ∃ A c l, cs = [.slice A l.length c] ∧ (Kd.int k).C w A l.length l ∧ l.length ≤ c ∧ l.length ≤ 140737488351232 ∧ (∀ n ∈ l, (Lit.int k n).wf = true) := by
 rcases open_ints ht he hc hf with ⟨rfl, rfl⟩ | ⟨a, len, cap, zs, rfl, _, hl, hm, hlen, rfl, hcell, hwf⟩
 ·
  exact ⟨none, 0, [], rfl, Kd.C_of_reads (d := (0 : Int)) (h1 := fun _ => rfl) (ReadsInt.nil _ _), Nat.le_refl _, by simp, by simp⟩
 have hle : len ≤ zs.length := by
  rw [hlen]
  split
  ·
   exact hl
  exact Nat.le_refl _
 have hzz : len ≤ reachBytes := by
  have := hz ((((lits (H := H) k (zs.take len)).length) + (lits (H := H) k (zs.drop len)).length) * P.bytesOf e) (by simp [DataW.weights, ht])
  rw [hB] at this
  simp [lits] at this
  omega
 have hlt : (zs.take len).length = len := by simp; omega
 refine ⟨some a, cap, zs.take len, by rw [hlt], ?_, by rw [hlt]; exact hl, by rw [hlt]; exact hzz, fun n hn => hwf n (List.mem_of_mem_take hn)⟩
 refine Kd.C_of_reads (d := (0 : Int)) (h1 := fun _ => rfl) ⟨rfl, by rw [hlt]; have : len ≤ maxLen := Nat.le_trans hl hm; simpa [maxLen] using this, fun _ => ⟨a, rfl, fun j hj => ?_⟩⟩
 rw [hlt] at hj
 rw [hcell j (by omega)]
 simp [List.getD_eq_getElem?_getD, List.getElem?_take, hj]
end
theorem weights_of {H : Type} {P : Program} {ts : List TypeId} {ds : List (DataW H)} {j : Nat} {t : TypeId} {d : DataW H} (hsz : (DataW.weightsEach P ts ds).all (· ≤ reachBytes) = true) (htj : ts[j]? = some t) (hdj : ds[j]? = some d) : ∀ n ∈ d.weights P t, n ≤ reachBytes := fun n hn => by
 have := List.all_eq_true.1 hsz _ (DataW.weights_mem_each htj hdj n hn)
 simpa using this
set_option maxRecDepth 100000 in
theorem bytes_open {H : Type} {enc : TypeId × Value → H} {w : World} {base : Nat} {spare : Nat → Bool} {held : Bool} {v : Value} {d : DataW H} {p : List MemPlace} {ts : List TypeId} {ds : List (DataW H)} {j : Nat}
  (hsz : (DataW.weightsEach Tryd.prog ts ds).all (· ≤ reachBytes) = true) (htj : ts[j]? = some 22) (hdj : ds[j]? = some d) (hv : Value.okWide Tryd.prog w .any 0 22 v) (h : DataW.Trod enc Tryd.prog w base spare held 22 v d p) :
  ∃ A c l, v = .slice A l.length c ∧ (Kd.int .u8).C w A l.length l ∧ l.length ≤ c ∧ l.length ≤ 140737488351232 ∧ (∀ n ∈ l, (Lit.int .u8 n).wf = true) := by
 have hz := weights_of hsz htj hdj
 obtain ⟨A, len, cap, rfl⟩ := okWide_slice Tryd.underlying22 hv
 obtain ⟨fuel, hf⟩ := h
 obtain ⟨A', c', l, e, h0, h1, h2, h3⟩ := row_open Tryd.underlying22 Tryd.underlying5 (by kernel_rfl) (by kernel_rfl) hf hz
 simp only [Value.cells, List.cons.injEq, and_true] at e
 exact ⟨A', c', l, e, h0, h1, h2, h3⟩
theorem byte_range {l : List Int} (h : ∀ n ∈ l, (Lit.int .u8 n).wf = true) : ∀ x ∈ l, 0 ≤ x ∧ x < 256 := by
 intro x hx
 have := h x hx
 simp [Lit.wf, IntKind.min, IntKind.max, IntKind.bits, IntKind.signed] at this
 omega
end
structure Cmd where
 kd : Int
 ok : Int
 s : Int
 p : List Int
 f : Int
 v : List Int
 e : Int
 g : Int
 n : Int
 m : Int
def zCmd : Cmd := ⟨0, 0, 0, [], 0, [], 0, 0, 0, 0⟩
def wdsG : List Int → List Int → List (List Int)
 | one, [] => if one = [] then [] else [one]
 | one, c :: r => if c = 32 then (if one = [] then wdsG [] r else one :: wdsG [] r) else wdsG (one ++ [c]) r
def wds (l : List Int) : List (List Int) := wdsG [] l
def splG : List Int → List Int → List (List Int)
 | one, [] => [one]
 | one, c :: r => if c = 32 then one :: splG [] r else splG (one ++ [c]) r
theorem splG_wds : ∀ (l one : List Int), (splG one l).filter (fun x => !decide (x = [])) = wdsG one l
 | [], one => by
  unfold splG wdsG
  by_cases h : one = []
  ·
   subst h; rfl
  simp [h]
 | c :: r, one => by
  unfold splG wdsG
  by_cases h : c = 32
  ·
   rw [if_pos h, if_pos h, List.filter_cons, splG_wds r []]
   by_cases h1 : one = []
   ·
    simp [h1]
   simp [h1]
  rw [if_neg h, if_neg h, splG_wds r]
def numV (w : List Int) : Int := w.foldl (fun v c => v * 10 + (c - 48)) 0
def digB (w : List Int) : Bool := w.all fun c => decide (48 ≤ c) && decide (c ≤ 57)
def frmB (w : List Int) : Bool := decide (1 ≤ w.length) && decide (w.length ≤ 19) && digB w
def cntB (w : List Int) (most : Int) : Bool := frmB w && decide (numV w ≤ most)
def mostF (q : Int) : Int := if q = 78 ∨ q = 77 then 1000000 else if q = 99 then 4 else if q = 110 then 5 else 4611686018427387904
def fillF (c : Cmd) (q : Int) (w : List Int) : Option Cmd :=
 if q = 80 then some { c with p := w }
 else if q = 86 then some { c with v := w }
 else if q = 102 then (if w = [101] then some { c with f := 1 } else if w = [112] then some c else none)
 else if q = 109 then (if w = [120] then some { c with f := 1 } else if w = [115] then some { c with f := 2 } else none)
 else if cntB w (mostF q) = true then
  some (if q = 83 then { c with s := numV w } else if q = 69 then { c with e := numV w } else if q = 71 then { c with g := numV w } else if q = 78 ∨ q = 110 then { c with n := numV w } else { c with m := numV w })
 else none
def fillA : Cmd → List Int → List (List Int) → Option Cmd
 | c, _, [] => some c
 | c, [], _ :: _ => none
 | c, q :: sh, w :: ws => (fillF c q w).bind fun c' => fillA c' sh ws
def kOpen : List Int := [111, 112, 101, 110]
def kKeep : List Int := [107, 101, 101, 112]
def kClose : List Int := [99, 108, 111, 115, 101]
def kPoll : List Int := [112, 111, 108, 108]
def kCreate : List Int := [99, 114, 101, 97, 116, 101]
def kDelete : List Int := [100, 101, 108, 101, 116, 101]
def kUnlock : List Int := [117, 110, 108, 111, 99, 107]
def kWatch : List Int := [119, 97, 116, 99, 104]
def kGet : List Int := [103, 101, 116]
def kList : List Int := [108, 105, 115, 116]
def kSet : List Int := [115, 101, 116]
def kLock : List Int := [108, 111, 99, 107]
def kCheck : List Int := [99, 104, 101, 99, 107]
def kTick : List Int := [116, 105, 99, 107]
def kSweep : List Int := [115, 119, 101, 101, 112]
def kFlush : List Int := [102, 108, 117, 115, 104]
def kSnap : List Int := [115, 110, 97, 112]
def kCrash : List Int := [99, 114, 97, 115, 104]
def kSnapcrash : List Int := [115, 110, 97, 112, 99, 114, 97, 115, 104]
def shpT : List (List Int × List Int × Int × Int) :=
  [(kOpen, [], 0, 1), (kKeep, [83], 0, 2), (kClose, [83], 0, 3), (kPoll, [83], 0, 12), (kCreate, [83, 80, 102, 86], 0, 4), (kDelete, [83, 80], 0, 5), (kUnlock, [83, 80], 0, 9), (kWatch, [83, 80], 0, 11), (kGet, [80], 0, 6), (kList, [80], 0, 13), (kSet, [83, 80, 86], 0, 7), (kLock, [83, 80, 109], 0, 8), (kCheck, [83, 80, 69, 71], 0, 10),
   (kTick, [78], 1, 0), (kSweep, [], 2, 0), (kFlush, [], 3, 0), (kSnap, [], 4, 0), (kCrash, [78, 99], 5, 0), (kSnapcrash, [110, 77], 6, 0)]
def shpF (w : List Int) : List Int × Int × Int := ((shpT.find? fun x => x.1 == w).map fun x => x.2).getD ([63], 0, 0)
def leastF (sh : List Int) : Nat := if 0 < sh.length ∧ (sh.getLastD 0 = 86 ∨ sh.getLastD 0 = 99) then sh.length - 1 else sh.length
def cmdF : List (List Int) → Option Cmd
 | [] => none
 | w0 :: r =>
  if (shpF w0).1 = [63] ∨ r.length < leastF (shpF w0).1 ∨ (shpF w0).1.length < r.length then none
  else fillA ⟨(shpF w0).2.1, (shpF w0).2.2, 0, [], 0, [], 0, 0, 0, if (shpF w0).2.1 = 5 then 5 else 0⟩ (shpF w0).1 r
def tkV (w : List Int) : Int := if frmB w = true then numV w else 0
def gdB (r : List (List Int)) : Bool := r.all fun w => cntB w 1000000
def frmT : List (List Int × Int × List Int) :=
 [(kOpen, 1, []), (kKeep, 2, [115]), (kClose, 3, [115]), (kPoll, 12, [115]), (kCreate, 4, [115, 112, 102, 118]), (kDelete, 5, [115, 112]), (kUnlock, 9, [115, 112]), (kWatch, 11, [115, 112]), (kGet, 6, [112]), (kList, 13, [112]), (kSet, 7, [115, 112, 118]), (kLock, 8, [115, 112, 109]), (kCheck, 10, [115, 112, 101, 103])]
def ofrF (w : List Int) : Option (Int × List Int) := (frmT.find? fun x => x.1 == w).map fun x => x.2
def ofl (c : Cmd) (q : Int) (w : List Int) : Option Cmd :=
 if q = 115 then (if cntB w 4611686018427387904 = true then some { c with s := numV w } else none)
 else if q = 101 then (if cntB w 4611686018427387904 = true then some { c with e := numV w } else none)
 else if q = 103 then (if cntB w 4611686018427387904 = true then some { c with g := numV w } else none)
 else if q = 112 then some { c with p := w }
 else if q = 118 then some { c with v := w }
 else if q = 102 then (if w = [112] then some { c with f := 0 } else if w = [101] then some { c with f := 1 } else none)
 else if q = 109 then (if w = [120] then some { c with f := 1 } else if w = [115] then some { c with f := 2 } else none)
 else some c
def oflA : Cmd → List Int → List (List Int) → Option Cmd
 | c, _, [] => some c
 | c, [], _ :: _ => none
 | c, q :: sh, w :: ws => (ofl c q w).bind fun c' => oflA c' sh ws
def needF (sh : List Int) : Nat := if 0 < sh.length ∧ sh.getLastD 0 = 118 then sh.length - 1 else sh.length
def opF (w0 : List Int) (r : List (List Int)) : Option Cmd :=
 match ofrF w0 with
 | none => none
 | some x => if r.length < needF x.2 ∨ x.2.length < r.length then none else oflA ⟨0, x.1, 0, [], 0, [], 0, 0, 0, 0⟩ x.2 r
def bareF (w : List Int) : Option Int := if w = kSweep then some 2 else if w = kFlush then some 3 else if w = kSnap then some 4 else none
def cmdI : List (List Int) → Option Cmd
 | [] => none
 | w0 :: r =>
  if (bareF w0).isSome = true ∧ r.length = 0 then some { zCmd with kd := (bareF w0).getD 0 }
  else if w0 = kTick ∧ r.length = 1 ∧ gdB r = true then some { zCmd with kd := 1, n := tkV (r.getD 0 []) }
  else if w0 = kCrash ∧ r.length = 1 ∧ gdB r = true then some { zCmd with kd := 5, n := tkV (r.getD 0 []), m := 5 }
  else if w0 = kCrash ∧ r.length = 2 ∧ gdB r = true ∧ tkV (r.getD 1 []) < 5 then some { zCmd with kd := 5, n := tkV (r.getD 0 []), m := tkV (r.getD 1 []) }
  else if w0 = kSnapcrash ∧ r.length = 2 ∧ gdB r = true ∧ tkV (r.getD 0 []) ≤ 5 then some { zCmd with kd := 6, n := tkV (r.getD 0 []), m := tkV (r.getD 1 []) }
  else opF w0 r
def upL : Int → Int := fun q => if q = 115 then 83 else if q = 112 then 80 else if q = 118 then 86 else if q = 101 then 69 else if q = 103 then 71 else q
theorem ofl_fill (c : Cmd) (hf : c.f = 0) (q : Int) (w : List Int) (hq : q = 115 ∨ q = 101 ∨ q = 103 ∨ q = 112 ∨ q = 118 ∨ q = 102 ∨ q = 109) : ofl c q w = fillF c (upL q) w := by
 obtain ⟨kd, ok, s, p, f, v, e, g, n, m⟩ := c
 simp only at hf
 subst hf
 rcases hq with rfl | rfl | rfl | rfl | rfl | rfl | rfl <;> simp [ofl, fillF, upL, mostF]
 by_cases h1 : w = [112]
 ·
  subst h1; simp
 simp [h1]
theorem cnt_form {w : List Int} {k : Int} (h : cntB w k = true) : frmB w = true ∧ numV w ≤ k := by
 unfold cntB at h
 simpa using h
theorem tkV_of {w : List Int} {k : Int} (h : cntB w k = true) : tkV w = numV w := by
 unfold tkV
 rw [if_pos (cnt_form h).1]
theorem cnt_le {w : List Int} {k j : Int} (h : cntB w j = true) (hk : numV w ≤ k) : cntB w k = true := by
 unfold cntB
 rw [(cnt_form h).1, decide_eq_true hk]
 rfl
theorem cnt_mono {w : List Int} {k j : Int} (h : cntB w j = true) (hk : j ≤ k) : cntB w k = true := cnt_le h (Int.le_trans (cnt_form h).2 hk)
def reqB (w : List Int) : Bool := frmT.any fun x => x.1 == w
theorem req_none {w : List Int} (h : reqB w = false) : ofrF w = none := by
 unfold reqB at h
 unfold ofrF
 rw [List.any_eq_false] at h
 rw [List.find?_eq_none.2 (fun x hx => h x hx)]
 rfl
theorem req_shape {w : List Int} (h : reqB w = true) : ∃ k sh, ofrF w = some (k, sh) ∧ shpF w = (sh.map upL, 0, k) ∧ bareF w = none ∧ w ≠ kTick ∧ w ≠ kCrash ∧ w ≠ kSnapcrash ∧ (∀ q ∈ sh, q = 115 ∨ q = 101 ∨ q = 103 ∨ q = 112 ∨ q = 118 ∨ q = 102 ∨ q = 109) ∧ (sh.count 102 + sh.count 109 ≤ 1) := by
 unfold reqB at h
 rw [List.any_eq_true] at h
 obtain ⟨x, hx, he⟩ := h
 have he' := eq_of_beq he
 subst he'
 simp only [frmT, List.mem_cons, List.mem_nil_iff, or_false] at hx
 rcases hx with rfl | rfl | rfl | rfl | rfl | rfl | rfl | rfl | rfl | rfl | rfl | rfl | rfl <;> exact ⟨_, _, rfl, by decide, by decide, by decide, by decide, by decide, by decide, by decide⟩
theorem fillF_f {c c' : Cmd} {q : Int} {w : List Int} (h : fillF c q w = some c') (hf : c.f = 0) (h1 : q ≠ 102) (h2 : q ≠ 109) : c'.f = 0 := by
 unfold fillF at h
 rw [if_neg h1, if_neg h2] at h
 split at h
 ·
  cases h; exact hf
 split at h
 ·
  cases h; exact hf
 split at h
 ·
  cases h
  split
  ·
   exact hf
  split
  ·
   exact hf
  split
  ·
   exact hf
  split
  ·
   exact hf
  exact hf
 cases h
theorem upL_ne {q : Int} (h1 : q ≠ 102) (h2 : q ≠ 109) : upL q ≠ 102 ∧ upL q ≠ 109 := by
 unfold upL
 split <;> (try split) <;> (try split) <;> (try split) <;> (try split) <;> constructor <;> (first | decide | assumption)
theorem oflA_fill : ∀ (sh : List Int) (ws : List (List Int)) (c : Cmd), (∀ q ∈ sh, q = 115 ∨ q = 101 ∨ q = 103 ∨ q = 112 ∨ q = 118 ∨ q = 102 ∨ q = 109) → (sh.count 102 + sh.count 109 ≤ 1) → (c.f = 0 ∨ sh.count 102 + sh.count 109 = 0) → oflA c sh ws = fillA c (sh.map upL) ws
 | [], [], c, _, _, _ => rfl
 | [], _ :: _, c, _, _, _ => rfl
 | q :: sh, [], c, _, _, _ => rfl
 | q :: sh, w :: ws, c, hq, hc, hf => by
  have hq0 := hq q (by simp)
  have e : ofl c q w = fillF c (upL q) w := by
   rcases hf with hf | hf
   ·
    exact ofl_fill c hf q w hq0
   rw [List.count_cons, List.count_cons] at hf
   have h1 : ¬ q = 102 := fun h => by subst h; simp at hf
   have h2 : ¬ q = 109 := fun h => by subst h; simp at hf
   rcases hq0 with rfl | rfl | rfl | rfl | rfl | rfl | rfl <;> simp [ofl, fillF, upL, mostF] <;> simp_all
  unfold oflA
  rw [e, List.map_cons]
  rw [fillA]
  cases hc' : fillF c (upL q) w with
  | none => rfl
  | some c' =>
   show oflA c' sh ws = fillA c' (sh.map upL) ws
   rw [List.count_cons, List.count_cons] at hc
   refine oflA_fill sh ws c' (fun y hy => hq y (by simp [hy])) (by omega) ?_
   rcases hf with hf | hf
   ·
    by_cases h1 : q = 102
    ·
     subst h1; simp at hc; right; omega
    by_cases h2 : q = 109
    ·
     subst h2; simp at hc; right; omega
    left
    obtain ⟨a, b⟩ := upL_ne h1 h2
    exact fillF_f hc' hf a b
   right
   rw [List.count_cons, List.count_cons] at hf
   omega
theorem least_up : ∀ w : List Int, reqB w = true → ∀ k sh, ofrF w = some (k, sh) → leastF (sh.map upL) = needF sh ∧ sh.map upL ≠ [63] := by
 intro w h k sh hs
 unfold reqB at h
 rw [List.any_eq_true] at h
 obtain ⟨x, hx, he⟩ := h
 have he' := eq_of_beq he
 subst he'
 simp only [frmT, List.mem_cons, List.mem_nil_iff, or_false] at hx
 rcases hx with rfl | rfl | rfl | rfl | rfl | rfl | rfl | rfl | rfl | rfl | rfl | rfl | rfl <;> (have hs' := Option.some.inj hs; rw [Prod.mk.injEq] at hs'; rw [← hs'.2]; decide)
theorem req_eq (w0 : List Int) (r : List (List Int)) (h : reqB w0 = true) : cmdI (w0 :: r) = cmdF (w0 :: r) := by
 obtain ⟨k, sh, h1, h2, h3, h4, h5, h6, h7, h8⟩ := req_shape h
 obtain ⟨g1, g2⟩ := least_up w0 h k sh h1
 unfold cmdI cmdF
 simp only
 rw [h2, h3]
 rw [if_neg (by simp), if_neg (fun a => h4 a.1), if_neg (fun a => h5 a.1), if_neg (fun a => h5 a.1), if_neg (fun a => h6 a.1)]
 unfold opF
 rw [h1]
 simp only [g1, List.length_map]
 by_cases c : r.length < needF sh ∨ sh.length < r.length
 ·
  rw [if_pos c, if_pos (Or.inr c)]
 rw [if_neg c, if_neg (fun a => a.elim g2 c), if_neg (by decide)]
 exact oflA_fill sh r _ h7 h8 (Or.inl rfl)
theorem all1 {r : List (List Int)} (h : r.length = 1) : ∃ a, r = [a] := by
 match r, h with
 | [a], _ => exact ⟨a, rfl⟩
theorem all2 {r : List (List Int)} (h : r.length = 2) : ∃ a b, r = [a, b] := by
 match r, h with
 | [a, b], _ => exact ⟨a, b, rfl⟩
theorem fill_num (c : Cmd) (q : Int) (w : List Int) (h : q = 78 ∨ q = 110 ∨ q = 99 ∨ q = 77) : fillF c q w = if cntB w (mostF q) = true then some (if q = 78 ∨ q = 110 then { c with n := numV w } else { c with m := numV w }) else none := by
 rcases h with rfl | rfl | rfl | rfl <;> simp [fillF]
theorem kT1 : ¬ kTick = kCrash := by decide
theorem kT2 : ¬ kTick = kSnapcrash := by decide
theorem kC1 : ¬ kCrash = kTick := by decide
theorem kC2 : ¬ kCrash = kSnapcrash := by decide
theorem kS1 : ¬ kSnapcrash = kTick := by decide
theorem kS2 : ¬ kSnapcrash = kCrash := by decide
theorem tick_eq (r : List (List Int)) : cmdI (kTick :: r) = cmdF (kTick :: r) := by
 have e1 : shpF kTick = ([78], 1, 0) := by decide
 have e2 : bareF kTick = none := by decide
 have e3 : ofrF kTick = none := by decide
 have e4 : leastF [78] = 1 := by decide
 unfold cmdI cmdF opF
 simp only [e1, e2, e3, e4]
 rw [if_neg (by simp)]
 by_cases h : r.length = 1
 ·
  obtain ⟨a, rfl⟩ := all1 h
  rw [if_neg (by simp : ¬ (([78] : List Int) = [63] ∨ [a].length < 1 ∨ [(78 : Int)].length < [a].length))]
  unfold fillA
  rw [fill_num _ _ _ (by decide)]
  have em : mostF 78 = 1000000 := by decide
  rw [em]
  by_cases g : cntB a 1000000 = true
  ·
   rw [if_pos ⟨trivial, rfl, by unfold gdB; simp [g]⟩, if_pos g]
   simp [fillA, tkV_of g, zCmd]
  rw [if_neg (by unfold gdB; simp [g]), if_neg (fun z => kT1 z.1), if_neg (fun z => kT1 z.1), if_neg (fun z => kT2 z.1), if_neg g]
  rfl
 rw [if_neg (fun a => h a.2.1), if_neg (fun z => kT1 z.1), if_neg (fun z => kT1 z.1), if_neg (fun z => kT2 z.1)]
 rw [if_pos (by right; show r.length < 1 ∨ 1 < r.length; omega)]
theorem crash_eq (r : List (List Int)) : cmdI (kCrash :: r) = cmdF (kCrash :: r) := by
 have e1 : shpF kCrash = ([78, 99], 5, 0) := by decide
 have e2 : bareF kCrash = none := by decide
 have e3 : ofrF kCrash = none := by decide
 have e4 : leastF [78, 99] = 1 := by decide
 have em : mostF 78 = 1000000 := by decide
 have em2 : mostF 99 = 4 := by decide
 unfold cmdI cmdF opF
 simp only [e1, e2, e3, e4]
 rw [if_neg (by simp), if_neg (fun z => kC1 z.1)]
 by_cases h : r.length = 1
 ·
  obtain ⟨a, rfl⟩ := all1 h
  rw [if_neg (by simp : ¬ (([78, 99] : List Int) = [63] ∨ [a].length < 1 ∨ [(78 : Int), 99].length < [a].length))]
  unfold fillA
  rw [fill_num _ _ _ (by decide), em]
  by_cases g : cntB a 1000000 = true
  ·
   rw [if_pos ⟨trivial, rfl, by unfold gdB; simp [g]⟩, if_pos g]
   simp [fillA, tkV_of g, zCmd]
  rw [if_neg (by unfold gdB; simp [g]), if_neg (fun z => by simp at z), if_neg (fun z => kC2 z.1), if_neg g]
  rfl
 rw [if_neg (fun a => h a.2.1)]
 by_cases h2 : r.length = 2
 ·
  obtain ⟨a, b, rfl⟩ := all2 h2
  rw [if_neg (by simp : ¬ (([78, 99] : List Int) = [63] ∨ [a, b].length < 1 ∨ [(78 : Int), 99].length < [a, b].length))]
  unfold fillA
  rw [fill_num _ _ _ (by decide), em]
  by_cases g : cntB a 1000000 = true
  ·
   rw [if_pos g, Option.bind_some]
   unfold fillA
   rw [fill_num _ _ _ (by decide), em2]
   by_cases g2 : cntB b 4 = true
   ·
    have g3 : cntB b 1000000 = true := cnt_mono g2 (by decide)
    have g4 := (cnt_form g2).2
    rw [if_pos ⟨trivial, rfl, by unfold gdB; simp [g, g3], by show tkV b < 5; rw [tkV_of g2]; omega⟩, if_pos g2]
    simp [fillA, tkV_of g, tkV_of g2, zCmd]
   rw [if_neg (fun k => g2 (by
    have k3 := k.2.2.1
    have k4 : tkV b < 5 := k.2.2.2
    unfold gdB at k3
    simp only [List.all_cons, List.all_nil, Bool.and_true, Bool.and_eq_true] at k3
    rw [tkV_of k3.2] at k4
    exact cnt_le k3.2 (by omega))), if_neg (fun z => kC2 z.1), if_neg g2]
   rfl
  rw [if_neg (fun k => g (by
    have k3 := k.2.2.1
    unfold gdB at k3
    simp only [List.all_cons, List.all_nil, Bool.and_true, Bool.and_eq_true] at k3
    exact k3.1)), if_neg (fun z => kC2 z.1), if_neg g]
  rfl
 rw [if_neg (fun a => h2 a.2.1), if_neg (fun z => kC2 z.1), if_pos (by right; show r.length < 1 ∨ 2 < r.length; omega)]
theorem snapcrash_eq (r : List (List Int)) : cmdI (kSnapcrash :: r) = cmdF (kSnapcrash :: r) := by
 have e1 : shpF kSnapcrash = ([110, 77], 6, 0) := by decide
 have e2 : bareF kSnapcrash = none := by decide
 have e3 : ofrF kSnapcrash = none := by decide
 have e4 : leastF [110, 77] = 2 := by decide
 have em : mostF 110 = 5 := by decide
 have em2 : mostF 77 = 1000000 := by decide
 unfold cmdI cmdF opF
 simp only [e1, e2, e3, e4]
 rw [if_neg (by simp), if_neg (fun z => kS1 z.1), if_neg (fun z => kS2 z.1), if_neg (fun z => kS2 z.1)]
 by_cases h2 : r.length = 2
 ·
  obtain ⟨a, b, rfl⟩ := all2 h2
  rw [if_neg (by simp : ¬ (([110, 77] : List Int) = [63] ∨ [a, b].length < 2 ∨ [(110 : Int), 77].length < [a, b].length))]
  unfold fillA
  rw [fill_num _ _ _ (by decide), em]
  by_cases g : cntB a 5 = true
  ·
   have g3 : cntB a 1000000 = true := cnt_mono g (by decide)
   have g4 := (cnt_form g).2
   rw [if_pos g, Option.bind_some]
   unfold fillA
   rw [fill_num _ _ _ (by decide), em2]
   by_cases g2 : cntB b 1000000 = true
   ·
    rw [if_pos ⟨trivial, rfl, by unfold gdB; simp [g2, g3], by show tkV a ≤ 5; rw [tkV_of g]; omega⟩, if_pos g2]
    simp [fillA, tkV_of g, tkV_of g2, zCmd]
   rw [if_neg (fun k => g2 (by
     have k3 := k.2.2.1
     unfold gdB at k3
     simp only [List.all_cons, List.all_nil, Bool.and_true, Bool.and_eq_true] at k3
     exact k3.2)), if_neg g2]
   rfl
  rw [if_neg (fun k => g (by
    have k3 := k.2.2.1
    have k4 : tkV a ≤ 5 := k.2.2.2
    unfold gdB at k3
    simp only [List.all_cons, List.all_nil, Bool.and_true, Bool.and_eq_true] at k3
    rw [tkV_of k3.1] at k4
    exact cnt_le k3.1 (by omega))), if_neg g]
  rfl
 rw [if_neg (fun a => h2 a.2.1), if_pos (by right; show r.length < 2 ∨ 2 < r.length; omega)]
theorem bare_eq (w : List Int) (k : Int) (r : List (List Int)) (h1 : bareF w = some k) (h2 : shpF w = ([], k, 0)) (h3 : ofrF w = none) (h4 : w ≠ kTick) (h5 : w ≠ kCrash) (h6 : w ≠ kSnapcrash) (hk : k ≠ 5) : cmdI (w :: r) = cmdF (w :: r) := by
 have e4 : leastF [] = 0 := by decide
 unfold cmdI cmdF opF
 simp only [h1, h2, h3, e4]
 by_cases h : r.length = 0
 ·
  have : r = [] := List.eq_nil_of_length_eq_zero h
  subst this
  rw [if_pos ⟨rfl, rfl⟩, if_neg (by simp), if_neg hk]
  rfl
 rw [if_neg (fun a => h a.2), if_neg (fun a => h4 a.1), if_neg (fun a => h5 a.1), if_neg (fun a => h5 a.1), if_neg (fun a => h6 a.1), if_pos (by right; right; show 0 < r.length; omega)]
theorem cmdI_eq (ws : List (List Int)) : cmdI ws = cmdF ws := by
 cases ws with
 | nil => rfl
 | cons w r =>
  cases hq : reqB w with
  | true => exact req_eq w r hq
  | false =>
   by_cases c1 : w = kTick
   ·
    subst c1; exact tick_eq r
   by_cases c2 : w = kCrash
   ·
    subst c2; exact crash_eq r
   by_cases c3 : w = kSnapcrash
   ·
    subst c3; exact snapcrash_eq r
   by_cases c4 : w = kSweep
   ·
    subst c4; exact bare_eq kSweep 2 r (by decide) (by decide) (by decide) (by decide) (by decide) (by decide) (by decide)
   by_cases c5 : w = kFlush
   ·
    subst c5; exact bare_eq kFlush 3 r (by decide) (by decide) (by decide) (by decide) (by decide) (by decide) (by decide)
   by_cases c6 : w = kSnap
   ·
    subst c6; exact bare_eq kSnap 4 r (by decide) (by decide) (by decide) (by decide) (by decide) (by decide) (by decide)
   have hb : bareF w = none := by unfold bareF; rw [if_neg c4, if_neg c5, if_neg c6]
   have hs : shpF w = ([63], 0, 0) := by
    unfold shpF
    have hn : shpT.find? (fun x => x.1 == w) = none := by
     rw [List.find?_eq_none]
     intro x hx
     unfold reqB at hq
     rw [List.any_eq_false] at hq
     simp only [shpT, List.mem_cons, List.mem_nil_iff, or_false] at hx
     have q := fun y hy => hq y hy
     simp only [frmT, List.mem_cons, List.mem_nil_iff, or_false, forall_eq_or_imp, forall_eq] at q
     obtain ⟨q1, q2, q3, q4, q5, q6, q7, q8, q9, q10, q11, q12, q13⟩ := q
     rcases hx with rfl | rfl | rfl | rfl | rfl | rfl | rfl | rfl | rfl | rfl | rfl | rfl | rfl | rfl | rfl | rfl | rfl | rfl | rfl <;> (first | assumption | (simp only [beq_iff_eq]; exact fun h => by first | exact c1 h.symm | exact c2 h.symm | exact c3 h.symm | exact c4 h.symm | exact c5 h.symm | exact c6 h.symm))
    rw [hn]
    rfl
   unfold cmdI cmdF opF
   simp only [hb, hs, req_none hq]
   rw [if_neg (by simp), if_neg (fun a => c1 a.1), if_neg (fun a => c2 a.1), if_neg (fun a => c2 a.1), if_neg (fun a => c3 a.1)]
   simp
def spU : List UInt8 → List (List UInt8)
 | [] => [[]]
 | c :: r => if c = 32 then [] :: spU r else match spU r with
  | [] => [[c]]
  | h :: t => (c :: h) :: t
theorem spU_ne (l : List UInt8) : ∃ h t, spU l = h :: t := by
 cases l with
 | nil => exact ⟨[], [], rfl⟩
 | cons c r =>
  unfold spU
  split
  ·
   exact ⟨_, _, rfl⟩
  split <;> exact ⟨_, _, rfl⟩
theorem index_blank (r : List UInt8) : Lib.index (32 :: r) [32] = 0 := by
 unfold Lib.index
 rw [if_pos (by simp [List.isPrefixOf])]
theorem index_char (c : UInt8) (r : List UInt8) (h : c ≠ 32) : Lib.index (c :: r) [32] = if Lib.index r [32] == -1 then -1 else Lib.index r [32] + 1 := by
 rw [Lib.index, if_neg]
 simp only [List.isPrefixOf, Bool.and_true, beq_iff_eq]
 exact fun e => h e.symm
theorem splitK_spU : ∀ (l : List UInt8) (k : Nat), l.count 32 ≤ k → Lib.splitK [32] 0 k l = spU l
 | [], 0, _ => rfl
 | [], k + 1, _ => by
  unfold Lib.splitK
  rw [if_pos (by decide)]
  rfl
 | c :: r, k, hk => by
  by_cases h : c = 32
  ·
   subst h
   rw [List.count_cons_self] at hk
   obtain ⟨k', rfl⟩ : ∃ k', k = k' + 1 := ⟨k - 1, by omega⟩
   unfold Lib.splitK spU
   rw [index_blank, if_neg (by decide), if_pos rfl]
   have := splitK_spU r k' (by omega)
   simpa using this
  rw [List.count_cons_of_ne (fun e => h e)] at hk
  have ih := splitK_spU r k hk
  have hI := Lib.index_ge r [32]
  obtain ⟨p, t, hp⟩ := spU_ne r
  unfold spU
  rw [if_neg h, hp]
  rw [hp] at ih
  cases k with
  | zero =>
   unfold Lib.splitK at ih ⊢
   injection ih with e1 e2
   rw [e1, ← e2]
  | succ k =>
   unfold Lib.splitK at ih ⊢
   rw [index_char c r h]
   by_cases hm : Lib.index r [32] = -1
   ·
    rw [if_pos (by simpa using hm)] at ih
    rw [hm, if_pos (by decide)]
    injection ih with e1 e2
    rw [e1, ← e2]
   have h0 : 0 ≤ Lib.index r [32] := by omega
   rw [if_neg (by simpa using hm)] at ih
   have e0 : (if (Lib.index r [32] == -1) = true then (-1 : Int) else Lib.index r [32] + 1) = Lib.index r [32] + 1 := if_neg (by simpa using hm)
   rw [e0, if_neg (by simp only [beq_iff_eq]; omega)]
   injection ih with e1 e2
   have e3 : (Lib.index r [32] + 1).toNat = (Lib.index r [32]).toNat + 1 := by omega
   rw [e3, ← e1, ← e2]
   simp [Nat.add_right_comm]
theorem byte_of {x : Int} (h : 0 ≤ x ∧ x < 256) : (UInt8.ofNat x.toNat = 32 ↔ x = 32) := by
 constructor
 ·
  intro e
  have := congrArg UInt8.toNat e
  simp only [UInt8.toNat_ofNat'] at this
  have h32 : (32 : UInt8).toNat = 32 := rfl
  rw [h32] at this
  omega
 intro e
 subst e
 rfl
theorem splG_acc : ∀ (l one : List Int), ∃ h t, splG [] l = h :: t ∧ splG one l = (one ++ h) :: t
 | [], one => ⟨[], [], rfl, by simp [splG]⟩
 | c :: r, one => by
  by_cases h : c = 32
  ·
   refine ⟨[], splG [] r, by simp [splG, h], by simp [splG, h]⟩
  obtain ⟨a, t, e1, e2⟩ := splG_acc r [c]
  obtain ⟨a', t', e3, e4⟩ := splG_acc r (one ++ [c])
  rw [e1] at e3
  injection e3 with e5 e6
  refine ⟨c :: a, t, by rw [splG, if_neg h]; exact e2, ?_⟩
  rw [splG, if_neg h, e4, ← e5, ← e6]
  simp
theorem splG_spU : ∀ (l : List Int), (∀ x ∈ l, 0 ≤ x ∧ x < 256) → spU (Lib.bytesOf l) = (splG [] l).map Lib.bytesOf
 | [], _ => rfl
 | c :: r, hr => by
  have ih := splG_spU r (fun x hx => hr x (by simp [hx]))
  have hc := byte_of (hr c (by simp))
  rw [show Lib.bytesOf (c :: r) = UInt8.ofNat c.toNat :: Lib.bytesOf r from rfl]
  unfold spU
  by_cases h : c = 32
  ·
   rw [if_pos (hc.2 h), splG, if_pos h, ih]
   rfl
  rw [if_neg (fun e => h (hc.1 e)), splG, if_neg h]
  obtain ⟨a, t, e1, e2⟩ := splG_acc r ([] ++ [c])
  rw [ih, e1, e2]
  rfl
theorem strData (l : List Int) : (strOfNums l).data.toList = Lib.bytesOf l := by
 rw [← Lib.toList_data, Lib.strOfNums_toList]
theorem bytes_eq {a b : ByteArray} (h : a.data.toList = b.data.toList) : a = b := by
 cases a; cases b
 congr 1
 exact Array.toList_inj.1 h
theorem split_pieces (l : List Int) (hr : ∀ x ∈ l, 0 ≤ x ∧ x < 256) (sep : ByteArray) (hs : sep.data.toList = [32]) : Lib.splitB sep 0 (Lib.countB (strOfNums l) sep) (strOfNums l) = (splG [] l).map strOfNums := by
 have h1 := Lib.splitB_data sep 0 (Lib.countB (strOfNums l) sep) (strOfNums l)
 have e : Lib.countB (strOfNums l) sep = (Lib.bytesOf l).count 32 := by
  show Lib.count (strOfNums l).data.toList sep.data.toList = _
  rw [hs, strData, Lib.count_one]
 rw [e, hs, strData, splitK_spU _ _ (Nat.le_refl _), splG_spU l hr] at h1
 rw [e]
 have inj : ∀ a b : List ByteArray, a.map (·.data.toList) = b.map (·.data.toList) → a = b := by
  intro a
  induction a with
  | nil => intro b h; cases b with
   | nil => rfl
   | cons _ _ => simp at h
  | cons x a ih => intro b h; cases b with
   | nil => simp at h
   | cons y b =>
    simp only [List.map_cons, List.cons.injEq] at h
    rw [bytes_eq h.1, ih b h.2]
 apply inj
 rw [h1, List.map_map]
 apply List.map_congr_left
 intro q _
 exact (strData q).symm
def digs : ByteArray := ⟨#[48, 49, 50, 51, 52, 53, 54, 55, 56, 57]⟩
theorem dig_mem (b : UInt8) : (digs.data.toList.contains b) = (decide (48 ≤ b.toNat) && decide (b.toNat ≤ 57)) := by
 have : ∀ n : Fin 256, (digs.data.toList.contains (UInt8.ofNat n.1)) = (decide (48 ≤ n.1) && decide (n.1 ≤ 57)) := by decide +kernel
 have h := this ⟨b.toNat, b.toNat_lt⟩
 simpa using h
theorem dropWhile_nil {α : Type} (p : α → Bool) : ∀ (l : List α), l.dropWhile p = [] ↔ l.all p = true
 | [] => by simp
 | a :: l => by
  rw [List.dropWhile_cons]
  cases h : p a with
  | true => simpa [h] using dropWhile_nil p l
  | false => simp [h]
theorem trim_nil (l cs : List UInt8) : Lib.trimS l cs = [] ↔ l.all (cs.contains ·) = true := by
 have hR : Lib.trimRightS l cs = [] ↔ l.all (cs.contains ·) = true := by
  unfold Lib.trimRightS
  rw [List.reverse_eq_nil_iff, dropWhile_nil, List.all_reverse]
 constructor
 ·
  intro h
  rw [← hR]
  unfold Lib.trimS Lib.trimLeftS at h
  rw [dropWhile_nil] at h
  unfold Lib.trimRightS at h ⊢
  rw [List.all_reverse] at h
  cases hd : List.dropWhile (fun x => cs.contains x) l.reverse with
  | nil => rfl
  | cons a t =>
   rw [hd] at h
   simp only [List.all_cons, Bool.and_eq_true] at h
   have := List.head_dropWhile_not (p := fun x => cs.contains x) (l := l.reverse) (by rw [hd]; simp)
   simp only [hd, List.head_cons] at this
   rw [this] at h
   simp at h
 intro h
 unfold Lib.trimS
 rw [hR.2 h]
 rfl
theorem dig_trim (w : List Int) (hr : ∀ x ∈ w, 0 ≤ x ∧ x < 256) : (Lib.trimS (strOfNums w).data.toList digs.data.toList = []) ↔ digB w = true := by
 rw [strData, trim_nil]
 unfold digB Lib.bytesOf
 rw [List.all_map]
 rw [List.all_eq_true, List.all_eq_true]
 constructor
 ·
  intro h x hx
  have := h x hx
  simp only [Function.comp_apply] at this
  rw [dig_mem] at this
  have hb := hr x hx
  simp only [UInt8.toNat_ofNat', Bool.and_eq_true, decide_eq_true_eq] at this ⊢
  omega
 intro h x hx
 have := h x hx
 simp only [Function.comp_apply]
 rw [dig_mem]
 have hb := hr x hx
 simp only [UInt8.toNat_ofNat', Bool.and_eq_true, decide_eq_true_eq] at this ⊢
 omega
theorem parse_go : ∀ (w : List Int) (acc : Nat), (∀ x ∈ w, 48 ≤ x ∧ x ≤ 57) → w.length ≤ 19 → acc < 10 ^ (19 - w.length) → ∃ u : Nat, Lib.parseUintM 18446744073709551615 acc (Lib.bytesOf w) = .ok u ∧ (u : Int) = w.foldl (fun v c => v * 10 + (c - 48)) (acc : Int) ∧ u < 10 ^ 19
 | [], acc, _, _, h => ⟨acc, rfl, rfl, by simpa using h⟩
 | c :: r, acc, hr, hl, ha => by
  have hc := hr c (by simp)
  rw [List.length_cons] at hl ha
  have e1 : (UInt8.ofNat c.toNat).toNat = c.toNat := by
   simp only [UInt8.toNat_ofNat']
   omega
  have e2 : (10 : Nat) ^ (19 - r.length) = 10 * 10 ^ (19 - (r.length + 1)) := by
   rw [show 19 - r.length = (19 - (r.length + 1)) + 1 by omega, Nat.pow_succ]
   omega
  have e3 : (10 : Nat) ^ (19 - (r.length + 1)) ≤ 10 ^ 18 := Nat.pow_le_pow_right (by decide) (by omega)
  have e4 : acc * 10 + (c.toNat - 48) < 10 ^ (19 - r.length) := by rw [e2]; omega
  obtain ⟨u, h1, h2, h3⟩ := parse_go r (acc * 10 + (c.toNat - 48)) (fun x hx => hr x (by simp [hx])) (by omega) e4
  refine ⟨u, ?_, ?_, h3⟩
  ·
   rw [show Lib.bytesOf (c :: r) = UInt8.ofNat c.toNat :: Lib.bytesOf r from rfl, Lib.parseUintM, e1, if_pos (by omega), if_neg (by omega), if_neg (by omega)]
   exact h1
  rw [h2, List.foldl_cons]
  congr 1
  omega
theorem dig_all {w : List Int} (h : digB w = true) : ∀ x ∈ w, 48 ≤ x ∧ x ≤ 57 := by
 intro x hx
 unfold digB at h
 rw [List.all_eq_true] at h
 simpa using h x hx
theorem frm_parts {w : List Int} (h : frmB w = true) : 1 ≤ w.length ∧ w.length ≤ 19 ∧ digB w = true := by
 unfold frmB at h
 simpa [and_assoc] using h
theorem parse_ok (w : List Int) (h : frmB w = true) : ∃ u : Nat, Lib.parseUintB 64 (strOfNums w).data.toList = .ok u ∧ (u : Int) = numV w ∧ u < 10000000000000000000 := by
 obtain ⟨h1, h2, h3⟩ := frm_parts h
 have hw : w ≠ [] := fun e => by subst e; simp at h1
 obtain ⟨u, a, b, c⟩ := parse_go w 0 (dig_all h3) h2 (Nat.pow_pos (by decide))
 refine ⟨u, ?_, b, c⟩
 rw [strData]
 unfold Lib.parseUintB
 rw [if_neg (show ¬ Lib.bytesOf w = [] from fun e => hw (List.map_eq_nil_iff.1 e))]
 exact a
end Go.Proofs.YtbgbocdohadhoaaDoor.Print
namespace Go.Proofs
open Go.Shelf
def Tryd.laysTrim_ren : Go.Shelf.Ren := ⟨fun | 160 => 135 | 232 => 153 | 231 => 152 | 227 => 154 | 234 => 156 | 233 => 155 | 236 => 158 | 235 => 157 | 228 => 169 | 271 => 171 | 151 => 170 | 197 => 150 | 120 => 181 | 152 => 180 | 260 => 168 | 137 => 185 | 119 => 186 | 224 => 144 | 225 => 163 | 217 => 162 | 266 => 178 | n => n, fun | 9 => 9 | 4 => 4 | 3 => 3 | 5 => 5 | 117 => 183 | 116 => 182 | 0 => 0 | 124 => 186 | 21 => 21 | 105 => 169 | 46 => 146 | 119 => 199 | 139 => 202 | 138 => 201 | n => n, fun | 3 => 1 | 4 => 2 | n => n⟩
theorem Tryd.laysTrim : Go.Proofs.Lays.n160 Tryd.prog Tryd.laysTrim_ren := {
 mixed := by kernel_rfl
 f119 := Tryd.func186.trans (congrArg some (by kernel_rfl))
 f120 := Tryd.func181.trans (congrArg some (by kernel_rfl))
 f137 := Tryd.func185.trans (congrArg some (by kernel_rfl))
 f151 := Tryd.func170.trans (congrArg some (by kernel_rfl))
 f152 := Tryd.func180.trans (congrArg some (by kernel_rfl))
 f160 := Tryd.func135.trans (congrArg some (by kernel_rfl))
 f197 := Tryd.func150.trans (congrArg some (by kernel_rfl))
 f217 := Tryd.func162.trans (congrArg some (by kernel_rfl))
 f224 := Tryd.func144.trans (congrArg some (by kernel_rfl))
 f225 := Tryd.func163.trans (congrArg some (by kernel_rfl))
 f227 := Tryd.func154.trans (congrArg some (by kernel_rfl))
 f228 := Tryd.func169.trans (congrArg some (by kernel_rfl))
 f231 := Tryd.func152.trans (congrArg some (by kernel_rfl))
 f232 := Tryd.func153.trans (congrArg some (by kernel_rfl))
 f233 := Tryd.func155.trans (congrArg some (by kernel_rfl))
 f234 := Tryd.func156.trans (congrArg some (by kernel_rfl))
 f235 := Tryd.func157.trans (congrArg some (by kernel_rfl))
 f236 := Tryd.func158.trans (congrArg some (by kernel_rfl))
 f260 := Tryd.func168.trans (congrArg some (by kernel_rfl))
 f266 := Tryd.func178.trans (congrArg some (by kernel_rfl))
 f271 := Tryd.func171.trans (congrArg some (by kernel_rfl))
 t0 := Tryd.underlying0
 a0 := Tryd.isAgg0
 z0 := Tryd.sizeOf0
 v0 := Tryd.zeroValue0
 t3 := Tryd.underlying3
 a3 := Tryd.isAgg3
 z3 := Tryd.sizeOf3
 v3 := Tryd.zeroValue3
 t4 := Tryd.underlying4
 a4 := Tryd.isAgg4
 z4 := Tryd.sizeOf4
 v4 := Tryd.zeroValue4
 t5 := Tryd.underlying5
 a5 := Tryd.isAgg5
 z5 := Tryd.sizeOf5
 v5 := Tryd.zeroValue5
 t9 := Tryd.underlying9
 a9 := Tryd.isAgg9
 z9 := Tryd.sizeOf9
 v9 := Tryd.zeroValue9
 t21 := Tryd.underlying21
 a21 := Tryd.isAgg21
 z21 := Tryd.sizeOf21
 v21 := Tryd.zeroValue21
 t46 := Tryd.underlying146
 a46 := Tryd.isAgg146
 z46 := Tryd.sizeOf146
 v46 := Tryd.zeroValue146
 t105 := Tryd.underlying169
 a105 := Tryd.isAgg169
 z105 := Tryd.sizeOf169
 v105 := Tryd.zeroValue169
 t116 := Tryd.underlying182
 a116 := Tryd.isAgg182
 z116 := Tryd.sizeOf182
 t117 := Tryd.underlying183
 a117 := Tryd.isAgg183
 z117 := Tryd.sizeOf183
 v117 := Tryd.zeroValue183
 t119 := Tryd.underlying199
 a119 := Tryd.isAgg199
 z119 := Tryd.sizeOf199
 t124 := Tryd.underlying186
 a124 := Tryd.isAgg186
 z124 := Tryd.sizeOf186
 v124 := Tryd.zeroValue186
 t138 := Tryd.underlying201
 a138 := Tryd.isAgg201
 z138 := Tryd.sizeOf201
 v138 := Tryd.zeroValue201
 t139 := Tryd.underlying202
 a139 := Tryd.isAgg202
 z139 := Tryd.sizeOf202
 v139 := Tryd.zeroValue202
 g3 := by kernel_rfl
 g4 := by kernel_rfl }
def Tryd.laysGenS_ren : Go.Shelf.Ren := ⟨fun | 221 => 114 | 268 => 133 | 138 => 134 | 143 => 118 | 195 => 149 | 197 => 150 | 218 => 151 | 219 => 138 | 260 => 168 | 217 => 162 | 225 => 163 | 224 => 144 | 267 => 164 | 266 => 178 | 314 => 179 | n => n, fun | 9 => 9 | 3 => 3 | 31 => 112 | 4 => 4 | 0 => 0 | 105 => 169 | 21 => 21 | 5 => 5 | 46 => 146 | 119 => 199 | 139 => 202 | 138 => 201 | 146 => 190 | 51 => 189 | n => n, fun | 1 => 0 | 3 => 1 | 4 => 2 | n => n⟩
theorem Tryd.laysGenS : Go.Proofs.Lays.n221 Tryd.prog Tryd.laysGenS_ren := {
 mixed := by kernel_rfl
 f138 := Tryd.func134.trans (congrArg some (by kernel_rfl))
 f143 := Tryd.func118.trans (congrArg some (by kernel_rfl))
 f195 := Tryd.func149.trans (congrArg some (by kernel_rfl))
 f197 := Tryd.func150.trans (congrArg some (by kernel_rfl))
 f217 := Tryd.func162.trans (congrArg some (by kernel_rfl))
 f218 := Tryd.func151.trans (congrArg some (by kernel_rfl))
 f219 := Tryd.func138.trans (congrArg some (by kernel_rfl))
 f221 := Tryd.func114.trans (congrArg some (by kernel_rfl))
 f224 := Tryd.func144.trans (congrArg some (by kernel_rfl))
 f225 := Tryd.func163.trans (congrArg some (by kernel_rfl))
 f260 := Tryd.func168.trans (congrArg some (by kernel_rfl))
 f266 := Tryd.func178.trans (congrArg some (by kernel_rfl))
 f267 := Tryd.func164.trans (congrArg some (by kernel_rfl))
 f268 := Tryd.func133.trans (congrArg some (by kernel_rfl))
 f314 := Tryd.func179.trans (congrArg some (by kernel_rfl))
 t0 := Tryd.underlying0
 a0 := Tryd.isAgg0
 z0 := Tryd.sizeOf0
 v0 := Tryd.zeroValue0
 t3 := Tryd.underlying3
 a3 := Tryd.isAgg3
 z3 := Tryd.sizeOf3
 v3 := Tryd.zeroValue3
 t4 := Tryd.underlying4
 a4 := Tryd.isAgg4
 z4 := Tryd.sizeOf4
 v4 := Tryd.zeroValue4
 t5 := Tryd.underlying5
 a5 := Tryd.isAgg5
 z5 := Tryd.sizeOf5
 v5 := Tryd.zeroValue5
 t9 := Tryd.underlying9
 a9 := Tryd.isAgg9
 z9 := Tryd.sizeOf9
 v9 := Tryd.zeroValue9
 t21 := Tryd.underlying21
 a21 := Tryd.isAgg21
 z21 := Tryd.sizeOf21
 v21 := Tryd.zeroValue21
 t31 := Tryd.underlying112
 a31 := Tryd.isAgg112
 z31 := Tryd.sizeOf112
 v31 := Tryd.zeroValue112
 t46 := Tryd.underlying146
 a46 := Tryd.isAgg146
 z46 := Tryd.sizeOf146
 v46 := Tryd.zeroValue146
 t51 := Tryd.underlying189
 a51 := Tryd.isAgg189
 z51 := Tryd.sizeOf189
 v51 := Tryd.zeroValue189
 t105 := Tryd.underlying169
 a105 := Tryd.isAgg169
 z105 := Tryd.sizeOf169
 v105 := Tryd.zeroValue169
 t119 := Tryd.underlying199
 a119 := Tryd.isAgg199
 z119 := Tryd.sizeOf199
 t138 := Tryd.underlying201
 a138 := Tryd.isAgg201
 z138 := Tryd.sizeOf201
 v138 := Tryd.zeroValue201
 t139 := Tryd.underlying202
 a139 := Tryd.isAgg202
 z139 := Tryd.sizeOf202
 v139 := Tryd.zeroValue202
 t146 := Tryd.underlying190
 a146 := Tryd.isAgg190
 z146 := Tryd.sizeOf190
 v146 := Tryd.zeroValue190
 g1 := by kernel_rfl
 g3 := by kernel_rfl
 g4 := by kernel_rfl }
def Tryd.laysPU_ren : Go.Shelf.Ren := ⟨fun | 14 => 136 | 16 => 159 | 17 => 160 | 19 => 172 | 20 => 173 | 21 => 174 | 22 => 175 | 23 => 176 | 24 => 177 | 25 => 182 | 27 => 184 | 26 => 183 | 28 => 187 | 29 => 188 | 30 => 189 | 31 => 190 | 32 => 191 | 33 => 192 | 35 => 194 | 34 => 193 | 36 => 195 | 37 => 196 | 38 => 197 | 39 => 198 | 40 => 199 | n => n, fun | 9 => 9 | 3 => 3 | 22 => 26 | 24 => 166 | 25 => 167 | 4 => 4 | 34 => 193 | 5 => 5 | 36 => 146 | 37 => 22 | 0 => 0 | 39 => 195 | 21 => 21 | 44 => 205 | 47 => 209 | 50 => 212 | 48 => 210 | 2 => 2 | 52 => 214 | 55 => 217 | 59 => 220 | 60 => 189 | 20 => 20 | 61 => 221 | 65 => 225 | 66 => 226 | 67 => 227 | n => n, fun | 0 => 3 | 1 => 4 | 2 => 5 | 3 => 6 | 4 => 7 | n => n⟩
theorem Tryd.laysPU : Go.Proofs.LaysPu.n14 Tryd.prog Tryd.laysPU_ren := {
 mixed := by kernel_rfl
 f14 := Tryd.func136.trans (congrArg some (by kernel_rfl))
 f16 := Tryd.func159.trans (congrArg some (by kernel_rfl))
 f17 := Tryd.func160.trans (congrArg some (by kernel_rfl))
 f19 := Tryd.func172.trans (congrArg some (by kernel_rfl))
 f20 := Tryd.func173.trans (congrArg some (by kernel_rfl))
 f21 := Tryd.func174.trans (congrArg some (by kernel_rfl))
 f22 := Tryd.func175.trans (congrArg some (by kernel_rfl))
 f23 := Tryd.func176.trans (congrArg some (by kernel_rfl))
 f24 := Tryd.func177.trans (congrArg some (by kernel_rfl))
 f25 := Tryd.func182.trans (congrArg some (by kernel_rfl))
 f26 := Tryd.func183.trans (congrArg some (by kernel_rfl))
 f27 := Tryd.func184.trans (congrArg some (by kernel_rfl))
 f28 := Tryd.func187.trans (congrArg some (by kernel_rfl))
 f29 := Tryd.func188.trans (congrArg some (by kernel_rfl))
 f30 := Tryd.func189.trans (congrArg some (by kernel_rfl))
 f31 := Tryd.func190.trans (congrArg some (by kernel_rfl))
 f32 := Tryd.func191.trans (congrArg some (by kernel_rfl))
 f33 := Tryd.func192.trans (congrArg some (by kernel_rfl))
 f34 := Tryd.func193.trans (congrArg some (by kernel_rfl))
 f35 := Tryd.func194.trans (congrArg some (by kernel_rfl))
 f36 := Tryd.func195.trans (congrArg some (by kernel_rfl))
 f37 := Tryd.func196.trans (congrArg some (by kernel_rfl))
 f38 := Tryd.func197.trans (congrArg some (by kernel_rfl))
 f39 := Tryd.func198.trans (congrArg some (by kernel_rfl))
 f40 := Tryd.func199.trans (congrArg some (by kernel_rfl))
 t0 := Tryd.underlying0
 a0 := Tryd.isAgg0
 z0 := Tryd.sizeOf0
 v0 := Tryd.zeroValue0
 i0 := by kernel_rfl
 t2 := Tryd.underlying2
 a2 := Tryd.isAgg2
 z2 := Tryd.sizeOf2
 v2 := Tryd.zeroValue2
 i2 := by kernel_rfl
 t3 := Tryd.underlying3
 a3 := Tryd.isAgg3
 z3 := Tryd.sizeOf3
 v3 := Tryd.zeroValue3
 i3 := by kernel_rfl
 t4 := Tryd.underlying4
 a4 := Tryd.isAgg4
 z4 := Tryd.sizeOf4
 v4 := Tryd.zeroValue4
 i4 := by kernel_rfl
 t5 := Tryd.underlying5
 a5 := Tryd.isAgg5
 z5 := Tryd.sizeOf5
 v5 := Tryd.zeroValue5
 i5 := by kernel_rfl
 t9 := Tryd.underlying9
 a9 := Tryd.isAgg9
 z9 := Tryd.sizeOf9
 v9 := Tryd.zeroValue9
 i9 := by kernel_rfl
 t20 := Tryd.underlying20
 a20 := Tryd.isAgg20
 z20 := Tryd.sizeOf20
 v20 := Tryd.zeroValue20
 i20 := by kernel_rfl
 t21 := Tryd.underlying21
 a21 := Tryd.isAgg21
 z21 := Tryd.sizeOf21
 v21 := Tryd.zeroValue21
 i21 := by kernel_rfl
 t22 := Tryd.underlying26
 a22 := Tryd.isAgg26
 z22 := Tryd.sizeOf26
 v22 := Tryd.zeroValue26
 i22 := by kernel_rfl
 t24 := Tryd.underlying166
 a24 := Tryd.isAgg166
 z24 := Tryd.sizeOf166
 v24 := Tryd.zeroValue166
 i24 := by kernel_rfl
 t25 := Tryd.underlying167
 a25 := Tryd.isAgg167
 z25 := Tryd.sizeOf167
 v25 := Tryd.zeroValue167
 i25 := by kernel_rfl
 t34 := Tryd.underlying193
 a34 := Tryd.isAgg193
 z34 := Tryd.sizeOf193
 v34 := Tryd.zeroValue193
 i34 := by kernel_rfl
 c34 := by kernel_rfl
 t36 := Tryd.underlying146
 a36 := Tryd.isAgg146
 z36 := Tryd.sizeOf146
 v36 := Tryd.zeroValue146
 i36 := by kernel_rfl
 t37 := Tryd.underlying22
 a37 := Tryd.isAgg22
 z37 := Tryd.sizeOf22
 v37 := Tryd.zeroValue22
 i37 := by kernel_rfl
 t39 := Tryd.underlying195
 a39 := Tryd.isAgg195
 z39 := Tryd.sizeOf195
 v39 := Tryd.zeroValue195
 i39 := by kernel_rfl
 t44 := Tryd.underlying205
 a44 := Tryd.isAgg205
 z44 := Tryd.sizeOf205
 v44 := Tryd.zeroValue205
 i44 := by kernel_rfl
 t47 := Tryd.underlying209
 a47 := Tryd.isAgg209
 z47 := Tryd.sizeOf209
 v47 := Tryd.zeroValue209
 i47 := by kernel_rfl
 t48 := Tryd.underlying210
 a48 := Tryd.isAgg210
 z48 := Tryd.sizeOf210
 v48 := Tryd.zeroValue210
 i48 := by kernel_rfl
 t50 := Tryd.underlying212
 a50 := Tryd.isAgg212
 z50 := Tryd.sizeOf212
 v50 := Tryd.zeroValue212
 i50 := by kernel_rfl
 t52 := Tryd.underlying214
 a52 := Tryd.isAgg214
 z52 := Tryd.sizeOf214
 v52 := Tryd.zeroValue214
 i52 := by kernel_rfl
 t55 := Tryd.underlying217
 a55 := Tryd.isAgg217
 z55 := Tryd.sizeOf217
 v55 := Tryd.zeroValue217
 i55 := by kernel_rfl
 t59 := Tryd.underlying220
 a59 := Tryd.isAgg220
 z59 := Tryd.sizeOf220
 v59 := Tryd.zeroValue220
 i59 := by kernel_rfl
 t60 := Tryd.underlying189
 a60 := Tryd.isAgg189
 z60 := Tryd.sizeOf189
 v60 := Tryd.zeroValue189
 i60 := by kernel_rfl
 t61 := Tryd.underlying221
 a61 := Tryd.isAgg221
 z61 := Tryd.sizeOf221
 t65 := Tryd.underlying225
 a65 := Tryd.isAgg225
 z65 := Tryd.sizeOf225
 v65 := Tryd.zeroValue225
 i65 := by kernel_rfl
 t66 := Tryd.underlying226
 a66 := Tryd.isAgg226
 z66 := Tryd.sizeOf226
 v66 := Tryd.zeroValue226
 i66 := by kernel_rfl
 t67 := Tryd.underlying227
 a67 := Tryd.isAgg227
 z67 := Tryd.sizeOf227
 v67 := Tryd.zeroValue227
 i67 := by kernel_rfl
 g0 := by kernel_rfl
 m0 := by kernel_rfl
 g1 := by kernel_rfl
 m1 := by kernel_rfl
 g2 := by kernel_rfl
 m2 := by kernel_rfl
 g3 := by kernel_rfl
 m3 := by kernel_rfl
 g4 := by kernel_rfl
 m4 := by kernel_rfl }
def Tryd.laysTSuf_ren : Go.Shelf.Ren := ⟨fun | 102 => 117 | 209 => 137 | 207 => 161 | n => n, fun | 9 => 9 | 4 => 4 | 3 => 3 | n => n, fun | n => n⟩
theorem Tryd.laysTSuf : Go.Proofs.Lays.n102 Tryd.prog Tryd.laysTSuf_ren := {
 mixed := by kernel_rfl
 f102 := Tryd.func117.trans (congrArg some (by kernel_rfl))
 f207 := Tryd.func161.trans (congrArg some (by kernel_rfl))
 f209 := Tryd.func137.trans (congrArg some (by kernel_rfl))
 t3 := Tryd.underlying3
 a3 := Tryd.isAgg3
 z3 := Tryd.sizeOf3
 v3 := Tryd.zeroValue3
 t4 := Tryd.underlying4
 a4 := Tryd.isAgg4
 z4 := Tryd.sizeOf4
 v4 := Tryd.zeroValue4
 t9 := Tryd.underlying9
 a9 := Tryd.isAgg9
 z9 := Tryd.sizeOf9
 v9 := Tryd.zeroValue9 }
def Tryd.laysDel_ren : Go.Shelf.Ren := ⟨fun | 10 => 78 | 6 => 113 | n => n, fun | 22 => 112 | 23 => 9 | 25 => 115 | 3 => 3 | 4 => 4 | 0 => 0 | n => n, fun | n => n⟩
theorem Tryd.laysDel : Go.Proofs.SlLaysH.n10 Tryd.prog Tryd.laysDel_ren := {
 mixed := by kernel_rfl
 f6 := ⟨Tryd.f113.name, by decide, Tryd.func113.trans (congrArg some (by kernel_rfl))⟩
 f10 := ⟨Tryd.f78.name, by decide, Tryd.func78.trans (congrArg some (by kernel_rfl))⟩
 t0 := Tryd.underlying0
 a0 := Tryd.isAgg0
 z0 := Tryd.sizeOf0
 v0 := Tryd.zeroValue0
 t3 := Tryd.underlying3
 a3 := Tryd.isAgg3
 z3 := Tryd.sizeOf3
 v3 := Tryd.zeroValue3
 t4 := Tryd.underlying4
 a4 := Tryd.isAgg4
 z4 := Tryd.sizeOf4
 v4 := Tryd.zeroValue4
 t22 := Tryd.underlying112
 a22 := Tryd.isAgg112
 z22 := Tryd.sizeOf112
 v22 := Tryd.zeroValue112
 a23 := Tryd.isAgg9
 z23 := Tryd.sizeOf9
 t25 := Tryd.underlying115
 a25 := Tryd.isAgg115
 z25 := Tryd.sizeOf115
 v25 := Tryd.zeroValue115 }
end Go.Proofs
namespace Go.Proofs.YtbgbocdohadhoaaDoor.Print
open Go Go.RowKit Go.Proofs.YtbgbocdohadhoaaDoorW.PrintWords Go.Proofs.YtbgbocdohadhoaaDoorW.PrintLast Go.Proofs.YtbgbocdohadhoaaDoorW.PrintMore
set_option linter.unusedVariables false
set_option linter.unusedSimpArgs false
section
open Go.Shelf
theorem trim_calls (s : ByteArray) (w : World) (hs : s.size ≤ 2097152) :
  Calls Tryd.prog 135 #[.string s, .string ⟨#[48, 49, 50, 51, 52, 53, 54, 55, 56, 57]⟩] w fun e w' => e = .returned (.string ⟨(Lib.trimS s.data.toList digs.data.toList).toArray⟩) ∧ Below w.heap.size w w' :=
 Any.strings_Trim_laid Tryd.laysTrim (by kernel_rfl) s digs w (by omega) (by decide) (ascii_of_all (by decide))
theorem parse_calls (s : ByteArray) (w : World) (hs : s.size ≤ 2097152) (u : Nat) (h : Lib.parseUintB 64 s.data.toList = .ok u) :
  Calls Tryd.prog 136 #[.string s, .int .i64 10, .int .i64 64] w fun e w' => e = .returned (.tuple #[.int .u64 u, .nilIface]) ∧ Below w.heap.size w w' := by
 refine (Any.strconv_ParseUint_10_at64_ok Tryd.laysPU s (by omega) u h w).mono ?_
 rintro e w' ⟨rfl, hw⟩
 refine ⟨rfl, ?_⟩
 rcases hw with rfl | rfl
 ·
  exact Below.refl _ _
 exact bytes_below (Below.refl _ _) (Nat.le_refl _) _ _
set_option maxHeartbeats 2000000 in
set_option maxRecDepth 100000 in
theorem counter_calls (q : List Int) (hq : ∀ x ∈ q, 0 ≤ x ∧ x < 256) (hl : q.length ≤ 2097152) (w : World) :
  Calls Tryd.prog 115 #[.string (strOfNums q)] w fun e w' => e = .returned (.tuple #[.int .u64 (tkV q), .bool (cntB q 4611686018427387904)]) ∧ Below w.heap.size w w' := by
 have hs : (strOfNums q).size = q.length := strOfNums_size q
 have hT := trim_calls (strOfNums q) w (by omega)
 have hD := dig_trim q hq
 obtain ⟨t, ht⟩ : ∃ t : ByteArray, (⟨(Lib.trimS (strOfNums q).data.toList digs.data.toList).toArray⟩ : ByteArray) = t := ⟨_, rfl⟩
 have ht2 : t.toList = [] ↔ digB q = true := by
  rw [← hD, Lib.toList_data, ← ht]
 rw [ht] at hT
 have HT := Aside0.mk hT
 have hU : frmB q = true → ∃ u : Nat, Lib.parseUintB 64 (strOfNums q).data.toList = .ok u ∧ (u : Int) = numV q ∧ u < 10000000000000000000 := parse_ok q
 have hF : frmB q = (decide (1 ≤ q.length) && decide (q.length ≤ 19) && digB q) := rfl
 have hC : cntB q 4611686018427387904 = (frmB q && decide (numV q ≤ 4611686018427387904)) := rfl
 have hV : tkV q = if frmB q = true then numV q else 0 := rfl
 obtain ⟨s, hse⟩ : ∃ s, strOfNums q = s := ⟨_, rfl⟩
 rw [hse] at hs HT hU ⊢
 obtain ⟨n, hn⟩ : ∃ n, q.length = n := ⟨_, rfl⟩
 rw [hn] at hs hF hl
 obtain ⟨fb, hfb⟩ : ∃ fb, frmB q = fb := ⟨_, rfl⟩
 obtain ⟨db, hdb⟩ : ∃ db, digB q = db := ⟨_, rfl⟩
 rw [hfb, hdb] at hF
 rw [hdb] at ht2
 rw [hfb] at hU hC hV
 generalize tkV q = tv at *
 generalize cntB q 4611686018427387904 = cb at *
 generalize numV q = nv at *
 clear hT hD ht hse hn hfb hdb hq
 have H := Aside0.mk (And.intro hs (And.intro hl (And.intro hF (And.intro hC hV))))
 have HU := Aside0.mk hU
 have HN := Aside0.mk ht2
 clear hF hC hV hU ht2 hl
 go_enter Tryd.func115, Tryd.ntmps115
 by_cases h1 : n < 1
 ·
  have c1 : decide (s.size < 1) = true := decide_eq_true (by omega)
  have c2 : decide ((s.size : Int) < 1) = true := decide_eq_true (by omega)
  have c3 : s.size = 0 := by omega
  obtain ⟨_, _, h3, h4, h5⟩ := H.out
  have e1 : fb = false := by rw [h3, decide_eq_false (by omega)]; rfl
  have e2 : tv = 0 := by rw [h5, e1, if_neg (by decide)]
  have e3 : cb = false := by rw [h4, e1]; rfl
  subst e2 e3
  clear h3 h4 h5 e1 hs
  go_wp2_with fail
  go_ret2
  exact ⟨rfl, Below.refl _ _⟩
 have c1 : decide ((s.size : Int) < 1) = false := decide_eq_false (by omega)
 have c1n : decide (s.size < 1) = false := decide_eq_false (by omega)
 have c1p : (s.size : Int) ≠ 0 := by omega
 by_cases h2 : 19 < n
 ·
  have c2 : decide ((19 : Int) < (s.size : Int)) = true := decide_eq_true (by omega)
  have c2n : decide (19 < s.size) = true := decide_eq_true (by omega)
  obtain ⟨_, _, h3, h4, h5⟩ := H.out
  have e1 : fb = false := by rw [h3, decide_eq_false (show ¬ n ≤ 19 by omega), Bool.and_false]; rfl
  have e2 : tv = 0 := by rw [h5, e1, if_neg (by decide)]
  have e3 : cb = false := by rw [h4, e1]; rfl
  subst e2 e3
  clear h3 h4 h5 e1 hs
  go_wp2_with fail
  go_ret2
  exact ⟨rfl, Below.refl _ _⟩
 have c2 : decide ((19 : Int) < (s.size : Int)) = false := decide_eq_false (by omega)
 have c2n : decide (19 < s.size) = false := decide_eq_false (by omega)
 have HS := Aside0.mk (And.intro hs (And.intro h1 h2))
 clear hs h1 h2
 go_wp2_with fail
 refine HT.out.mono ?_
 rintro e w1 ⟨rfl, hb⟩
 have HB := Aside0.mk hb
 clear hb HT
 cases db with
 | false =>
  have hne : ¬ t.toList = [] := fun h => by have := HN.out.1 h; cases this
  have t1 : t.toList ≠ [] := hne
  have t2 : t.toList.isEmpty = false := by simpa using hne
  obtain ⟨_, _, h3, h4, h5⟩ := H.out
  have e1 : fb = false := by rw [h3, Bool.and_false]
  have e2 : tv = 0 := by rw [h5, e1, if_neg (by decide)]
  have e3 : cb = false := by rw [h4, e1]; rfl
  subst e2 e3
  clear h3 h4 h5 e1 hne
  go_wp2_with fail
  go_ret2
  exact ⟨rfl, HB.out⟩
 | true =>
  have t1 : t.toList = [] := HN.out.2 rfl
  have t2 : t.toList.isEmpty = true := by simpa using t1
  obtain ⟨_, h2, h3, h4, h5⟩ := H.out
  have hs := HS.out
  have e1 : fb = true := by rw [h3, decide_eq_true (show 1 ≤ n by omega), decide_eq_true (show n ≤ 19 by omega)]; rfl
  obtain ⟨u, hu1, hu2, hu3⟩ := HU.out e1
  have e2 : tv = (u : Int) := by rw [h5, e1, if_pos rfl, hu2]
  have e3 : cb = decide ((u : Int) ≤ 4611686018427387904) := by rw [h4, e1, hu2]; rfl
  have HP := Aside0.mk (parse_calls s w1 (by omega) u hu1)
  have HE := Aside0.mk (And.intro e2 e3)
  clear h2 h3 h4 h5 e1 e2 e3 hs hu1 hu2
  go_wp2_with fail
  refine HP.out.mono ?_
  rintro e w2 ⟨rfl, hb⟩
  replace HB := Aside0.mk (below_step HB.out hb)
  clear hb HP t1 t2
  by_cases hle : u ≤ 4611686018427387904
  ·
   have d1 : decide ((u : Int) ≤ 4611686018427387904) = true := decide_eq_true (by omega)
   have d2 : decide (u ≤ 4611686018427387904) = true := decide_eq_true hle
   go_wp2_with fail
   go_ret2
   rw [HE.out.1, HE.out.2, d1]
   exact ⟨rfl, HB.out⟩
  have d1 : decide ((u : Int) ≤ 4611686018427387904) = false := decide_eq_false (by omega)
  have d2 : decide (u ≤ 4611686018427387904) = false := decide_eq_false hle
  go_wp2_with fail
  go_ret2
  rw [HE.out.1, HE.out.2, d1]
  exact ⟨rfl, HB.out⟩
theorem tkV_range (q : List Int) : 0 ≤ tkV q ∧ tkV q < 10000000000000000000 := by
 unfold tkV
 split
 ·
  rename_i h
  obtain ⟨u, _, h2, h3⟩ := parse_ok q h
  omega
 omega
theorem tk_cnt (q : List Int) : cntB q 1000000 = (cntB q 4611686018427387904 && decide (tkV q ≤ 1000000)) := by
 unfold cntB tkV
 cases h : frmB q with
 | false => rfl
 | true =>
  simp only [Bool.true_and, if_true]
  by_cases h1 : numV q ≤ 1000000
  ·
   rw [decide_eq_true h1, decide_eq_true (show numV q ≤ 4611686018427387904 by omega)]; rfl
  rw [decide_eq_false h1, Bool.and_false]
def tkI (q : List Int) : Int := wrap64 (tkV q)
set_option maxHeartbeats 2000000 in
set_option maxRecDepth 100000 in
theorem ticks_calls (q : List Int) (hq : ∀ x ∈ q, 0 ≤ x ∧ x < 256) (hl : q.length ≤ 2097152) (w : World) :
  Calls Tryd.prog 81 #[.string (strOfNums q)] w fun e w' => e = .returned (.tuple #[.int .i64 (tkI q), .bool (cntB q 1000000)]) ∧ Below w.heap.size w w' := by
 have HC := Aside0.mk (counter_calls q hq hl w)
 have hT := tk_cnt q
 obtain ⟨hr1, hr2⟩ := tkV_range q
 have hI : tkI q = wrap64 (tkV q) := rfl
 generalize tkI q = ti at *
 generalize tkV q = tv at *
 generalize cntB q 1000000 = cm at *
 generalize cntB q 4611686018427387904 = cb at *
 have HT := Aside0.mk (And.intro hT hI)
 clear hT hI hq hl
 go_enter Tryd.func81, Tryd.ntmps81
 go_wp2_with fail
 refine HC.out.mono ?_
 rintro e w1 ⟨rfl, hb⟩
 have HB := Aside0.mk hb
 clear hb HC
 cases cb with
 | false =>
  go_wp2_with fail
  go_ret2
  rw [HT.out.1, HT.out.2]
  exact ⟨rfl, HB.out⟩
 | true =>
  by_cases hle : tv ≤ 1000000
  ·
   have d1 : decide (tv ≤ 1000000) = true := decide_eq_true hle
   have HW := Aside0.mk (show wrap64 tv = tv by unfold wrap64; omega)
   go_wp2_with fail
   go_ret2
   rw [HT.out.1, HT.out.2, d1, HW.out]
   exact ⟨rfl, HB.out⟩
  have d1 : decide (tv ≤ 1000000) = false := decide_eq_false hle
  go_wp2_with fail
  go_ret2
  rw [HT.out.1, HT.out.2, d1]
  exact ⟨rfl, HB.out⟩
end
theorem strOf_inj : ∀ {a b : List Int}, (∀ x ∈ a, 0 ≤ x ∧ x < 256) → (∀ x ∈ b, 0 ≤ x ∧ x < 256) → strOfNums a = strOfNums b → a = b := by
 intro a b ha hb h
 have e := congrArg (fun s : ByteArray => s.data.toList) h
 simp only [strData] at e
 clear h
 unfold Lib.bytesOf at e
 induction a generalizing b with
 | nil => cases b with
  | nil => rfl
  | cons y b => simp at e
 | cons x a ih => cases b with
  | nil => simp at e
  | cons y b =>
   simp only [List.map_cons, List.cons.injEq] at e
   have hx := ha x (by simp)
   have hy := hb y (by simp)
   have e1 := congrArg UInt8.toNat e.1
   simp only [UInt8.toNat_ofNat'] at e1
   rw [ih (fun z hz => ha z (by simp [hz])) (fun z hz => hb z (by simp [hz])) e.2, show x = y by omega]
def TabS (es : Array MapEntry) (L : List (List Int × Value)) : Prop := es.toList.map (fun e => (e.key, e.val)) = L.map (fun p => (Value.string (strOfNums p.1), p.2))
def KeysS (L : List (List Int × Value)) : Prop := ∀ p ∈ L, ∀ x ∈ p.1, 0 ≤ x ∧ x < 256
theorem findNow_tabS (q : List Int) (hq : ∀ x ∈ q, 0 ≤ x ∧ x < 256) : ∀ (l : List MapEntry) (L : List (List Int × Value)) (i : Nat), KeysS L → l.map (fun e => (e.key, e.val)) = L.map (fun p => (Value.string (strOfNums p.1), p.2)) → ∃ r, Instr.findNow .string (.string (strOfNums q)) l i = some r ∧ r.map (·.2) = (L.find? (fun p => p.1 == q)).map (·.2) := by
 intro l
 induction l with
 | nil =>
  intro L i _ h
  cases L with
  | nil => exact ⟨none, rfl, rfl⟩
  | cons p L => simp at h
 | cons e l ih =>
  intro L i hK h
  cases L with
  | nil => simp at h
  | cons p L =>
   simp only [List.map_cons, List.cons.injEq, Prod.mk.injEq] at h
   obtain ⟨⟨h1, h2⟩, h3⟩ := h
   obtain ⟨r, hr, hiff⟩ := MapKept.sameNow_of_keys (d := .string) (a := .string (strOfNums q)) (b := .string (strOfNums p.1)) (by simp [MapKept.IsKey]) (by simp [MapKept.IsKey])
   unfold Instr.findNow
   rw [h1, hr]
   by_cases c : q = p.1
   ·
    have e1 : r = true := hiff.2 (by rw [c])
    have e2 : (p.1 == q) = true := beq_iff_eq.2 c.symm
    rw [e1]
    refine ⟨_, rfl, ?_⟩
    rw [List.find?_cons_of_pos (by exact e2)]
    simp [h2]
   have e1 : r = false := by
    cases hb : r with
    | false => rfl
    | true =>
     have := hiff.1 hb
     injection this with this
     exact absurd (strOf_inj hq (hK p (by simp)) this) c
   have e2 : ¬ (p.1 == q) = true := by simp; exact fun h => c h.symm
   rw [e1, List.find?_cons_of_neg (by exact e2)]
   exact ih L (i + 1) (fun z hz => hK z (by simp [hz])) h3
theorem run_insertS {P : Program} {w : World} {t k e : TypeId} {b : Nat} {es : Array MapEntry} {L : List (List Int × Value)} {c : Nat} (ht : P.underlying t = some (.map k e)) (hk : P.underlying k = some .string) (hb : w.heap[b]? = some (.map es c)) (hL : TabS es L) (hK : KeysS L) (n : List Int) (hn : ∀ x ∈ n, 0 ≤ x ∧ x < 256) (v : Value) (hno : L.find? (fun p => p.1 == n) = none) :
  (Instr.mapUpdate t (.map (some b)) (.string (strOfNums n)) v).run P w = .ok () (w.putObj b (.map (es.push { key := .string (strOfNums n), val := v, born := c }) (c + 1))) := by
 obtain ⟨r, hr, hr2⟩ := findNow_tabS n hn es.toList L 0 hK hL
 rw [hno] at hr2
 obtain rfl : r = none := by cases r <;> simp_all
 have hc : (Instr.checkKey false 10000 k (.string (strOfNums n))).run P w = .ok () w := MapKept.run_checkKey (k := .string (strOfNums n)) hk (by simp [MapKept.IsKey]) false 9999
 simp [Instr.mapUpdate, run_underlying ht, MapKept.run_getObj_map hb, hc, MapKept.run_findKey hk hr, MapKept.run_setObj_map _ hb, Result.andThen]
 rfl
theorem run_lookupS {P : Program} {w : World} {t k e : TypeId} {b : Nat} {es : Array MapEntry} {L : List (List Int × Value)} {c : Nat} (ht : P.underlying t = some (.map k e)) (hk : P.underlying k = some .string) (hb : w.heap[b]? = some (.map es c)) (hL : TabS es L) (hK : KeysS L) (n : List Int) (hn : ∀ x ∈ n, 0 ≤ x ∧ x < 256) (z : Value) (hz : (zeroValue e).run P w = .ok z w) :
  (Instr.lookup t (.map (some b)) (.string (strOfNums n)) true).run P w = .ok (.tuple #[((L.find? (fun p => p.1 == n)).map (·.2)).getD z, .bool (L.find? (fun p => p.1 == n)).isSome]) w := by
 obtain ⟨r, hr, hr2⟩ := findNow_tabS n hn es.toList L 0 hK hL
 have hc : (Instr.checkKey es.isEmpty 10000 k (.string (strOfNums n))).run P w = .ok () w := MapKept.run_checkKey (k := .string (strOfNums n)) hk (by simp [MapKept.IsKey]) es.isEmpty 9999
 cases hf : L.find? (fun p => p.1 == n) with
 | none =>
  rw [hf] at hr2
  obtain rfl : r = none := by cases r <;> simp_all
  simp [Instr.lookup, run_underlying ht, MapKept.run_getObj_map hb, hc, MapKept.run_findKey hk hr, Result.andThen, hz]
 | some p =>
  rw [hf] at hr2
  obtain ⟨q, rfl⟩ : ∃ q, r = some q := by cases r <;> simp_all
  have hq : q.2 = p.2 := by simpa using hr2
  obtain ⟨q1, q2⟩ := q
  simp only at hq
  subst hq
  simp [Instr.lookup, run_underlying ht, MapKept.run_getObj_map hb, hc, MapKept.run_findKey hk hr, Result.andThen]
theorem TabS.push {es : Array MapEntry} {L : List (List Int × Value)} (h : TabS es L) (n : List Int) (v : Value) (c : Nat) : TabS (es.push { key := .string (strOfNums n), val := v, born := c }) (L ++ [(n, v)]) := by
 unfold TabS at *
 simp [h]
structure KM (w W : World) (b : Nat) (L : List (List Int × Value)) : Prop where
 m : ∃ es c, W.heap[b]? = some (.map es c) ∧ TabS es L
 k : KeysS L
 be : Below w.heap.size w W
 hb : w.heap.size ≤ b
theorem KM.new {w W : World} (h : Below w.heap.size w W) : KM w (W.alloc (.map #[] 0)) W.heap.size [] := ⟨⟨#[], 0, blk_new W _, rfl⟩, fun p h => by simp at h, below_alloc h _, h.size⟩
theorem KM.step {w W : World} {b : Nat} {L : List (List Int × Value)} (h : KM w W b L) (n : List Int) (hn : ∀ x ∈ n, 0 ≤ x ∧ x < 256) (v : Value) {es : Array MapEntry} {c : Nat} (hm : W.heap[b]? = some (.map es c)) (ht : TabS es L) :
  KM w (W.putObj b (.map (es.push { key := .string (strOfNums n), val := v, born := c }) (c + 1))) b (L ++ [(n, v)]) := by
 have hlt := blk_lt hm
 refine ⟨⟨_, _, World.putObj_heap_same hlt, ht.push n v c⟩, fun p hp => ?_, ?_, h.hb⟩
 ·
  rcases List.mem_append.1 hp with hp | hp
  ·
   exact h.k p hp
  simp only [List.mem_singleton] at hp
  subst hp
  exact hn
 exact h.be.grown (grownBy_putObj' W b _) h.be.size (fun k e => by cases e; exact h.hb)
theorem KM.below {w W W' : World} {b : Nat} {L : List (List Int × Value)} (h : KM w W b L) (hb : Below W.heap.size W W') : KM w W' b L := by
 obtain ⟨es, c, h1, h2⟩ := h.m
 exact ⟨⟨es, c, (hb.block b (blk_lt h1)).trans h1, h2⟩, h.k, below_step h.be hb, h.hb⟩
theorem wpList_insertS {P : Program} {ops : Array Oper} {rest : List Oper} {o : Oper} {a : Act} {Q : Exit → Act → World → Prop} {w W : World} {b : Nat} {L : List (List Int × Value)} (hg : o.guard = none) (t k e : TypeId) (m x : Operand) (s : ByteArray) (hop : o.op = .insert t m (.const (.string s)) x) (ht : P.underlying t = some (.map k e)) (hk : P.underlying k = some .string) (hm : a.eval m = .map (some b))
  (H : KM w W b L) (hno : L.find? (fun p => p.1 == bytesOf s) = none) (v : Value) (hv : a.eval x = v) (h : ∀ W', KM w W' b (L ++ [(bytesOf s, v)]) → wpList P ops Q rest (a.put o.dst undef) W') : wpList P ops Q (o :: rest) a W := by
 obtain ⟨es, c, he, hT⟩ := H.m
 obtain ⟨n, en⟩ : ∃ n, bytesOf s = n := ⟨_, rfl⟩
 have hs : s = strOfNums n := by
  apply bytes_eq
  rw [strData, ← en]
  unfold bytesOf Lib.bytesOf
  rw [List.map_map]
  exact (List.map_id'' (fun b => by simp) _).symm
 have hn' : ∀ x ∈ n, 0 ≤ x ∧ x < 256 := fun x hx => by
  rw [← en] at hx
  unfold bytesOf at hx
  obtain ⟨y, _, rfl⟩ := List.mem_map.1 hx
  have := y.toNat_lt
  omega
 rw [en] at hno h
 clear en
 subst hs
 have hr := run_insertS (P := P) ht hk he hT H.k n hn' v hno
 refine wpList_plain hg fun K hK => ?_
 unfold Oper.wp
 have hcn : a.eval (Operand.const (.string (strOfNums n))) = .string (strOfNums n) := rfl
 simp [execOp, hop, hm, hv, hcn, hr, Result.andThen]
 exact hK _ _ (h _ (H.step n hn' v he hT))
def fv (k : Int) (f : List Int) : Value := .agg #[.int .i64 k, .string (strOfNums f)]
def formsL : List (List Int × Value) := frmT.map fun x => (x.1, fv x.2.1 x.2.2)
theorem forms_find (q : List Int) : (formsL.find? (fun p => p.1 == q)).map (·.2) = (ofrF q).map (fun x => fv x.1 x.2) ∧ (formsL.find? (fun p => p.1 == q)).isSome = (ofrF q).isSome := by
 unfold formsL ofrF
 rw [List.find?_map]
 simp only [Function.comp_def]
 cases frmT.find? (fun x => x.1 == q) with
 | none => exact ⟨rfl, rfl⟩
 | some x => exact ⟨rfl, rfl⟩
set_option maxHeartbeats 2000000 in
set_option maxRecDepth 100000 in
theorem forms_calls (w : World) :
  Calls Tryd.prog 116 #[] w fun e w' => ∃ b, e = .returned (.map (some b)) ∧ KM w w' b formsL := by
 have HK := Aside0.mk (KM.new (Below.refl w.heap.size w))
 have hmm := @run_makeMap Tryd.prog
 go_enter Tryd.func116, Tryd.ntmps116
 go_wp2_with (refine wpList_insertS (w := w) rfl 155 9 153 (.tmp 1) _ _ rfl Tryd.underlying155 Tryd.underlying9 rfl HK.out (by kernel_rfl) _ rfl ?_; intro W' h'; have n_ := Aside0.mk h'; clear HK h'; have HK := n_; clear n_)
 go_ret
 exact ⟨_, rfl, HK.out⟩
section
open Go.Shelf
set_option maxHeartbeats 2000000 in
set_option maxRecDepth 100000 in
theorem lite_calls (s sb : ByteArray) (w : World) (hs : s.size = 2) (hn : 2 ≤ sb.size) (hb : sb.size ≤ 2097152) :
  Calls Tryd.prog 138 #[.string s, .string sb] w fun e w' => e = .returned (.int .i64 (if (sb.toList == s.toList) = true then 0 else -1)) ∧ w' = w := by
 have c1 : ((sb.size : Int) == 0) = false := beq_eq_false_iff_ne.2 (by omega)
 have c2 : ¬ ((sb.size : Int) = 0) := by omega
 have c3 : ((sb.size : Int) == 1) = false := beq_eq_false_iff_ne.2 (by omega)
 have c4 : ¬ ((sb.size : Int) = 1) := by omega
 have c5 : decide ((s.size : Int) ≤ (sb.size : Int)) = true := decide_eq_true (by omega)
 have c6 : decide (s.size ≤ sb.size) = true := decide_eq_true (by omega)
 have c7 : (sb.size == 0) = false := beq_eq_false_iff_ne.2 (by omega)
 have c8 : (sb.size == 1) = false := beq_eq_false_iff_ne.2 (by omega)
 have c9 : ¬ (sb.size = 0) := by omega
 have c10 : ¬ (sb.size = 1) := by omega
 clear hs hn hb
 cases hq : (sb.toList == s.toList) with
 | true =>
  go_enter Tryd.func138, Tryd.ntmps138
  go_wp2_with fail
  go_ret
  exact ⟨rfl, rfl⟩
 | false =>
  go_enter Tryd.func138, Tryd.ntmps138
  go_wp2_with fail
  go_ret
  exact ⟨rfl, rfl⟩
def at2 (a b : Int) (x : List Int) : Int := if x = [a] then 0 else if x = [b] then 1 else -1
theorem index2_calls (a b : Int) (ha : 0 ≤ a ∧ a < 256) (hb : 0 ≤ b ∧ b < 256) (x : List Int) (hx : ∀ z ∈ x, 0 ≤ z ∧ z < 256) (h1 : 1 ≤ x.length) (hl : x.length ≤ 2097152) (w : World) :
  Calls Tryd.prog 118 #[.string (strOfNums [a, b]), .string (strOfNums x)] w fun e w' => ∃ v : Int, e = .returned (.int .i64 v) ∧ (v = 0 ∨ v = 1 ∨ v = -1) ∧ (x.length = 1 → v = at2 a b x) ∧ w' = w := by
 by_cases h : x.length = 1
 ·
  obtain ⟨z, rfl⟩ : ∃ z, x = [z] := by
   match x, h with
   | [z], _ => exact ⟨z, rfl⟩
  have hz := hx z (by simp)
  have he : strOfNums [z] = ⟨#[UInt8.ofNat z.toNat]⟩ := bytes_eq (by rw [strData]; rfl)
  rw [he]
  refine (Any.strings_Index_one { Tryd.laysGenS with } (strOfNums [a, b]) (UInt8.ofNat z.toNat) w).mono ?_
  rintro e w' ⟨rfl, hw⟩
  have hv : Lib.indexByte (strOfNums [a, b]).data.toList (UInt8.ofNat z.toNat) = at2 a b [z] := by
   rw [strData]
   have inj : ∀ p q : Int, (0 ≤ p ∧ p < 256) → (0 ≤ q ∧ q < 256) → (UInt8.ofNat p.toNat = UInt8.ofNat q.toNat ↔ p = q) := by
    intro p q hp hq
    constructor
    ·
     intro e
     have := congrArg UInt8.toNat e
     simp only [UInt8.toNat_ofNat'] at this
     omega
    rintro rfl; rfl
   show Lib.indexByte [UInt8.ofNat a.toNat, UInt8.ofNat b.toNat] _ = _
   unfold at2
   simp only [List.cons.injEq, and_true]
   by_cases e1 : z = a
   ·
    subst e1
    simp [Lib.indexByte]
   have n1 : ¬ (UInt8.ofNat a.toNat = UInt8.ofNat z.toNat) := fun e => e1 ((inj a z ha hz).1 e).symm
   rw [if_neg e1]
   by_cases e2 : z = b
   ·
    subst e2
    simp [Lib.indexByte, n1]
   have n2 : ¬ (UInt8.ofNat b.toNat = UInt8.ofNat z.toNat) := fun e => e2 ((inj b z hb hz).1 e).symm
   rw [if_neg e2]
   simp [Lib.indexByte, n1, n2]
  refine ⟨_, rfl, ?_, fun _ => hv, hw⟩
  rw [hv]
  unfold at2
  split
  ·
   exact Or.inl rfl
  split
  ·
   exact Or.inr (Or.inl rfl)
  exact Or.inr (Or.inr rfl)
 have hsx : (strOfNums x).size = x.length := strOfNums_size x
 have hs2 : (strOfNums [a, b]).size = 2 := strOfNums_size [a, b]
 have hc := lite_calls (strOfNums [a, b]) (strOfNums x) w hs2 (by omega) (by omega)
 generalize strOfNums [a, b] = s at *
 generalize strOfNums x = sb at *
 obtain ⟨v, hv, hv2⟩ : ∃ v : Int, (if (sb.toList == s.toList) = true then (0 : Int) else -1) = v ∧ (v = 0 ∨ v = 1 ∨ v = -1) := by
  refine ⟨_, rfl, ?_⟩
  split
  ·
   exact Or.inl rfl
  exact Or.inr (Or.inr rfl)
 rw [hv] at hc
 have HC := Aside0.mk hc
 have HV := Aside0.mk hv2
 clear hc hv hv2
 clear hsx hs2 ha hb hx h1 hl
 go_enter Tryd.func118, Tryd.ntmps118
 go_wp2_with fail
 refine HC.out.mono ?_
 rintro e w' ⟨rfl, hw⟩
 obtain rfl : w = w' := hw.symm
 go_wp2_with fail
 go_ret
 exact ⟨v, rfl, HV.out, fun q => absurd q h, rfl⟩
end
def OB (A : Option Addr) (n c : Nat) (k : Nat) : Prop := some k = (Value.slice A n c).ownBlock
structure BK (w0 W : World) (lo hi : Nat) (A : Option Addr) (c : Nat) (l : List Int) : Prop where
 r : Kd.R (Kd.int .u8) 5 W w0.heap.size (fun k => OB A l.length c k) (.slice A l.length c) l
 b : ∀ k, OB A l.length c k → lo ≤ k ∧ k < hi
theorem BK.reads {w0 W : World} {lo hi : Nat} {A : Option Addr} {c : Nat} {l : List Int} (h : BK w0 W lo hi A c l) : Kd.C (Kd.int .u8) W A l.length l ∧ l.length ≤ c := ⟨(Kd.R_reads' h.r).2.2, (Kd.R_reads' h.r).2.1⟩
theorem BK.of {w0 w W : World} {ok : Nat → Prop} {A : Option Addr} {c : Nat} {l : List Int} (h : Kd.R (Kd.int .u8) 5 W w.heap.size ok (.slice A l.length c) l) (hB : Below w0.heap.size w0 w) : BK w0 W w.heap.size W.heap.size A c l :=
 ⟨Kd.R_tight rfl (Kd.R_lower h hB.size), fun k hk => ⟨Kd.R_base h k hk.symm, Kd.R_lt h k hk.symm⟩⟩
theorem BK.kept {w0 W W' : World} {lo hi : Nat} {A : Option Addr} {c : Nat} {l : List Int} {S : Nat → Prop} (h : BK w0 W lo hi A c l) (hk : Kept W W' S) (hS : ∀ k, lo ≤ k → k < hi → ¬ S k) : BK w0 W' lo hi A c l :=
 ⟨Kd.R_kept h.r hk (fun k ho => hS k (h.b k ho).1 (h.b k ho).2), h.b⟩
theorem BK.below {w0 W W' : World} {lo hi : Nat} {A : Option Addr} {c : Nat} {l : List Int} (h : BK w0 W lo hi A c l) (hb : Below W.heap.size W W') : BK w0 W' lo hi A c l := ⟨Kd.R_below h.r hb, h.b⟩
def laws_toByteS.l0 : Nat → List Int → List Int → Int → Option (List Int)
 | 0, _, _, _ => none
 | k + 1, x0, x3, x4 => if x4 < (x0.length : Int) then (if 0 ≤ x4 then (if x4 < (x3.length : Int) then (laws_toByteS.l0 k x0 (x3.set (x4 : Int).toNat (rd x0 x4)) (wrap64 (x4 + 1))) else (none)) else (none)) else (some x3)
def laws_toByteS.f (k : Nat) (l0 : List Int) : Option (List Int) := if 0 ≤ (l0.length : Int) then (if ((l0.length : Int) : Int).toNat ≤ 281474976710656 then (laws_toByteS.l0 k l0 (List.replicate ((l0.length : Int) : Int).toNat 0) 0) else (none)) else (none)
set_option maxHeartbeats 8000000 in
set_option maxRecDepth 100000 in
theorem laws_toByteS.calls (k : Nat) (A0 : Option Addr) (c0 : Nat) (l0 : List Int) (r : List Int) (w : World) (hr0 : Kd.C (Kd.int .u8) w A0 l0.length l0) (hc0 : l0.length ≤ c0) (h : laws_toByteS.f k l0 = some r) :
  Calls Tryd.prog 10 #[.slice A0 l0.length c0] w fun e w' => ∃ v0_ : Value, e = .returned (v0_) ∧ Kd.R (Kd.int .u8) 5 w' w.heap.size (fun _ => True) v0_ r ∧ Below w.heap.size w w' := by
 have HR0 := Aside0.mk hr0
 have HC0 := Aside0.mk hc0
 clear hr0 hc0
 have HB := Aside0.mk (Below.refl w.heap.size w)
 have H : (if 0 ≤ (l0.length : Int) then (if ((l0.length : Int) : Int).toNat ≤ 281474976710656 then (laws_toByteS.l0 k l0 (List.replicate ((l0.length : Int) : Int).toNat 0) 0) else (none)) else (none)) = some r := h
 clear h
 by_cases c2 : 0 ≤ (l0.length : Int)
 ·
  rw [if_pos c2] at H
  have c2b0 := eq_true c2
  have c2b1 : decide (0 ≤ (l0.length : Int)) = true := decide_eq_true c2
  clear c2
  by_cases c3 : ((l0.length : Int) : Int).toNat ≤ 281474976710656
  ·
   rw [if_pos c3] at H
   have c3b0 := eq_true c3
   have c3b1 : decide (((l0.length : Int) : Int).toNat ≤ 281474976710656) = true := decide_eq_true c3
   clear c3
   obtain ⟨y101, hy101⟩ : ∃ y_ : List Int, y_ = (List.replicate ((l0.length : Int) : Int).toNat 0) := ⟨_, rfl⟩
   replace H : (laws_toByteS.l0 k l0 y101 0) = some r := by first | (rw [hy101]; with_reducible exact H) | (have H2_ := (Option.bind_some _ _).symm.trans H; rw [hy101]; with_reducible exact H2_) | (have H2_ := (Option.bind_some _ _).symm.trans H; with_reducible exact H2_) | with_reducible exact H | (rw [hy101]; exact H) | exact H
   have Ny101 := Aside0.mk hy101
   clear hy101
   have H' := Aside0.mk H
   clear H
   go_enter Tryd.func10, Tryd.ntmps10
   go_wp2_with (first | ((with_reducible refine gate_dst (N := 7) rfl ?_); refine Kd.R_make (Kd.int .u8) _ 5 rfl (N := 7) rfl 22 _ _ rfl (l0.length : Int) rfl rfl Tryd.underlying22 (.int .u8 0) 1 info5 rfl (by decide) (by omega) 0 (ok := fun _ => True) (okp := fun _ => True) rfl (fun _ hk => hk) trivial (of_decide_eq_true (by first | (with_reducible assumption) | assumption)) (Nat.le_trans (Nat.mul_le_mul_right _ (of_decide_eq_true (by first | (with_reducible assumption) | assumption) : (l0.length : Int).toNat ≤ 281474976710656)) (by omega)) (Below.refl _ _) (Nat.le_refl _) ?_; intro v102 w4 ho5 hb hg_ hnew_; clear hg_ hnew_; (first | rw [← Ny101.out] at ho5 | (simp only [Int.reduceToNat] at ho5; rw [← Ny101.out] at ho5)); have n0_ := Aside0.mk (Kd.R_lower ho5 (below_size (by repeat (first | (with_reducible first | exact HB.out | apply below_alloc | apply pw_below_drewN | apply below_drew1) | exact HB.out)))); have n1_ := Aside0.mk (below_step (by repeat (first | (with_reducible first | exact HB.out | apply below_alloc | apply pw_below_drewN | apply below_drew1) | exact HB.out)) hb); clear HB; have HO103 := n0_; have HB := n1_; clear n0_ n1_; clear hb ho5))
   go_loopg [4] k (fun kq v4 w' => ∃ (x3_1 : List Int) (x4_1 : Int), v4 = .int .i64 x4_1 ∧ Aside0 (laws_toByteS.l0 kq l0 x3_1 x4_1 = some r) ∧ Aside0 (kq ≤ k) ∧ Aside0 (Kd.R (Kd.int .u8) 5 w' w.heap.size (fun _ => True) v102 x3_1) ∧ Aside0 (Below w.heap.size w w'))
   case atStart => exact ⟨(y101), (0), (by first | rfl | (simp; done) | (simp [*]; done)), H', ⟨Nat.le_refl _⟩, ⟨by (with_reducible repeat (first | apply Kd.R_alloc | apply Kd.R_drewN | apply Kd.R_drew)); exact HO103.out⟩, ⟨by repeat (first | (with_reducible first | exact HB.out | apply below_alloc | apply pw_below_drewN | apply below_drew1) | exact HB.out)⟩⟩
   case round =>
    clear H'
    try clear c1
    try clear c2
    try clear c2b0
    try clear c2b1
    try clear p2
    try clear c3
    try clear c3b0
    try clear c3b1
    obtain ⟨x3_1, x4_1, rfl, HA, HK1, HO_3, HB⟩ := hrel
    cases gk with
    | zero => exact absurd HA.out (by simp [laws_toByteS.l0])
    | succ k1 =>
     have H := HA.out
     clear HA
     simp only [laws_toByteS.l0] at H
     by_cases c6 : x4_1 < (l0.length : Int)
     ·
      rw [if_pos c6] at H
      have c6b0 : decide (x4_1 < (l0.length : Int)) = true := decide_eq_true c6
      clear c6
      by_cases c7 : 0 ≤ x4_1
      ·
       rw [if_pos c7] at H
       have c7b0 : decide (0 ≤ x4_1) = true := decide_eq_true c7
       clear c7
       by_cases c8 : x4_1 < (x3_1.length : Int)
       ·
        rw [if_pos c8] at H
        have c8b0 : decide (x4_1 < (x3_1.length : Int)) = true := decide_eq_true c8
        clear c8
        obtain ⟨y105, hy105⟩ : ∃ y_ : List Int, y_ = (x3_1.set (x4_1 : Int).toNat (rd l0 x4_1)) := ⟨_, rfl⟩
        replace H : (laws_toByteS.l0 k1 l0 y105 (wrap64 (x4_1 + 1))) = some r := by first | (rw [hy105]; with_reducible exact H) | (have H2_ := (Option.bind_some _ _).symm.trans H; rw [hy105]; with_reducible exact H2_) | (have H2_ := (Option.bind_some _ _).symm.trans H; with_reducible exact H2_) | with_reducible exact H | (rw [hy105]; exact H) | exact H
        have Ny105 := Aside0.mk hy105
        clear hy105
        have H' := Aside0.mk H
        clear H
        have p104 : 0 ≤ (x4_1 : Int) := of_decide_eq_true (by first | (with_reducible assumption) | assumption)
        have q104 : x4_1 < (l0.length : Int) := of_decide_eq_true (by first | (with_reducible assumption) | assumption)
        obtain ⟨ad104, e104, hx104_0⟩ := Kd.at_int HR0.out x4_1 p104 q104
        cases e104
        replace hx104_0 := (HB.out.cell (World.block_lt_of_cell? w _ hx104_0)).trans hx104_0
        replace p104 := eq_true p104
        replace q104 := eq_true q104
        have p9 : 0 ≤ (x4_1 : Int) := of_decide_eq_true (by first | (with_reducible assumption) | assumption)
        have q9 : (x4_1 : Int) < ((x3_1.length : Int) : Int) := of_decide_eq_true (by first | (with_reducible assumption) | assumption)
        obtain ⟨go9, co9, eo9, gb9, gl9, cl9, HG9⟩ := Kd.R_form HO_3.out (by omega)
        (first | cases eo9 | (injection eo9 with ea_ en_ ec_; (first | subst ea_ | (injection ea_ with ea_; subst ea_)); subst ec_; clear en_))
        have GB9 := Aside0.mk gb9
        have GG9 := Aside0.mk HG9
        clear gb9 gl9 HG9
        obtain ⟨hx9_0, hf9_0⟩ := Kd.R_celln 0 HO_3.out (x4_1 : Int) p9 q9
        replace p9 := eq_true p9
        replace q9 := eq_true q9
        have HP10 := Kd.R_putg HO_3.out (x4_1 : Int) (rd l0 x4_1)
        go_wp2_with (first | ((with_reducible refine gate_store (t := 5) (p := 20) rfl ?_); refine store_event (t := 5) (p := 20) (v := ?vo_w11) (w1 := (wr.setCell ⟨go9, (x4_1 : Int).toNat, none⟩ (.int .u8 (rd l0 x4_1)))) ?hg ?ho ?hn ?hr ?_; (case ho => rfl); (case hg => rfl); (case hn => rfl); (case hr => first | (go_simp; done) | (go_simp; rfl)); intro w11 hw; have hg : wr.grownBy w11 (some go9) := (by rw [hw]; exact HP10.2); have hp_ : Kd.R (Kd.int .u8) 5 w11 w.heap.size (fun _ => True) (.slice (some ⟨go9, 0, none⟩) x3_1.length co9) y105 := (by rw [hw, Ny105.out]; exact HP10.1); clear HP10; have n0_ := Aside0.mk (hp_); have n1_ := Aside0.mk ((by rw [hw]; exact below_set (HB.out) GB9.out : Below w.heap.size w w11)); clear HO_3; clear HB; have HO_3 := n0_; have HB := n1_; clear n0_ n1_; clear hg hw hp_))
        go_roundg k1
        case measure => have := HK1.out; omega
        case rel => exact ⟨(y105), (wrap64 (x4_1 + 1)), (by first | rfl | (simp; done) | (simp [*]; done)), H', ⟨by have := HK1.out; omega⟩, ⟨by (with_reducible repeat (first | apply Kd.R_alloc | apply Kd.R_drewN | apply Kd.R_drew)); exact HO_3.out⟩, ⟨by repeat (first | (with_reducible first | exact HB.out | apply below_alloc | apply pw_below_drewN | apply below_drew1) | exact HB.out)⟩⟩
       rw [if_neg c8] at H
       exact absurd H (by simp)
      rw [if_neg c7] at H
      exact absurd H (by simp)
     rw [if_neg c6] at H
     have c6b0 : decide (x4_1 < (l0.length : Int)) = false := decide_eq_false c6
     clear c6
     obtain rfl := Option.some.inj H
     go_wp2
     go_ret
     exact ⟨_, by first | rfl | (simp [errW_none, errW_some] <;> rfl) | (simp [*, errW_none, errW_some] <;> rfl), by (with_reducible repeat (first | apply Kd.R_alloc | apply Kd.R_drewN | apply Kd.R_drew)); exact HO_3.out, by repeat (first | (with_reducible first | exact HB.out | apply below_alloc | apply pw_below_drewN | apply below_drew1) | exact HB.out)⟩
  rw [if_neg c3] at H
  exact absurd H (by simp)
 rw [if_neg c2] at H
 exact absurd H (by simp)
def laws_eqByteS.l0 : Nat → List Int → List Int → Int → Option (Bool)
 | 0, _, _, _ => none
 | k + 1, x0, x1, x5 => if x5 < (x0.length : Int) then (if 0 ≤ x5 then (if x5 < (x1.length : Int) then (if (rd x0 x5) = (rd x1 x5) then (laws_eqByteS.l0 k x0 x1 (wrap64 (x5 + 1))) else (some false)) else (none)) else (none)) else (some true)
def laws_eqByteS.f (k : Nat) (l0 : List Int) (l1 : List Int) : Option (Bool) := if (l0.length : Int) = (l1.length : Int) then (laws_eqByteS.l0 k l0 l1 0) else (some false)
set_option maxHeartbeats 8000000 in
set_option maxRecDepth 100000 in
theorem laws_eqByteS.calls (k : Nat) (A0 : Option Addr) (c0 : Nat) (l0 : List Int) (A1 : Option Addr) (c1 : Nat) (l1 : List Int) (r : Bool) (w : World) (hr0 : Kd.C (Kd.int .u8) w A0 l0.length l0) (hc0 : l0.length ≤ c0) (hr1 : Kd.C (Kd.int .u8) w A1 l1.length l1) (hc1 : l1.length ≤ c1) (h : laws_eqByteS.f k l0 l1 = some r) :
  Calls Tryd.prog 12 #[.slice A0 l0.length c0, .slice A1 l1.length c1] w fun e w' => e = .returned (.bool r) ∧ Drawn0 w w' := by
 have HR0 := Aside0.mk hr0
 have HC0 := Aside0.mk hc0
 clear hr0 hc0
 have HR1 := Aside0.mk hr1
 have HC1 := Aside0.mk hc1
 clear hr1 hc1
 have H : (if (l0.length : Int) = (l1.length : Int) then (laws_eqByteS.l0 k l0 l1 0) else (some false)) = some r := h
 clear h
 by_cases c3 : (l0.length : Int) = (l1.length : Int)
 ·
  rw [if_pos c3] at H
  have c3b0 : ((l0.length : Int) == (l1.length : Int)) = true := beq_iff_eq.mpr c3
  have c3b1 : ((l0.length : Int) != (l1.length : Int)) = false := bne_eq_false_iff_eq.mpr c3
  have c3b2 : (l0.length == l1.length) = true := by first | simpa using c3 | (simp at c3 ⊢; omega)
  clear c3
  have H' := Aside0.mk H
  clear H
  go_enter Tryd.func12, Tryd.ntmps12
  go_wp2
  repeat (go_quiet (fail); try go_wp2)
  go_loopg [5] k (fun kq v5 w' => ∃ (x5_1 : Int), v5 = .int .i64 x5_1 ∧ Aside0 (laws_eqByteS.l0 kq l0 l1 x5_1 = some r) ∧ Aside0 (kq ≤ k) ∧ Drawn0 w w')
  case atStart => exact ⟨(0), (by first | rfl | (simp; done) | (simp [*]; done)), H', ⟨Nat.le_refl _⟩, by repeat (first | exact Drawn0.refl _ | apply Drawn0.step)⟩
  case round =>
   clear H'
   try clear c1
   try clear p2
   try clear c3
   try clear c3b0
   try clear c3b1
   try clear c3b2
   obtain ⟨x5_1, rfl, HA, HK1, ⟨m1, rfl⟩⟩ := hrel
   cases gk with
   | zero => exact absurd HA.out (by simp [laws_eqByteS.l0])
   | succ k1 =>
    have H := HA.out
    clear HA
    simp only [laws_eqByteS.l0] at H
    by_cases c4 : x5_1 < (l0.length : Int)
    ·
     rw [if_pos c4] at H
     have c4b0 : decide (x5_1 < (l0.length : Int)) = true := decide_eq_true c4
     clear c4
     by_cases c5 : 0 ≤ x5_1
     ·
      rw [if_pos c5] at H
      have c5b0 : decide (0 ≤ x5_1) = true := decide_eq_true c5
      clear c5
      by_cases c6 : x5_1 < (l1.length : Int)
      ·
       rw [if_pos c6] at H
       have c6b0 : decide (x5_1 < (l1.length : Int)) = true := decide_eq_true c6
       clear c6
       by_cases c7 : (rd l0 x5_1) = (rd l1 x5_1)
       ·
        rw [if_pos c7] at H
        have c7b0 : ((rd l0 x5_1) == (rd l1 x5_1)) = true := beq_iff_eq.mpr c7
        have c7b1 : ((rd l0 x5_1) != (rd l1 x5_1)) = false := bne_eq_false_iff_eq.mpr c7
        clear c7
        have H' := Aside0.mk H
        clear H
        have p106 : 0 ≤ (x5_1 : Int) := of_decide_eq_true (by first | (with_reducible assumption) | assumption)
        have q106 : x5_1 < (l0.length : Int) := of_decide_eq_true (by first | (with_reducible assumption) | assumption)
        obtain ⟨ad106, e106, hx106_0⟩ := Kd.at_int HR0.out x5_1 p106 q106
        cases e106
        replace p106 := eq_true p106
        replace q106 := eq_true q106
        have p107 : 0 ≤ (x5_1 : Int) := of_decide_eq_true (by first | (with_reducible assumption) | assumption)
        have q107 : x5_1 < (l1.length : Int) := of_decide_eq_true (by first | (with_reducible assumption) | assumption)
        obtain ⟨ad107, e107, hx107_0⟩ := Kd.at_int HR1.out x5_1 p107 q107
        cases e107
        replace p107 := eq_true p107
        replace q107 := eq_true q107
        go_wp2
        repeat (go_quiet (fail); try go_wp2)
        go_roundg k1
        case measure => have := HK1.out; omega
        case rel => exact ⟨(wrap64 (x5_1 + 1)), (by first | rfl | (simp; done) | (simp [*]; done)), H', ⟨by have := HK1.out; omega⟩, by repeat (first | exact Drawn0.refl _ | apply Drawn0.step)⟩
       rw [if_neg c7] at H
       have c7b0 : ((rd l0 x5_1) == (rd l1 x5_1)) = false := beq_eq_false_iff_ne.mpr c7
       have c7b1 : ((rd l0 x5_1) != (rd l1 x5_1)) = true := bne_iff_ne.mpr c7
       obtain rfl := Option.some.inj H
       have p106 : 0 ≤ (x5_1 : Int) := of_decide_eq_true (by first | (with_reducible assumption) | assumption)
       have q106 : x5_1 < (l0.length : Int) := of_decide_eq_true (by first | (with_reducible assumption) | assumption)
       obtain ⟨ad106, e106, hx106_0⟩ := Kd.at_int HR0.out x5_1 p106 q106
       cases e106
       replace p106 := eq_true p106
       replace q106 := eq_true q106
       have p107 : 0 ≤ (x5_1 : Int) := of_decide_eq_true (by first | (with_reducible assumption) | assumption)
       have q107 : x5_1 < (l1.length : Int) := of_decide_eq_true (by first | (with_reducible assumption) | assumption)
       obtain ⟨ad107, e107, hx107_0⟩ := Kd.at_int HR1.out x5_1 p107 q107
       cases e107
       replace p107 := eq_true p107
       replace q107 := eq_true q107
       go_wp2
       repeat (go_quiet (fail); try go_wp2)
       go_ret
       exact ⟨by first | rfl | (simp; done) | (simp [*]; done), by repeat (first | exact Drawn0.refl _ | apply Drawn0.step)⟩
      rw [if_neg c6] at H
      exact absurd H (by simp)
     rw [if_neg c5] at H
     exact absurd H (by simp)
    rw [if_neg c4] at H
    have c4b0 : decide (x5_1 < (l0.length : Int)) = false := decide_eq_false c4
    clear c4
    obtain rfl := Option.some.inj H
    go_wp2
    repeat (go_quiet (fail); try go_wp2)
    go_ret
    exact ⟨by first | rfl | (simp; done) | (simp [*]; done), by repeat (first | exact Drawn0.refl _ | apply Drawn0.step)⟩
 rw [if_neg c3] at H
 have c3b0 : ((l0.length : Int) == (l1.length : Int)) = false := beq_eq_false_iff_ne.mpr c3
 have c3b1 : ((l0.length : Int) != (l1.length : Int)) = true := bne_iff_ne.mpr c3
 have c3b2 : (l0.length == l1.length) = false := by first | simpa using c3 | (simp at c3 ⊢; omega)
 obtain rfl := Option.some.inj H
 go_enter Tryd.func12, Tryd.ntmps12
 go_wp2
 repeat (go_quiet (fail); try go_wp2)
 go_ret
 exact ⟨by first | rfl | (simp; done) | (simp [*]; done), by repeat (first | exact Drawn0.refl _ | apply Drawn0.step)⟩
def laws_markByteS.l0 : Nat → List Int → Int → Int → Option (Int × List Int)
 | 0, _, _, _ => none
 | k + 1, x0, x1, x5 => if x5 < (x0.length : Int) then (if 0 ≤ x5 then (laws_markByteS.l0 k (x0.set (x5 : Int).toNat ((x1) % 256)) (wrap64 (x1 + 1)) (wrap64 (x5 + 1))) else (none)) else (some (x1, x0))
def laws_markByteS.f (k : Nat) (l0 : List Int) (a1 : Int) : Option (Int × List Int) := laws_markByteS.l0 k l0 a1 0
set_option maxHeartbeats 8000000 in
set_option maxRecDepth 100000 in
theorem laws_markByteS.calls (k : Nat) (P0_ : Nat → Prop) (u9000_ : Value) (l0 : List Int) (a1 : Int) (r1 : Int) (r2 : List Int) (w0 w : World) (hB : Below w0.heap.size w0 w) (ho0 : Kd.R (Kd.int .u8) 5 w w0.heap.size P0_ u9000_ l0) (h : laws_markByteS.f k l0 a1 = some (r1, r2)) :
  Calls Tryd.prog 26 #[u9000_, .int .i64 a1] w fun e w' => e = .returned (.int .i64 r1) ∧ Kd.R (Kd.int .u8) 5 w' w0.heap.size (fun k_ => (P0_ k_ ∨ w.heap.size ≤ k_)) u9000_ r2 ∧ Below w0.heap.size w0 w' ∧ Kept w w' (fun k_ => P0_ k_) := by
 have HO0 := Aside0.mk (show Kd.R (Kd.int .u8) 5 w w0.heap.size (fun k_ => (P0_ k_ ∨ w.heap.size ≤ k_)) u9000_ l0 from Kd.R_mono ho0 (fun k_ hk => (.inl hk)))
 have HK := Aside0.mk (Kept.refl w (fun k_ => P0_ k_))
 have HW0 := Aside0.mk hB.size
 have HB := Aside0.mk hB
 clear hB
 have H : (laws_markByteS.l0 k l0 a1 0) = some (r1, r2) := h
 clear h
 have H' := Aside0.mk H
 clear H
 go_enter Tryd.func26, Tryd.ntmps26
 go_wp2
 go_loopg [1, 5] k (fun kq v1 v5 w' => ∃ (x0_1 : List Int) (x1_1 : Int) (x5_1 : Int), v1 = .int .i64 x1_1 ∧ v5 = .int .i64 x5_1 ∧ Aside0 (laws_markByteS.l0 kq x0_1 x1_1 x5_1 = some (r1, r2)) ∧ Aside0 (kq ≤ k) ∧ Aside0 (Kd.R (Kd.int .u8) 5 w' w0.heap.size (fun k_ => (P0_ k_ ∨ w.heap.size ≤ k_)) u9000_ x0_1) ∧ Aside0 (Kept w w' (fun k_ => P0_ k_)) ∧ Aside0 (Below w0.heap.size w0 w'))
 case atStart => exact ⟨(l0), (a1), (0), (by first | rfl | (simp; done) | (simp [*]; done)), (by first | rfl | (simp; done) | (simp [*]; done)), H', ⟨Nat.le_refl _⟩, ⟨by (with_reducible repeat (first | apply Kd.R_alloc | apply Kd.R_drewN | apply Kd.R_drew)); exact HO0.out⟩, ⟨by repeat (first | (with_reducible first | exact HK.out | apply Kept.alloc | apply Kept.drewN | apply Kept.drew) | exact HK.out)⟩, ⟨by repeat (first | (with_reducible first | exact HB.out | apply below_alloc | apply pw_below_drewN | apply below_drew1) | exact HB.out)⟩⟩
 case round =>
  clear H'
  try clear c2
  try clear p2
  obtain ⟨x0_1, x1_1, x5_1, rfl, rfl, HA, HK1, HO_0, HK, HB⟩ := hrel
  cases gk with
  | zero => exact absurd HA.out (by simp [laws_markByteS.l0])
  | succ k1 =>
   have H := HA.out
   clear HA
   simp only [laws_markByteS.l0] at H
   by_cases c3 : x5_1 < (x0_1.length : Int)
   ·
    rw [if_pos c3] at H
    have c3b0 : decide (x5_1 < (x0_1.length : Int)) = true := decide_eq_true c3
    clear c3
    by_cases c4 : 0 ≤ x5_1
    ·
     rw [if_pos c4] at H
     have c4b0 : decide (0 ≤ x5_1) = true := decide_eq_true c4
     clear c4
     obtain ⟨y108, hy108⟩ : ∃ y_ : List Int, y_ = (x0_1.set (x5_1 : Int).toNat ((x1_1) % 256)) := ⟨_, rfl⟩
     replace H : (laws_markByteS.l0 k1 y108 (wrap64 (x1_1 + 1)) (wrap64 (x5_1 + 1))) = some (r1, r2) := by first | (rw [hy108]; with_reducible exact H) | (have H2_ := (Option.bind_some _ _).symm.trans H; rw [hy108]; with_reducible exact H2_) | (have H2_ := (Option.bind_some _ _).symm.trans H; with_reducible exact H2_) | with_reducible exact H | (rw [hy108]; exact H) | exact H
     have Ny108 := Aside0.mk hy108
     clear hy108
     have H' := Aside0.mk H
     clear H
     obtain ⟨Ao6, co6, eo6⟩ := Kd.R_slice HO_0.out
     subst eo6
     have p5 : 0 ≤ (x5_1 : Int) := of_decide_eq_true (by first | (with_reducible assumption) | assumption)
     have q5 : (x5_1 : Int) < ((x0_1.length : Int) : Int) := of_decide_eq_true (by first | (with_reducible assumption) | assumption)
     obtain ⟨go5, co5, eo5, gb5, gl5, cl5, HG5⟩ := Kd.R_form HO_0.out (by omega)
     (first | cases eo5 | (injection eo5 with ea_ en_ ec_; (first | subst ea_ | (injection ea_ with ea_; subst ea_)); subst ec_; clear en_))
     have GB5 := Aside0.mk gb5
     have GG5 := Aside0.mk HG5
     clear gb5 gl5 HG5
     have HMgo5 := Aside0.mk (show (P0_ go5 ∨ w.heap.size ≤ go5) from (HO_0.out.1 _ rfl))
     obtain ⟨hx5_0, hf5_0⟩ := Kd.R_celln 0 HO_0.out (x5_1 : Int) p5 q5
     replace p5 := eq_true p5
     replace q5 := eq_true q5
     have HP7 := Kd.R_putg HO_0.out (x5_1 : Int) ((x1_1) % 256)
     go_wp2_with (first | ((with_reducible refine gate_store (t := 5) (p := 16) rfl ?_); refine store_event (t := 5) (p := 16) (v := ?vo_w8) (w1 := (wr.setCell ⟨go5, (x5_1 : Int).toNat, none⟩ (.int .u8 ((x1_1) % 256)))) ?hg ?ho ?hn ?hr ?_; (case ho => rfl); (case hg => rfl); (case hn => rfl); (case hr => first | (go_simp; done) | (go_simp; rfl)); intro w8 hw; have hg : wr.grownBy w8 (some go5) := (by rw [hw]; exact HP7.2); have hp_ : Kd.R (Kd.int .u8) 5 w8 w0.heap.size (fun k_ => (P0_ k_ ∨ w.heap.size ≤ k_)) (.slice (some ⟨go5, 0, none⟩) x0_1.length co6) y108 := (by rw [hw, Ny108.out]; exact HP7.1); clear HP7; have n0_ := Aside0.mk (hp_); have n1_ := Aside0.mk ((by rw [hw]; exact below_set (HB.out) GB5.out : Below w0.heap.size w0 w8)); have n2_ := Aside0.mk (Kept.of_grown (S := (fun k_ => P0_ k_)) hg (by repeat (first | (with_reducible first | exact HK.out | apply Kept.alloc | apply Kept.drewN | apply Kept.drew) | exact HK.out)) (fun k_ e_ => (HO_0.out.1 k_ e_))); clear HO_0; clear HB; clear HK; have HO_0 := n0_; have HB := n1_; have HK := n2_; clear n0_ n1_ n2_; clear hg hw hp_))
     go_roundg k1
     case measure => have := HK1.out; omega
     case rel => exact ⟨(y108), (wrap64 (x1_1 + 1)), (wrap64 (x5_1 + 1)), (by first | rfl | (simp; done) | (simp [*]; done)), (by first | rfl | (simp; done) | (simp [*]; done)), H', ⟨by have := HK1.out; omega⟩, ⟨by (with_reducible repeat (first | apply Kd.R_alloc | apply Kd.R_drewN | apply Kd.R_drew)); exact HO_0.out⟩, ⟨by repeat (first | (with_reducible first | exact HK.out | apply Kept.alloc | apply Kept.drewN | apply Kept.drew) | exact HK.out)⟩, ⟨by repeat (first | (with_reducible first | exact HB.out | apply below_alloc | apply pw_below_drewN | apply below_drew1) | exact HB.out)⟩⟩
    rw [if_neg c4] at H
    exact absurd H (by simp)
   rw [if_neg c3] at H
   have c3b0 : decide (x5_1 < (x0_1.length : Int)) = false := decide_eq_false c3
   clear c3
   simp only [Option.some.injEq, Prod.mk.injEq] at H
   obtain ⟨rfl, rfl⟩ := H
   obtain ⟨Ao9, co9, eo9⟩ := Kd.R_slice HO_0.out
   subst eo9
   go_wp2
   go_ret
   exact ⟨by first | rfl | (simp [errW_none, errW_some] <;> rfl) | (simp [*, errW_none, errW_some] <;> rfl), by (with_reducible repeat (first | apply Kd.R_alloc | apply Kd.R_drewN | apply Kd.R_drew)); exact HO_0.out, by repeat (first | (with_reducible first | exact HB.out | apply below_alloc | apply pw_below_drewN | apply below_drew1) | exact HB.out), by repeat (first | (with_reducible first | exact HK.out | apply Kept.alloc | apply Kept.drewN | apply Kept.drew) | exact HK.out)⟩
def laws_heldByteS.l0 : Nat → List Int → Int → Int → Option (Int)
 | 0, _, _, _ => none
 | k + 1, x0, x1, x5 => if x5 < (x0.length : Int) then (if 0 ≤ x5 then (if (rd x0 x5) = ((x1) % 256) then (laws_heldByteS.l0 k x0 (wrap64 (x1 + 1)) (wrap64 (x5 + 1))) else (some (-1))) else (none)) else (some x1)
def laws_heldByteS.f (k : Nat) (l0 : List Int) (a1 : Int) : Option (Int) := laws_heldByteS.l0 k l0 a1 0
set_option maxHeartbeats 8000000 in
set_option maxRecDepth 100000 in
theorem laws_heldByteS.calls (k : Nat) (A0 : Option Addr) (c0 : Nat) (l0 : List Int) (a1 : Int) (r : Int) (w : World) (hr0 : Kd.C (Kd.int .u8) w A0 l0.length l0) (hc0 : l0.length ≤ c0) (h : laws_heldByteS.f k l0 a1 = some r) :
  Calls Tryd.prog 27 #[.slice A0 l0.length c0, .int .i64 a1] w fun e w' => e = .returned (.int .i64 r) ∧ Drawn0 w w' := by
 have HR0 := Aside0.mk hr0
 have HC0 := Aside0.mk hc0
 clear hr0 hc0
 have H : (laws_heldByteS.l0 k l0 a1 0) = some r := h
 clear h
 have H' := Aside0.mk H
 clear H
 go_enter Tryd.func27, Tryd.ntmps27
 go_wp2
 go_loopg [1, 5] k (fun kq v1 v5 w' => ∃ (x1_1 : Int) (x5_1 : Int), v1 = .int .i64 x1_1 ∧ v5 = .int .i64 x5_1 ∧ Aside0 (laws_heldByteS.l0 kq l0 x1_1 x5_1 = some r) ∧ Aside0 (kq ≤ k) ∧ Drawn0 w w')
 case atStart => exact ⟨(a1), (0), (by first | rfl | (simp; done) | (simp [*]; done)), (by first | rfl | (simp; done) | (simp [*]; done)), H', ⟨Nat.le_refl _⟩, by repeat (first | exact Drawn0.refl _ | apply Drawn0.step)⟩
 case round =>
  clear H'
  try clear c2
  try clear p2
  obtain ⟨x1_1, x5_1, rfl, rfl, HA, HK1, ⟨m1, rfl⟩⟩ := hrel
  cases gk with
  | zero => exact absurd HA.out (by simp [laws_heldByteS.l0])
  | succ k1 =>
   have H := HA.out
   clear HA
   simp only [laws_heldByteS.l0] at H
   by_cases c3 : x5_1 < (l0.length : Int)
   ·
    rw [if_pos c3] at H
    have c3b0 : decide (x5_1 < (l0.length : Int)) = true := decide_eq_true c3
    clear c3
    by_cases c4 : 0 ≤ x5_1
    ·
     rw [if_pos c4] at H
     have c4b0 : decide (0 ≤ x5_1) = true := decide_eq_true c4
     clear c4
     by_cases c5 : (rd l0 x5_1) = ((x1_1) % 256)
     ·
      rw [if_pos c5] at H
      have c5b0 : ((rd l0 x5_1) == ((x1_1) % 256)) = true := beq_iff_eq.mpr c5
      have c5b1 : ((rd l0 x5_1) != ((x1_1) % 256)) = false := bne_eq_false_iff_eq.mpr c5
      clear c5
      have H' := Aside0.mk H
      clear H
      have p234 : 0 ≤ (x5_1 : Int) := of_decide_eq_true (by first | (with_reducible assumption) | assumption)
      have q234 : x5_1 < (l0.length : Int) := of_decide_eq_true (by first | (with_reducible assumption) | assumption)
      obtain ⟨ad234, e234, hx234_0⟩ := Kd.at_int HR0.out x5_1 p234 q234
      cases e234
      replace p234 := eq_true p234
      replace q234 := eq_true q234
      go_wp2
      go_roundg k1
      case measure => have := HK1.out; omega
      case rel => exact ⟨(wrap64 (x1_1 + 1)), (wrap64 (x5_1 + 1)), (by first | rfl | (simp; done) | (simp [*]; done)), (by first | rfl | (simp; done) | (simp [*]; done)), H', ⟨by have := HK1.out; omega⟩, by repeat (first | exact Drawn0.refl _ | apply Drawn0.step)⟩
     rw [if_neg c5] at H
     have c5b0 : ((rd l0 x5_1) == ((x1_1) % 256)) = false := beq_eq_false_iff_ne.mpr c5
     have c5b1 : ((rd l0 x5_1) != ((x1_1) % 256)) = true := bne_iff_ne.mpr c5
     obtain rfl := Option.some.inj H
     have p234 : 0 ≤ (x5_1 : Int) := of_decide_eq_true (by first | (with_reducible assumption) | assumption)
     have q234 : x5_1 < (l0.length : Int) := of_decide_eq_true (by first | (with_reducible assumption) | assumption)
     obtain ⟨ad234, e234, hx234_0⟩ := Kd.at_int HR0.out x5_1 p234 q234
     cases e234
     replace p234 := eq_true p234
     replace q234 := eq_true q234
     go_wp2
     go_ret
     exact ⟨by first | rfl | (simp; done) | (simp [*]; done), by repeat (first | exact Drawn0.refl _ | apply Drawn0.step)⟩
    rw [if_neg c4] at H
    exact absurd H (by simp)
   rw [if_neg c3] at H
   have c3b0 : decide (x5_1 < (l0.length : Int)) = false := decide_eq_false c3
   clear c3
   obtain rfl := Option.some.inj H
   go_wp2
   go_ret
   exact ⟨by first | rfl | (simp; done) | (simp [*]; done), by repeat (first | exact Drawn0.refl _ | apply Drawn0.step)⟩
theorem wrap_up (i : Nat) (h : i ≤ 140737488355328) : wrap64 ((i : Int) + 1) = ((i + 1 : Nat) : Int) := by
 unfold wrap64; omega
theorem rd_nat (l : List Int) (i : Nat) : rd l (i : Int) = l.getD i 0 := by
 unfold rd; rw [Int.toNat_natCast]
theorem toByteS_loop (l : List Int) (hl : l.length ≤ 140737488351232) (d : Nat) : ∀ (k i : Nat) (x : List Int), x.length = l.length → i + d = l.length → d < k →
  (∀ j, j < i → x[j]? = l[j]?) → laws_toByteS.l0 k l x (i : Int) = some l := by
 induction d with
 | zero =>
  intro k i x hx hi hk hj
  obtain ⟨k, rfl⟩ : ∃ m, k = m + 1 := ⟨k - 1, by omega⟩
  simp only [laws_toByteS.l0]
  rw [if_neg (by omega)]
  congr 1
  apply List.ext_getElem?
  intro j
  rcases Nat.lt_or_ge j i with h | h
  ·
   exact hj j h
  rw [List.getElem?_eq_none (by omega), List.getElem?_eq_none (by omega)]
 | succ d ih =>
  intro k i x hx hi hk hj
  obtain ⟨k, rfl⟩ : ∃ m, k = m + 1 := ⟨k - 1, by omega⟩
  simp only [laws_toByteS.l0]
  rw [if_pos (by omega), if_pos (by omega), if_pos (by omega), wrap_up i (by omega)]
  refine ih k (i + 1) _ (by rw [List.length_set]; exact hx) (by omega) (by omega) ?_
  intro j h
  rw [Int.toNat_natCast, List.getElem?_set]
  by_cases e : i = j
  ·
   subst e
   rw [if_pos rfl, if_pos (by omega), rd_nat, List.getD_eq_getElem?_getD, List.getElem?_eq_getElem (by omega)]
   rfl
  rw [if_neg e]
  exact hj j (by omega)
theorem toByteS_f (l : List Int) (hl : l.length ≤ 140737488351232) (k : Nat) (hk : l.length < k) : laws_toByteS.f k l = some l := by
 unfold laws_toByteS.f
 rw [if_pos (by omega), if_pos (by omega)]
 exact toByteS_loop l hl l.length k 0 _ (by rw [List.length_replicate]; omega) (by omega) hk (fun j h => absurd h (by omega))
theorem eqByteS_loop (l : List Int) (hl : l.length ≤ 140737488351232) (d : Nat) : ∀ (k i : Nat), i + d = l.length → d < k → laws_eqByteS.l0 k l l (i : Int) = some true := by
 induction d with
 | zero =>
  intro k i hi hk
  obtain ⟨k, rfl⟩ : ∃ m, k = m + 1 := ⟨k - 1, by omega⟩
  simp only [laws_eqByteS.l0]
  rw [if_neg (by omega)]
 | succ d ih =>
  intro k i hi hk
  obtain ⟨k, rfl⟩ : ∃ m, k = m + 1 := ⟨k - 1, by omega⟩
  simp only [laws_eqByteS.l0]
  rw [if_pos (by omega), if_pos (by omega), if_pos (by omega), if_pos trivial, wrap_up i (by omega)]
  exact ih k (i + 1) (by omega) (by omega)
theorem eqByteS_self (l : List Int) (hl : l.length ≤ 140737488351232) (k : Nat) (hk : l.length < k) : laws_eqByteS.f k l l = some true := by
 unfold laws_eqByteS.f
 rw [if_pos rfl]
 exact eqByteS_loop l hl l.length k 0 (by omega) hk
def marksB (n : Nat) (m : Nat) : List Int := (List.range n).map fun i => ((m + i : Nat) : Int) % 256
theorem marksB_length (n m : Nat) : (marksB n m).length = n := by simp [marksB]
theorem marksB_at (n m i : Nat) (h : i < n) : (marksB n m)[i]? = some (((m + i : Nat) : Int) % 256) := by simp [marksB, h]
theorem markByteS_loop (n m : Nat) (hm : m + n ≤ 140737488351232) (d : Nat) : ∀ (k i : Nat) (x : List Int), x.length = n → i + d = n → d < k → (∀ j, j < i → x[j]? = (marksB n m)[j]?) →
  laws_markByteS.l0 k x ((m + i : Nat) : Int) (i : Int) = some (((m + n : Nat) : Int), marksB n m) := by
 induction d with
 | zero =>
  intro k i x hx hi hk hj
  obtain ⟨k, rfl⟩ : ∃ m, k = m + 1 := ⟨k - 1, by omega⟩
  simp only [laws_markByteS.l0]
  rw [if_neg (by omega)]
  have e : x = marksB n m := by
   apply List.ext_getElem?
   intro j
   rcases Nat.lt_or_ge j i with h | h
   ·
    exact hj j h
   rw [List.getElem?_eq_none (by omega), List.getElem?_eq_none (by rw [marksB_length]; omega)]
  rw [e, show i = n by omega]
 | succ d ih =>
  intro k i x hx hi hk hj
  obtain ⟨k, rfl⟩ : ∃ m, k = m + 1 := ⟨k - 1, by omega⟩
  simp only [laws_markByteS.l0]
  rw [if_pos (by omega), if_pos (by omega), wrap_up i (by omega), wrap_up (m + i) (by omega)]
  refine ih k (i + 1) _ (by rw [List.length_set]; exact hx) (by omega) (by omega) ?_
  intro j h
  rw [Int.toNat_natCast, List.getElem?_set]
  by_cases e : i = j
  ·
   subst e
   rw [if_pos rfl, if_pos (by omega), marksB_at n m i (by omega)]
  rw [if_neg e]
  exact hj j (by omega)
theorem markByteS_f (l : List Int) (m : Nat) (hm : m + l.length ≤ 140737488351232) (k : Nat) (hk : l.length < k) : laws_markByteS.f k l (m : Int) = some (((m + l.length : Nat) : Int), marksB l.length m) := by
 unfold laws_markByteS.f
 exact markByteS_loop l.length m hm l.length k 0 l rfl (by omega) hk (fun j h => absurd h (by omega))
theorem heldByteS_loop (n m : Nat) (hm : m + n ≤ 140737488351232) (d : Nat) : ∀ (k i : Nat), i + d = n → d < k → laws_heldByteS.l0 k (marksB n m) ((m + i : Nat) : Int) (i : Int) = some (((m + n : Nat) : Int)) := by
 induction d with
 | zero =>
  intro k i hi hk
  obtain ⟨k, rfl⟩ : ∃ m, k = m + 1 := ⟨k - 1, by omega⟩
  simp only [laws_heldByteS.l0]
  rw [if_neg (by rw [marksB_length]; omega), show i = n by omega]
 | succ d ih =>
  intro k i hi hk
  obtain ⟨k, rfl⟩ : ∃ m, k = m + 1 := ⟨k - 1, by omega⟩
  simp only [laws_heldByteS.l0]
  have hr : rd (marksB n m) (i : Int) = ((m + i : Nat) : Int) % 256 := by
   rw [rd_nat, List.getD_eq_getElem?_getD, marksB_at n m i (by omega)]; rfl
  rw [if_pos (by rw [marksB_length]; omega), if_pos (by omega), if_pos hr, wrap_up i (by omega), wrap_up (m + i) (by omega)]
  exact ih k (i + 1) (by omega) (by omega)
theorem heldByteS_f (n m : Nat) (hm : m + n ≤ 140737488351232) (k : Nat) (hk : n < k) : laws_heldByteS.f k (marksB n m) (m : Int) = some (((m + n : Nat) : Int)) := by
 unfold laws_heldByteS.f
 exact heldByteS_loop n m hm n k 0 (by omega) hk
theorem markByteS_bk (k m : Nat) (w0 : World) (lo hi : Nat) (A : Option Addr) (c : Nat) (l : List Int) (w : World) (hB : Below w0.heap.size w0 w) (hd : BK w0 w lo hi A c l) (hl : l.length ≤ 100000000) (hm : m ≤ 100000000) (hk : 100000000 < k) :
  Calls Tryd.prog 26 #[.slice A l.length c, .int .i64 m] w fun e w' => e = .returned (.int .i64 ((m + l.length : Nat) : Int)) ∧ BK w0 w' lo hi A c (marksB l.length m) ∧ Below w0.heap.size w0 w' ∧ Kept w w' (fun k => lo ≤ k ∧ k < hi) := by
 refine (laws_markByteS.calls k (OB A l.length c) _ l m _ _ w0 w hB hd.r (markByteS_f l m (by omega) k (by omega))).mono ?_
 rintro e w' ⟨rfl, hr, hb, hkp⟩
 refine ⟨rfl, ⟨?_, ?_⟩, hb, hkp.1, fun i hi hn => hkp.2 i hi (fun h => hn (hd.b i h))⟩
 ·
  rw [marksB_length]
  exact Kd.R_tight rfl hr
 rw [marksB_length]
 exact hd.b
theorem eqByteS_bk (k : Nat) (w0 w1 : World) (lo hi lo' hi' : Nat) (A : Option Addr) (c : Nat) (l : List Int) (B : Option Addr) (d : Nat) (w : World) (hd : BK w0 w lo hi A c l) (hd' : BK w1 w lo' hi' B d l) (hl : l.length ≤ 100000000) (hk : 100000000 < k) :
  Calls Tryd.prog 12 #[.slice A l.length c, .slice B l.length d] w fun e w' => e = .returned (.bool true) ∧ Below w.heap.size w w' := by
 refine (laws_eqByteS.calls k A c l B d l true w hd.reads.1 hd.reads.2 hd'.reads.1 hd'.reads.2 (eqByteS_self l (by omega) k (by omega))).mono ?_
 rintro e w' ⟨rfl, hb⟩
 exact ⟨rfl, hb.below⟩
structure MB (w0 W : World) (lo hi : Nat) (A : Option Addr) (c : Nat) (l : List Int) : Prop where
 k : l.length ≤ c
 b : w0.heap.size ≤ lo
 r : 0 < l.length → ∃ g o cur m, A = some ⟨g, o, none⟩ ∧ lo ≤ g ∧ g < hi ∧ W.heap[g]? = some (.cells cur 5 m) ∧ o + l.length ≤ m.1 ∧ ∀ j, j < l.length → cur[o + j]? = some (.int .u8 (l.getD j 0))
theorem MB.nil {w0 W : World} {lo hi : Nat} (h : w0.heap.size ≤ lo) : MB w0 W lo hi none 0 [] := ⟨Nat.le_refl _, h, fun h => by simp at h⟩
theorem MB.cell {w0 W : World} {lo hi : Nat} {A : Option Addr} {c : Nat} {l : List Int} (h : MB w0 W lo hi A c l) (j : Nat) (hj : j < l.length) : ∃ g o, A = some ⟨g, o, none⟩ ∧ lo ≤ g ∧ g < hi ∧ W.cell? ⟨g, o + j, none⟩ = some (.int .u8 (l.getD j 0)) ∧ W.frozen? ⟨g, o + j, none⟩ = false ∧ ∀ x : Int, MB w0 (W.setCell ⟨g, o + j, none⟩ (.int .u8 x)) lo hi A c (l.set j x) := by
 obtain ⟨g, o, cur, m, e, h1, h2, h3, h4, h5⟩ := h.r (by omega)
 have hc := h5 j hj
 have hlt : o + j < cur.size := by
  rcases Nat.lt_or_ge (o + j) cur.size with q | q
  ·
   exact q
  rw [Array.getElem?_eq_none q] at hc; cases hc
 refine ⟨g, o, e, h1, h2, (cell_of_row W g (o + j) cur _ m h3).trans hc, ?_, fun x => ⟨by rw [List.length_set]; exact h.k, h.b, fun _ => ⟨g, o, cur.setIfInBounds (o + j) (.int .u8 x), m, e, h1, h2, ?_, by rw [List.length_set]; exact h4, fun i hi => ?_⟩⟩⟩
 ·
  obtain ⟨m1, m2⟩ := m
  simp only [World.frozen?, h3]
  have : ¬ m1 ≤ o + j := by have : o + l.length ≤ m1 := h4; omega
  simp [this]
 ·
  have hg := blk_lt h3
  simp only [World.setCell]
  rw [Array.getElem?_modify, if_pos rfl, h3]
  rfl
 rw [List.length_set] at hi
 rw [Array.getElem?_setIfInBounds]
 by_cases q : j = i
 ·
  subst q
  rw [if_pos rfl, if_pos hlt]
  simp [List.getD_eq_getElem?_getD, hj]
 rw [if_neg (by omega), h5 i hi]
 simp [List.getD_eq_getElem?_getD, List.getElem?_set_ne q]
theorem MB.reads {w0 W : World} {lo hi : Nat} {A : Option Addr} {c : Nat} {l : List Int} (h : MB w0 W lo hi A c l) (hl : l.length ≤ 100000000) : Kd.C (Kd.int .u8) W A l.length l ∧ l.length ≤ c := by
 refine ⟨Kd.C_of_reads (d := (0 : Int)) (h1 := fun _ => rfl) ⟨rfl, by omega, fun hp => ?_⟩, h.k⟩
 obtain ⟨g, o, e, _⟩ := h.cell 0 hp
 refine ⟨_, e, fun j hj => ?_⟩
 obtain ⟨g', o', e', _, _, hc, _⟩ := h.cell j hj
 rw [e] at e'
 injection e' with e'
 injection e' with e1 e2
 subst e1
 subst e2
 rw [show (⟨g, o, none⟩ : Addr).add j = ⟨g, o + j, none⟩ by unfold Addr.add; split <;> simp_all]
 exact hc
theorem MB.kept {w0 W W' : World} {lo hi : Nat} {A : Option Addr} {c : Nat} {l : List Int} {S : Nat → Prop} (h : MB w0 W lo hi A c l) (hk : Kept W W' S) (hS : ∀ k, lo ≤ k → k < hi → ¬ S k) : MB w0 W' lo hi A c l :=
 ⟨h.k, h.b, fun hp => by
  obtain ⟨g, o, cur, m, e, h1, h2, h3, h4, h5⟩ := h.r hp
  exact ⟨g, o, cur, m, e, h1, h2, blk_kept h3 hk (hS g h1 h2), h4, h5⟩⟩
theorem MB.kept1 {w0 W W' : World} {lo hi : Nat} {A : Option Addr} {c : Nat} {l : List Int} {S : Nat → Prop} (h : MB w0 W lo hi A c l) (hk : Kept W W' S) (hS : ∀ a : Addr, A = some a → ¬ S a.block) : MB w0 W' lo hi A c l :=
 ⟨h.k, h.b, fun hp => by
  obtain ⟨g, o, cur, m, e, h1, h2, h3, h4, h5⟩ := h.r hp
  exact ⟨g, o, cur, m, e, h1, h2, blk_kept h3 hk (hS _ e), h4, h5⟩⟩
theorem MB.below {w0 W W' : World} {lo hi : Nat} {A : Option Addr} {c : Nat} {l : List Int} (h : MB w0 W lo hi A c l) (hb : Below W.heap.size W W') : MB w0 W' lo hi A c l :=
 ⟨h.k, h.b, fun hp => by
  obtain ⟨g, o, cur, m, e, h1, h2, h3, h4, h5⟩ := h.r hp
  exact ⟨g, o, cur, m, e, h1, h2, (hb.block g (blk_lt h3)).trans h3, h4, h5⟩⟩
theorem MB.wide {w0 W : World} {lo lo' hi hi' : Nat} {A : Option Addr} {c : Nat} {l : List Int} (h : MB w0 W lo hi A c l) (h1 : lo' ≤ lo) (h2 : hi ≤ hi') (hb : w0.heap.size ≤ lo') : MB w0 W lo' hi' A c l :=
 ⟨h.k, hb, fun hp => by
  obtain ⟨g, o, cur, m, e, k1, k2, k3⟩ := h.r hp
  exact ⟨g, o, cur, m, e, by omega, by omega, k3⟩⟩
theorem MB.conv (w0 W : World) (q : List Int) (hq : ∀ x ∈ q, 0 ≤ x ∧ x < 256) (hb : w0.heap.size ≤ W.heap.size) : MB w0 (Lib.bytesWorld W 5 (strOfNums q)) W.heap.size (Lib.bytesWorld W 5 (strOfNums q)).heap.size (some ⟨W.heap.size, 0, none⟩) (grownCap W q.length 0 5) q := by
 have hs : (strOfNums q).size = q.length := strOfNums_size q
 have hcap : q.length ≤ grownCap W q.length 0 5 := grownCap_ge _ _ _ _
 refine ⟨hcap, hb, fun hp => ⟨W.heap.size, 0, _, _, rfl, Nat.le_refl _, by rw [Lib.bytesWorld_size]; omega, Lib.bytesWorld_at_new W 5 (strOfNums q), ?_, fun j hj => ?_⟩⟩
 ·
  simp only [Lib.bytesCells, Array.size_append, Array.size_map, Array.size_replicate]
  have : (strOfNums q).data.size = q.length := hs
  omega
 have h := Lib.bytesWorld_cell W 5 (strOfNums q) j (by rw [hs]; exact hj)
 rw [cell_of_row _ _ _ _ _ _ (Lib.bytesWorld_at_new W 5 (strOfNums q))] at h
 rw [Nat.zero_add, h]
 have e : (strOfNums q).data.toList = Lib.bytesOf q := by rw [← Lib.toList_data, Lib.strOfNums_toList]
 have hx := hq q[j] (List.getElem_mem hj)
 rw [e]
 simp only [Lib.bytesOf, List.getD_eq_getElem?_getD, List.getElem?_map, List.getElem?_eq_getElem hj, Option.map_some, Option.getD_some]
 congr 2
 simp only [UInt8.toNat_ofNat']
 omega
def midB (l : List Int) (m j : Nat) : List Int := marksB j m ++ l.drop j
theorem midB_length (l : List Int) (m j : Nat) (hj : j ≤ l.length) : (midB l m j).length = l.length := by simp [midB, marksB_length]; omega
theorem midB_full (l : List Int) (m : Nat) : midB l m l.length = marksB l.length m := by rw [midB, List.drop_length, List.append_nil]
theorem midB_succ (l : List Int) (m j : Nat) (hj : j < l.length) : (midB l m j).set j (((m + j : Nat) : Int) % 256) = midB l m (j + 1) := by
 unfold midB
 rw [List.set_append_right _ _ (by rw [marksB_length]; omega), marksB_length, Nat.sub_self, List.drop_eq_getElem_cons hj, List.set_cons_zero]
 unfold marksB
 rw [List.range_succ, List.map_append, List.append_assoc]
 rfl
set_option maxHeartbeats 2000000 in
set_option maxRecDepth 100000 in
theorem markByteS_mb (m : Nat) (w0 w : World) (lo hi : Nat) (A : Option Addr) (c : Nat) (l : List Int) (hB : Below w0.heap.size w0 w) (h : MB w0 w lo hi A c l) (hl : l.length ≤ 100000000) (hm : m ≤ 100000000) :
  Calls Tryd.prog 26 #[.slice A l.length c, .int .i64 m] w fun e w' => e = .returned (.int .i64 ((m + l.length : Nat) : Int)) ∧ MB w0 w' lo hi A c (marksB l.length m) ∧ Below w0.heap.size w0 w' ∧ Kept w w' (fun k => lo ≤ k ∧ k < hi ∧ ∃ a, A = some a ∧ a.block = k) := by
 have HS := Aside0.mk h
 have HB := Aside0.mk hB
 clear h hB
 go_enter Tryd.func26, Tryd.ntmps26
 go_wp2
 go_loopg [1, 5] (l.length + 1) (fun kq v1 v5 w' => ∃ (j : Nat), v1 = .int .i64 ((m + j : Nat) : Int) ∧ v5 = .int .i64 (j : Int) ∧ Aside0 (j + kq = l.length + 1 ∧ j ≤ l.length) ∧ Aside0 (MB w0 w' lo hi A c (midB l m j)) ∧ Aside0 (Kept w w' (fun k => lo ≤ k ∧ k < hi ∧ ∃ a, A = some a ∧ a.block = k)) ∧ Aside0 (Below w0.heap.size w0 w'))
 case atStart => exact ⟨0, by simp, by simp, ⟨⟨by omega, by omega⟩⟩, ⟨by simp only [midB, marksB, List.range_zero, List.map_nil, List.nil_append, List.drop_zero]; exact HS.out⟩, ⟨Kept.refl _ _⟩, HB⟩
 case round =>
  clear HS HB
  obtain ⟨j, rfl, rfl, HJ, HS, HK, HB⟩ := hrel
  have hj0 := HJ.out
  by_cases hj : j < l.length
  ·
   have c1 : decide ((j : Int) < (l.length : Int)) = true := decide_eq_true (by omega)
   have c2 : decide (j < l.length) = true := decide_eq_true hj
   obtain ⟨k1, rfl⟩ : ∃ k1, gk = k1 + 1 := ⟨gk - 1, by omega⟩
   have hlen := midB_length l m j (by omega)
   have hsucc := midB_succ l m j hj
   generalize midB l m j = ys at *
   obtain ⟨g, o, eA, gb, gl, x0, f0, hp⟩ := HS.out.cell j (by omega)
   subst eA
   replace hp := hp (((m + j : Nat) : Int) % 256)
   rw [hsucc] at hp
   have hlo := HS.out.b
   have cu : ((m + j : Nat) : Int) % 256 = ((m + j : Nat) : Int) % 256 := rfl
   have cw : wrap64 (((m + j : Nat) : Int) + 1) = ((m + (j + 1) : Nat) : Int) := by unfold wrap64; omega
   have cj : wrap64 ((j : Int) + 1) = ((j + 1 : Nat) : Int) := by unfold wrap64; omega
   have HP := Aside0.mk hp
   have HK2 := Aside0.mk (show Kept w (wr.setCell ⟨g, o + j, none⟩ (.int .u8 (((m + j : Nat) : Int) % 256))) (fun k => lo ≤ k ∧ k < hi ∧ ∃ a, some (⟨g, o, none⟩ : Addr) = some a ∧ a.block = k) from ⟨Nat.le_trans HK.out.1 (by simp [World.setCell]), fun i hi hn => (Below.heap_setCell wr _ _ i (fun e => hn (by subst e; exact ⟨gb, gl, _, rfl, rfl⟩))).trans (HK.out.2 i hi hn)⟩)
   have HB2 := Aside0.mk (below_set HB.out (j := o + j) (v := .int .u8 (((m + j : Nat) : Int) % 256)) (Nat.le_trans hlo gb))
   have HN := Aside0.mk hj0
   obtain ⟨mj, hmj⟩ : ∃ mj, m + j = mj := ⟨_, rfl⟩
   obtain ⟨m2, hm2⟩ : ∃ m2, m + (j + 1) = m2 := ⟨_, rfl⟩
   rw [hmj] at cw HP HK2 HB2
   rw [hm2] at cw
   rw [hmj]
   have HE := Aside0.mk hm2
   clear hp HS HK HB hlen hsucc gb gl hj0 HJ hmj hm2 hl hm cu hlo
   go_wp2_with fail
   go_roundg k1
   case measure => clear cj cw; have := HN.out; omega
   case rel => exact ⟨j + 1, by rw [HE.out, cw], by first | exact congrArg (Value.int .i64) cj | exact congrArg (Value.int .i64) (by clear cj cw; omega), ⟨by clear cj cw; have := HN.out; omega⟩, HP, HK2, HB2⟩
  have e : j = l.length := by omega
  subst e
  have c1 : decide ((l.length : Int) < (l.length : Int)) = false := decide_eq_false (by omega)
  go_wp2
  go_ret
  exact ⟨by simp, by have := HS.out; rwa [midB_full] at this, HB.out, HK.out⟩
end Go.Proofs.YtbgbocdohadhoaaDoor.Print
