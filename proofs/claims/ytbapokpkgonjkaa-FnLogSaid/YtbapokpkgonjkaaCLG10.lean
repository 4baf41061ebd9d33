/- Texts of this session, joined by its own program. -/
import Derived.Test.YtbapokpkgonjkaaCLG0
import Derived.Test.YtbapokpkgonjkaaCLG4
import Derived.Test.YtbapokpkgonjkaaCLG7
import Derived.Test.YtbapokpkgonjkaaCLG8
import Derived.Test.YtbapokpkgonjkaaCLG9
namespace Go.Proofs.Ytbapokpkgonjkaa.Print
open Go.RowKit Go.Proofs.YtbapokpkgonjkaaW.PrintWords Go.Proofs.YtbapokpkgonjkaaW.PrintLast Go.Proofs.YtbapokpkgonjkaaW.PrintMore
attribute [local go_sem] max2_int min2_int max_two min_two max_three min_three max_four min_four
set_option linter.unusedVariables false
set_option linter.unusedSimpArgs false
mutual
def laws_FnLog.j0 : Nat → List Int → List Int → Bool → Option (Bool)
 | 0, _, _, _ => none
 | k + 1, x0, x1, x28 => if x28 = true then (some true) else ((spec_DrawEncodeRecord.f k x0).bind fun bt1513 => ((laws_take.f x1 0).bind fun t1518 => (if (bt1513.2.length : Int) > 1000 then (laws_FnLog.j1 k x0 x1 (wrap64 (1 + (Int.tmod t1518 5))) true bt1513.1 bt1513.2) else (laws_FnLog.j1 k x0 x1 (wrap64 (1 + (Int.tmod t1518 5))) (decide (bt1513.1 > 1000000000000)) bt1513.1 bt1513.2))))
def laws_FnLog.j1 : Nat → List Int → List Int → Int → Bool → Int → List Int → Option (Bool)
 | 0, _, _, _, _, _, _ => none
 | k + 1, x0, x1, x6, x43, x1518000, x1518001 => if x43 = true then (some true) else (laws_FnLog.l0 k x0 x1 x6 ([] : List Int) 0 x1518000 x1518001)
def laws_FnLog.l0 : Nat → List Int → List Int → Int → List Int → Int → Int → List Int → Option (Bool)
 | 0, _, _, _, _, _, _, _ => none
 | k + 1, x0, x1, x6, x7, x8, x1518000, x1518001 => if x8 ≤ x6 then ((some (([(x8) % 256] : List Int) : List Int)).bind fun y1519 => (if y1519.length + x1518001.length < 140737488355328 then ((some (y1519 ++ x1518001 : List Int)).bind fun y1522 => (if (y1522.length : Int) > 1000 then (some true) else ((impl_EncodeRecord.f k (IntKind.u64.wrap (x1518000 + (IntKind.u64.wrap (x8)))) y1522).bind fun t1526 => (if (t1526.length : Int) = (wrap64 (14 + (y1522.length : Int))) then (if x8 = x6 then ((laws_take.f x1 1).bind fun t1529 => (if (t1526.length : Int) = 0 then (none) else (if 0 ≤ (Int.tmod t1529 (t1526.length : Int)) then (if (Int.tmod t1529 (t1526.length : Int)) ≤ (t1526.length : Int) then ((some (t1526.take ((Int.tmod t1529 (t1526.length : Int)) : Int).toNat : List Int)).bind fun y1530 => (if x7.length + y1530.length < 140737488355328 then (laws_FnLog.l0 k x0 x1 x6 (x7 ++ y1530) (wrap64 (x8 + 1)) x1518000 x1518001) else (none))) else (none)) else (none)))) else (if x7.length + t1526.length < 140737488355328 then (laws_FnLog.l0 k x0 x1 x6 (x7 ++ t1526) (wrap64 (x8 + 1)) x1518000 x1518001) else (none))) else (some false))))) else (none))) else ((impl_ReadLog.f x7).bind fun bt1539 => (if (bt1539.1.length : Int) = x6 then (laws_FnLog.j3 k x0 x6 bt1539.1 (bt1539.2 != (wrap64 (x6 * (wrap64 (15 + (x1518001.length : Int)))))) x1518000 x1518001) else (laws_FnLog.j3 k x0 x6 bt1539.1 true x1518000 x1518001)))
def laws_FnLog.j3 : Nat → List Int → Int → List (S45) → Bool → Int → List Int → Option (Bool)
 | 0, _, _, _, _, _, _ => none
 | k + 1, x0, x6, x11, x105, x1518000, x1518001 => if x105 = true then (some false) else (laws_FnLog.l1 k x0 x6 x11 0 x1518000 x1518001)
def laws_FnLog.l1 : Nat → List Int → Int → List (S45) → Int → Int → List Int → Option (Bool)
 | 0, _, _, _, _, _, _ => none
 | k + 1, x0, x6, x11, x13, x1518000, x1518001 => if x13 < x6 then (if 0 ≤ x13 then (if x13 < (x11.length : Int) then (if ((rd_T45 x11 x13).f0) = (IntKind.u64.wrap (x1518000 + (IntKind.u64.wrap (x13)))) then (if (((rd_T45 x11 x13).f1).length : Int) = (wrap64 (1 + (x1518001.length : Int))) then (if 0 < (((rd_T45 x11 x13).f1).length : Int) then (if (rd ((rd_T45 x11 x13).f1) 0) = ((x13) % 256) then (if 1 ≤ (((rd_T45 x11 x13).f1).length : Int) then ((laws_sameB.f k (((rd_T45 x11 x13).f1).drop 1) x1518001).bind fun t1552 => (if t1552 = true then (laws_FnLog.l1 k x0 x6 x11 (wrap64 (x13 + 1)) x1518000 x1518001) else (some false))) else (none)) else (some false)) else (none)) else (some false)) else (some false)) else (none)) else (none)) else ((spec_DrawReadLog.f k x0).bind fun t1553 => ((spec_ReadLog.f t1553).bind fun bt1556 => ((spec_DrawReadLog.f k x0).bind fun t1560 => ((impl_ReadLog.f t1560).bind fun bt1563 => (if (bt1563.1.length : Int) = (bt1556.1.length : Int) then (laws_FnLog.j5 k t1553 bt1556.2 bt1563.1 (bt1563.2 != bt1556.2)) else (laws_FnLog.j5 k t1553 bt1556.2 bt1563.1 true))))))
def laws_FnLog.j5 : Nat → List Int → Int → List (S45) → Bool → Option (Bool)
 | 0, _, _, _, _ => none
 | k + 1, x14, x16, x17, x181 => if x181 = true then (some false) else (laws_FnLog.l2 k x14 x16 x17 ([] : List Int) 0)
def laws_FnLog.l2 : Nat → List Int → Int → List (S45) → List Int → Int → Option (Bool)
 | 0, _, _, _, _, _ => none
 | k + 1, x14, x16, x17, x19, x20 => if x20 < (x17.length : Int) then (if 0 ≤ x20 then ((impl_EncodeRecord.f k ((rd_T45 x17 x20).f0) ((rd_T45 x17 x20).f1)).bind fun t1568 => (if x19.length + t1568.length < 140737488355328 then (laws_FnLog.l2 k x14 x16 x17 (x19 ++ t1568) (wrap64 (x20 + 1))) else (none))) else (none)) else (if 0 ≤ x16 then (if x16 ≤ (x14.length : Int) then ((laws_sameB.f k x19 (x14.take (x16 : Int).toNat)).bind fun t1578 => (some t1578)) else (none)) else (none))
end
def laws_FnLog.f (k : Nat) (l0 : List Int) (l1 : List Int) : Option (Bool) := if (l0.length : Int) > 1048576 then (laws_FnLog.j0 k l0 l1 true) else (laws_FnLog.j0 k l0 l1 (decide ((l1.length : Int) > 1048576)))
def laws_FnLog.T11 : Bool × List (List Nat × List Nat) := (true, [([], []), ([0], [0]), ([], []), ([2], [2]), ([1, 3], [1, 3]), ([], []), ([5], [5]), ([6], [6]), ([], []), ([8], [8]), ([7, 9], [7, 9]), ([4, 10], [4, 10]), ([], []), ([12, 11, 10, 0, 1, 2, 3, 4, 5, 6, 7, 8, 9, 10, 11, 12], [11, 12])])
def laws_FnLog.B11 : List Nat := [0, 1, 0, 4, 15, 0, 32, 96, 0, 256, 992, 2047, 0, 8191]
theorem laws_FnLog.tab11 : rtab .any (opsOf Try.f14 11) = laws_FnLog.T11 := by kernel_rfl
theorem laws_FnLog.bits11 : waitsOk laws_FnLog.T11.2 laws_FnLog.B11 = true := by kernel_rfl
def laws_FnLog.T26 : Bool × List (List Nat × List Nat) := (true, [([], []), ([], []), ([0, 1], [0, 1]), ([2], [2]), ([3], [3]), ([], []), ([5], [5]), ([], []), ([7], [7]), ([6, 8], [6, 8]), ([4, 9], [4, 9]), ([10], [10]), ([11], [11]), ([11], [11]), ([12, 13, 11], [11, 12, 13]), ([14, 11], [11, 14]), ([15, 11], [11, 15]), ([16, 11], [11, 16]), ([11], [11]), ([18, 11], [11, 18]), ([19, 11], [11, 19]), ([20, 11], [11, 20]), ([17, 21, 11], [11, 17, 21]), ([11, 22], [11, 22]), ([23, 11], [23]), ([24], [24]), ([24], [24]), ([25, 26, 24], [24, 25, 26]), ([27, 24], [24, 27]), ([28, 24], [24, 28]), ([29, 24], [24, 29]), ([30, 24], [24, 30]), ([24], [24]), ([32, 24], [24, 32]), ([31, 33, 24], [24, 31, 33]), ([24, 34], [24, 34]), ([35, 24], [35]), ([36], [36]), ([36], [36]), ([37, 38, 36], [36, 37, 38]), ([39, 36], [36, 39]), ([40, 36], [36, 40]), ([41, 36], [36, 41]), ([36], [36]), ([43, 36], [36, 43]), ([42, 44, 36, 36], [36, 42, 44]), ([45, 36], [36, 45]), ([36, 46], [36, 46])])
def laws_FnLog.B26 : List Nat := [0, 0, 3, 7, 15, 0, 32, 0, 128, 480, 1023, 2047, 4095, 4095, 16383, 32767, 65535, 131071, 4095, 266239, 790527, 1839103, 4194303, 8388607, 16777215, 33554431, 33554431, 134217727, 268435455, 536870911, 1073741823, 2147483647, 33554431, 4328521727, 17179869183, 34359738367, 68719476735, 137438953471, 137438953471, 549755813887, 1099511627775, 2199023255551, 4398046511103, 137438953471, 8933531975679, 35184372088831, 70368744177663, 140737488355327]
theorem laws_FnLog.tab26 : rtab .any (opsOf Try.f14 26) = laws_FnLog.T26 := by kernel_rfl
theorem laws_FnLog.bits26 : waitsOk laws_FnLog.T26.2 laws_FnLog.B26 = true := by kernel_rfl
end Go.Proofs.Ytbapokpkgonjkaa.Print
