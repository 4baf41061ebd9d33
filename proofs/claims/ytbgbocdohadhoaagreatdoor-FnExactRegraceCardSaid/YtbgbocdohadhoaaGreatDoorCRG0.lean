/- Texts of this session, joined by its own program. -/
import Derived.Test.YtbgbocdohadhoaaGreatDoorProg
import Derived.Below
import Derived.Deep.Draws
import Derived.Deep.AppendLies
import Derived.Maps.AppendAt
import Derived.OwnWalk
import Derived.Laws.BytesArg
import Derived.Laws.MakeOwn
import Derived.Laws.OwnMore
import Derived.Deep.OwnRows
import Derived.Tactics
import Derived.Lib.ConvBytes
import Derived.Laws.Slices
import Derived.WalkKit
import Derived.KernelRfl
import Derived.RowKit3
import Derived.Deep.LoopGhost
import Derived.Deep.QuietTactic
import Derived.BigQuiet
import Derived.WideLaws
import Derived.Deep.DeepCutAuto
import Derived.Deep.CutBlock
import Derived.Deep.RegionHeld3
import Derived.Laws.Rows
import Derived.Lib.AppendStr
import Derived.ArgAppend
import Derived.Laws.IdiomCopy
import Derived.OrdersHeld
import Derived.Laws.BitsLemmas
import Derived.RowKit
import Derived.Laws.StructEq
import Derived.Test.YtbgbocdohadhoaaGreatDoorRows
import Derived.ProofKit
import Derived.OpenShut
import Derived.ShutString
import Derived.ChangeOld
import Derived.SizedLaws
import Derived.ChangeSlices
import Derived.Deep.Slices
import Derived.DataReads
import Derived.Test.YtbgbocdohadhoaaGreatDoorCRGw0
namespace Go.Proofs.YtbgbocdohadhoaaGreatDoorW.PrintMore
end Go.Proofs.YtbgbocdohadhoaaGreatDoorW.PrintMore
namespace Go.Proofs.YtbgbocdohadhoaaGreatDoorW.PrintLast
end Go.Proofs.YtbgbocdohadhoaaGreatDoorW.PrintLast
namespace Go.Proofs.YtbgbocdohadhoaaGreatDoor.Print
open Go Go.RowKit Go.Proofs.YtbgbocdohadhoaaGreatDoorW.PrintWords Go.Proofs.YtbgbocdohadhoaaGreatDoorW.PrintLast Go.Proofs.YtbgbocdohadhoaaGreatDoorW.PrintMore
set_option linter.unusedVariables false
set_option linter.unusedSimpArgs false
section
attribute [local go_sem] max2_int max_two
set_option linter.unusedVariables false
set_option linter.unusedSimpArgs false
theorem info5 : (Tryz.prog.info? 5).map (fun i => (i.zero, i.size, i.bytes)) = some (some (.int .u8 0), 1, 1) := by kernel_rfl
theorem info22 : (Tryz.prog.info? 22).map (fun i => (i.zero, i.size, i.bytes)) = some (some (.int .u64 0), 1, 8) := by kernel_rfl
theorem info90 : (Tryz.prog.info? 90).map (fun i => (i.zero, i.size, i.bytes)) = some (some (.agg #[(.int .u64 0), (.int .i64 0), (.slice none 0 0)]), 3, 40) := by kernel_rfl
theorem info93 : (Tryz.prog.info? 93).map (fun i => (i.zero, i.size, i.bytes)) = some (some (.agg #[(.slice none 0 0), (.slice none 0 0), (.int .u64 0), (.int .i64 0), (.slice none 0 0), (.int .u64 0), (.int .u64 0), (.slice none 0 0)]), 8, 128) := by kernel_rfl
theorem info153 : (Tryz.prog.info? 153).map (fun i => (i.zero, i.size, i.bytes)) = some (some (.agg #[(.int .i64 0), (.slice none 0 0)]), 2, 32) := by kernel_rfl
structure S182 where
 f0 : Int
 f1 : (List Int)
def z182 : S182 := ⟨(0 : Int), ([] : List Int)⟩
def k182 : Kd S182 := Kd.iso (Kd.pair (Kd.int .i64) (Kd.slice 5 (Kd.int .u8))) (fun x : S182 => (x.f0, x.f1))
theorem k182_open {w : World} {x : S182} {cs : List Value} (h : k182.K w x cs) : ∃ A1 c1, cs = [.int .i64 x.f0, .slice A1 x.f1.length c1] ∧ x.f1.length ≤ c1 ∧ (Kd.int .u8).C w A1 x.f1.length x.f1 := by
 obtain ⟨_, _, rfl, rfl, ⟨A1, c1, rfl, l1, g1⟩⟩ := h
 exact ⟨A1, c1, rfl, l1, g1⟩
theorem k182_mk (w : World) (x : S182) {A1 : Option Addr} {c1 : Nat} (l1 : x.f1.length ≤ c1) (g1 : (Kd.int .u8).C w A1 x.f1.length x.f1) : k182.K w x [.int .i64 x.f0, .slice A1 x.f1.length c1] := ⟨[.int .i64 x.f0], [.slice A1 x.f1.length c1], rfl, rfl, ⟨A1, c1, rfl, l1, g1⟩⟩
def rd_T182 (xs : List S182) (i : Int) : S182 := xs.getD i.toNat z182
theorem at_T182 {w : World} {A : Option Addr} {n : Nat} {xs : List S182} (h : Kd.C k182 w A n xs) (i : Int) (h0 : 0 ≤ i) (h1 : i < n) : ∃ ad A1 c1, A = some ad ∧ w.cell? (ad.add (i.toNat * 2)) = some (.int .i64 (rd_T182 xs i).f0) ∧ w.cell? ⟨(ad.add (i.toNat * 2)).block, (ad.add (i.toNat * 2)).off + 1, none⟩ = some (.slice A1 (rd_T182 xs i).f1.length c1) ∧ (rd_T182 xs i).f1.length ≤ c1 ∧ (Kd.int .u8).C w A1 (rd_T182 xs i).f1.length (rd_T182 xs i).f1 := by
 obtain ⟨ad, c, e, _, hK, hc0⟩ := Kd.C_get h z182 i h0 h1
 have hc : ∀ j u, c[j]? = some u → w.cell? (ad.add (i.toNat * 2 + j)) = some u := hc0
 obtain ⟨A1, c1, rfl, l1, g1⟩ := k182_open hK
 exact ⟨ad, A1, c1, e, hc 0 _ rfl, by rw [← add_field _ _ 1 (by omega)]; exact hc 1 _ rfl, l1, g1⟩
structure S104 where
 f0 : Int
 f1 : Int
 f2 : (List S182)
def z104 : S104 := ⟨(0 : Int), (0 : Int), ([] : List S182)⟩
def k104 : Kd S104 := Kd.iso (Kd.pair (Kd.int .u64) (Kd.pair (Kd.int .i64) (Kd.slice 182 k182))) (fun x : S104 => (x.f0, x.f1, x.f2))
theorem k104_open {w : World} {x : S104} {cs : List Value} (h : k104.K w x cs) : ∃ A2 c2, cs = [.int .u64 x.f0, .int .i64 x.f1, .slice A2 x.f2.length c2] ∧ x.f2.length ≤ c2 ∧ k182.C w A2 x.f2.length x.f2 := by
 obtain ⟨_, _, rfl, rfl, ⟨_, _, rfl, rfl, ⟨A2, c2, rfl, l2, g2⟩⟩⟩ := h
 exact ⟨A2, c2, rfl, l2, g2⟩
theorem k104_mk (w : World) (x : S104) {A2 : Option Addr} {c2 : Nat} (l2 : x.f2.length ≤ c2) (g2 : k182.C w A2 x.f2.length x.f2) : k104.K w x [.int .u64 x.f0, .int .i64 x.f1, .slice A2 x.f2.length c2] := ⟨[.int .u64 x.f0], [.int .i64 x.f1, .slice A2 x.f2.length c2], rfl, rfl, ⟨[.int .i64 x.f1], [.slice A2 x.f2.length c2], rfl, rfl, ⟨A2, c2, rfl, l2, g2⟩⟩⟩
def rd_T104 (xs : List S104) (i : Int) : S104 := xs.getD i.toNat z104
theorem at_T104 {w : World} {A : Option Addr} {n : Nat} {xs : List S104} (h : Kd.C k104 w A n xs) (i : Int) (h0 : 0 ≤ i) (h1 : i < n) : ∃ ad A2 c2, A = some ad ∧ w.cell? (ad.add (i.toNat * 3)) = some (.int .u64 (rd_T104 xs i).f0) ∧ w.cell? ⟨(ad.add (i.toNat * 3)).block, (ad.add (i.toNat * 3)).off + 1, none⟩ = some (.int .i64 (rd_T104 xs i).f1) ∧ w.cell? ⟨(ad.add (i.toNat * 3)).block, (ad.add (i.toNat * 3)).off + 2, none⟩ = some (.slice A2 (rd_T104 xs i).f2.length c2) ∧ (rd_T104 xs i).f2.length ≤ c2 ∧ k182.C w A2 (rd_T104 xs i).f2.length (rd_T104 xs i).f2 := by
 obtain ⟨ad, c, e, _, hK, hc0⟩ := Kd.C_get h z104 i h0 h1
 have hc : ∀ j u, c[j]? = some u → w.cell? (ad.add (i.toNat * 3 + j)) = some u := hc0
 obtain ⟨A2, c2, rfl, l2, g2⟩ := k104_open hK
 exact ⟨ad, A2, c2, e, hc 0 _ rfl, by rw [← add_field _ _ 1 (by omega)]; exact hc 1 _ rfl, by rw [← add_field _ _ 2 (by omega)]; exact hc 2 _ rfl, l2, g2⟩
structure S106 where
 f0 : (List Int)
 f1 : (List Int)
 f2 : Int
 f3 : Int
 f4 : (List Int)
 f5 : Int
 f6 : Int
 f7 : (List Int)
def z106 : S106 := ⟨([] : List Int), ([] : List Int), (0 : Int), (0 : Int), ([] : List Int), (0 : Int), (0 : Int), ([] : List Int)⟩
def k106 : Kd S106 := Kd.iso (Kd.pair (Kd.slice 5 (Kd.int .u8)) (Kd.pair (Kd.slice 5 (Kd.int .u8)) (Kd.pair (Kd.int .u64) (Kd.pair (Kd.int .i64) (Kd.pair (Kd.slice 22 (Kd.int .u64)) (Kd.pair (Kd.int .u64) (Kd.pair (Kd.int .u64) (Kd.slice 22 (Kd.int .u64))))))))) (fun x : S106 => (x.f0, x.f1, x.f2, x.f3, x.f4, x.f5, x.f6, x.f7))
theorem k106_open {w : World} {x : S106} {cs : List Value} (h : k106.K w x cs) : ∃ A0 c0 A1 c1 A4 c4 A7 c7, cs = [.slice A0 x.f0.length c0, .slice A1 x.f1.length c1, .int .u64 x.f2, .int .i64 x.f3, .slice A4 x.f4.length c4, .int .u64 x.f5, .int .u64 x.f6, .slice A7 x.f7.length c7] ∧ x.f0.length ≤ c0 ∧ (Kd.int .u8).C w A0 x.f0.length x.f0 ∧ x.f1.length ≤ c1 ∧ (Kd.int .u8).C w A1 x.f1.length x.f1 ∧ x.f4.length ≤ c4 ∧ (Kd.int .u64).C w A4 x.f4.length x.f4 ∧ x.f7.length ≤ c7 ∧ (Kd.int .u64).C w A7 x.f7.length x.f7 := by
 obtain ⟨_, _, rfl, ⟨A0, c0, rfl, l0, g0⟩, ⟨_, _, rfl, ⟨A1, c1, rfl, l1, g1⟩, ⟨_, _, rfl, rfl, ⟨_, _, rfl, rfl, ⟨_, _, rfl, ⟨A4, c4, rfl, l4, g4⟩, ⟨_, _, rfl, rfl, ⟨_, _, rfl, rfl, ⟨A7, c7, rfl, l7, g7⟩⟩⟩⟩⟩⟩⟩⟩ := h
 exact ⟨A0, c0, A1, c1, A4, c4, A7, c7, rfl, l0, g0, l1, g1, l4, g4, l7, g7⟩
theorem k106_mk (w : World) (x : S106) {A0 : Option Addr} {c0 : Nat} (l0 : x.f0.length ≤ c0) (g0 : (Kd.int .u8).C w A0 x.f0.length x.f0) {A1 : Option Addr} {c1 : Nat} (l1 : x.f1.length ≤ c1) (g1 : (Kd.int .u8).C w A1 x.f1.length x.f1) {A4 : Option Addr} {c4 : Nat} (l4 : x.f4.length ≤ c4) (g4 : (Kd.int .u64).C w A4 x.f4.length x.f4) {A7 : Option Addr} {c7 : Nat} (l7 : x.f7.length ≤ c7) (g7 : (Kd.int .u64).C w A7 x.f7.length x.f7) : k106.K w x [.slice A0 x.f0.length c0, .slice A1 x.f1.length c1, .int .u64 x.f2, .int .i64 x.f3, .slice A4 x.f4.length c4, .int .u64 x.f5, .int .u64 x.f6, .slice A7 x.f7.length c7] := ⟨[.slice A0 x.f0.length c0], [.slice A1 x.f1.length c1, .int .u64 x.f2, .int .i64 x.f3, .slice A4 x.f4.length c4, .int .u64 x.f5, .int .u64 x.f6, .slice A7 x.f7.length c7], rfl, ⟨A0, c0, rfl, l0, g0⟩, ⟨[.slice A1 x.f1.length c1], [.int .u64 x.f2, .int .i64 x.f3, .slice A4 x.f4.length c4, .int .u64 x.f5, .int .u64 x.f6, .slice A7 x.f7.length c7], rfl, ⟨A1, c1, rfl, l1, g1⟩, ⟨[.int .u64 x.f2], [.int .i64 x.f3, .slice A4 x.f4.length c4, .int .u64 x.f5, .int .u64 x.f6, .slice A7 x.f7.length c7], rfl, rfl, ⟨[.int .i64 x.f3], [.slice A4 x.f4.length c4, .int .u64 x.f5, .int .u64 x.f6, .slice A7 x.f7.length c7], rfl, rfl, ⟨[.slice A4 x.f4.length c4], [.int .u64 x.f5, .int .u64 x.f6, .slice A7 x.f7.length c7], rfl, ⟨A4, c4, rfl, l4, g4⟩, ⟨[.int .u64 x.f5], [.int .u64 x.f6, .slice A7 x.f7.length c7], rfl, rfl, ⟨[.int .u64 x.f6], [.slice A7 x.f7.length c7], rfl, rfl, ⟨A7, c7, rfl, l7, g7⟩⟩⟩⟩⟩⟩⟩⟩
def rd_T106 (xs : List S106) (i : Int) : S106 := xs.getD i.toNat z106
theorem at_T106 {w : World} {A : Option Addr} {n : Nat} {xs : List S106} (h : Kd.C k106 w A n xs) (i : Int) (h0 : 0 ≤ i) (h1 : i < n) : ∃ ad A0 c0 A1 c1 A4 c4 A7 c7, A = some ad ∧ w.cell? (ad.add (i.toNat * 8)) = some (.slice A0 (rd_T106 xs i).f0.length c0) ∧ w.cell? ⟨(ad.add (i.toNat * 8)).block, (ad.add (i.toNat * 8)).off + 1, none⟩ = some (.slice A1 (rd_T106 xs i).f1.length c1) ∧ w.cell? ⟨(ad.add (i.toNat * 8)).block, (ad.add (i.toNat * 8)).off + 2, none⟩ = some (.int .u64 (rd_T106 xs i).f2) ∧ w.cell? ⟨(ad.add (i.toNat * 8)).block, (ad.add (i.toNat * 8)).off + 3, none⟩ = some (.int .i64 (rd_T106 xs i).f3) ∧ w.cell? ⟨(ad.add (i.toNat * 8)).block, (ad.add (i.toNat * 8)).off + 4, none⟩ = some (.slice A4 (rd_T106 xs i).f4.length c4) ∧ w.cell? ⟨(ad.add (i.toNat * 8)).block, (ad.add (i.toNat * 8)).off + 5, none⟩ = some (.int .u64 (rd_T106 xs i).f5) ∧ w.cell? ⟨(ad.add (i.toNat * 8)).block, (ad.add (i.toNat * 8)).off + 6, none⟩ = some (.int .u64 (rd_T106 xs i).f6) ∧ w.cell? ⟨(ad.add (i.toNat * 8)).block, (ad.add (i.toNat * 8)).off + 7, none⟩ = some (.slice A7 (rd_T106 xs i).f7.length c7) ∧ (rd_T106 xs i).f0.length ≤ c0 ∧ (Kd.int .u8).C w A0 (rd_T106 xs i).f0.length (rd_T106 xs i).f0 ∧ (rd_T106 xs i).f1.length ≤ c1 ∧ (Kd.int .u8).C w A1 (rd_T106 xs i).f1.length (rd_T106 xs i).f1 ∧ (rd_T106 xs i).f4.length ≤ c4 ∧ (Kd.int .u64).C w A4 (rd_T106 xs i).f4.length (rd_T106 xs i).f4 ∧ (rd_T106 xs i).f7.length ≤ c7 ∧ (Kd.int .u64).C w A7 (rd_T106 xs i).f7.length (rd_T106 xs i).f7 := by
 obtain ⟨ad, c, e, _, hK, hc0⟩ := Kd.C_get h z106 i h0 h1
 have hc : ∀ j u, c[j]? = some u → w.cell? (ad.add (i.toNat * 8 + j)) = some u := hc0
 obtain ⟨A0, c0, A1, c1, A4, c4, A7, c7, rfl, l0, g0, l1, g1, l4, g4, l7, g7⟩ := k106_open hK
 exact ⟨ad, A0, c0, A1, c1, A4, c4, A7, c7, e, hc 0 _ rfl, by rw [← add_field _ _ 1 (by omega)]; exact hc 1 _ rfl, by rw [← add_field _ _ 2 (by omega)]; exact hc 2 _ rfl, by rw [← add_field _ _ 3 (by omega)]; exact hc 3 _ rfl, by rw [← add_field _ _ 4 (by omega)]; exact hc 4 _ rfl, by rw [← add_field _ _ 5 (by omega)]; exact hc 5 _ rfl, by rw [← add_field _ _ 6 (by omega)]; exact hc 6 _ rfl, by rw [← add_field _ _ 7 (by omega)]; exact hc 7 _ rfl, l0, g0, l1, g1, l4, g4, l7, g7⟩
structure S153 where
 f0 : Int
 f1 : (List Int)
def z153 : S153 := ⟨(0 : Int), ([] : List Int)⟩
def k153 : Kd S153 := Kd.iso (Kd.pair (Kd.int .i64) (Kd.slice 5 (Kd.int .u8))) (fun x : S153 => (x.f0, x.f1))
theorem k153_open {w : World} {x : S153} {cs : List Value} (h : k153.K w x cs) : ∃ A1 c1, cs = [.int .i64 x.f0, .slice A1 x.f1.length c1] ∧ x.f1.length ≤ c1 ∧ (Kd.int .u8).C w A1 x.f1.length x.f1 := by
 obtain ⟨_, _, rfl, rfl, ⟨A1, c1, rfl, l1, g1⟩⟩ := h
 exact ⟨A1, c1, rfl, l1, g1⟩
theorem k153_openM {w : World} {base : Nat} {ok : Nat → Prop} {x : S153} {cs : List Value} (h : k153.M w base ok x cs) : ∃ v1, cs = [.int .i64 x.f0, v1] ∧ (Kd.int .u8).R 5 w base ok v1 x.f1 := by
 obtain ⟨_, _, rfl, rfl, ⟨v1, rfl, g1⟩⟩ := h
 exact ⟨v1, rfl, g1⟩
theorem k153_mkM (w : World) (base : Nat) (ok : Nat → Prop) (x : S153) {v1 : Value} (g1 : (Kd.int .u8).R 5 w base ok v1 x.f1) : k153.M w base ok x [.int .i64 x.f0, v1] := ⟨[.int .i64 x.f0], [v1], rfl, rfl, ⟨v1, rfl, g1⟩⟩
def rd_T153 (xs : List S153) (i : Int) : S153 := xs.getD i.toNat z153
theorem at_T153 {w : World} {A : Option Addr} {n : Nat} {xs : List S153} (h : Kd.C k153 w A n xs) (i : Int) (h0 : 0 ≤ i) (h1 : i < n) : ∃ ad A1 c1, A = some ad ∧ w.cell? (ad.add (i.toNat * 2)) = some (.int .i64 (rd_T153 xs i).f0) ∧ w.cell? ⟨(ad.add (i.toNat * 2)).block, (ad.add (i.toNat * 2)).off + 1, none⟩ = some (.slice A1 (rd_T153 xs i).f1.length c1) ∧ (rd_T153 xs i).f1.length ≤ c1 ∧ (Kd.int .u8).C w A1 (rd_T153 xs i).f1.length (rd_T153 xs i).f1 := by
 obtain ⟨ad, c, e, _, hK, hc0⟩ := Kd.C_get h z153 i h0 h1
 have hc : ∀ j u, c[j]? = some u → w.cell? (ad.add (i.toNat * 2 + j)) = some u := hc0
 obtain ⟨A1, c1, rfl, l1, g1⟩ := k153_open hK
 exact ⟨ad, A1, c1, e, hc 0 _ rfl, by rw [← add_field _ _ 1 (by omega)]; exact hc 1 _ rfl, l1, g1⟩
structure S90 where
 f0 : Int
 f1 : Int
 f2 : (List S153)
def z90 : S90 := ⟨(0 : Int), (0 : Int), ([] : List S153)⟩
def k90 : Kd S90 := Kd.iso (Kd.pair (Kd.int .u64) (Kd.pair (Kd.int .i64) (Kd.slice 153 k153))) (fun x : S90 => (x.f0, x.f1, x.f2))
theorem k90_open {w : World} {x : S90} {cs : List Value} (h : k90.K w x cs) : ∃ A2 c2, cs = [.int .u64 x.f0, .int .i64 x.f1, .slice A2 x.f2.length c2] ∧ x.f2.length ≤ c2 ∧ k153.C w A2 x.f2.length x.f2 := by
 obtain ⟨_, _, rfl, rfl, ⟨_, _, rfl, rfl, ⟨A2, c2, rfl, l2, g2⟩⟩⟩ := h
 exact ⟨A2, c2, rfl, l2, g2⟩
theorem k90_openM {w : World} {base : Nat} {ok : Nat → Prop} {x : S90} {cs : List Value} (h : k90.M w base ok x cs) : ∃ v2, cs = [.int .u64 x.f0, .int .i64 x.f1, v2] ∧ k153.R 153 w base ok v2 x.f2 := by
 obtain ⟨_, _, rfl, rfl, ⟨_, _, rfl, rfl, ⟨v2, rfl, g2⟩⟩⟩ := h
 exact ⟨v2, rfl, g2⟩
theorem k90_mkM (w : World) (base : Nat) (ok : Nat → Prop) (x : S90) {v2 : Value} (g2 : k153.R 153 w base ok v2 x.f2) : k90.M w base ok x [.int .u64 x.f0, .int .i64 x.f1, v2] := ⟨[.int .u64 x.f0], [.int .i64 x.f1, v2], rfl, rfl, ⟨[.int .i64 x.f1], [v2], rfl, rfl, ⟨v2, rfl, g2⟩⟩⟩
def rd_T90 (xs : List S90) (i : Int) : S90 := xs.getD i.toNat z90
theorem at_T90 {w : World} {A : Option Addr} {n : Nat} {xs : List S90} (h : Kd.C k90 w A n xs) (i : Int) (h0 : 0 ≤ i) (h1 : i < n) : ∃ ad A2 c2, A = some ad ∧ w.cell? (ad.add (i.toNat * 3)) = some (.int .u64 (rd_T90 xs i).f0) ∧ w.cell? ⟨(ad.add (i.toNat * 3)).block, (ad.add (i.toNat * 3)).off + 1, none⟩ = some (.int .i64 (rd_T90 xs i).f1) ∧ w.cell? ⟨(ad.add (i.toNat * 3)).block, (ad.add (i.toNat * 3)).off + 2, none⟩ = some (.slice A2 (rd_T90 xs i).f2.length c2) ∧ (rd_T90 xs i).f2.length ≤ c2 ∧ k153.C w A2 (rd_T90 xs i).f2.length (rd_T90 xs i).f2 := by
 obtain ⟨ad, c, e, _, hK, hc0⟩ := Kd.C_get h z90 i h0 h1
 have hc : ∀ j u, c[j]? = some u → w.cell? (ad.add (i.toNat * 3 + j)) = some u := hc0
 obtain ⟨A2, c2, rfl, l2, g2⟩ := k90_open hK
 exact ⟨ad, A2, c2, e, hc 0 _ rfl, by rw [← add_field _ _ 1 (by omega)]; exact hc 1 _ rfl, by rw [← add_field _ _ 2 (by omega)]; exact hc 2 _ rfl, l2, g2⟩
structure S93 where
 f0 : (List Int)
 f1 : (List Int)
 f2 : Int
 f3 : Int
 f4 : (List Int)
 f5 : Int
 f6 : Int
 f7 : (List Int)
def z93 : S93 := ⟨([] : List Int), ([] : List Int), (0 : Int), (0 : Int), ([] : List Int), (0 : Int), (0 : Int), ([] : List Int)⟩
def k93 : Kd S93 := Kd.iso (Kd.pair (Kd.slice 5 (Kd.int .u8)) (Kd.pair (Kd.slice 5 (Kd.int .u8)) (Kd.pair (Kd.int .u64) (Kd.pair (Kd.int .i64) (Kd.pair (Kd.slice 22 (Kd.int .u64)) (Kd.pair (Kd.int .u64) (Kd.pair (Kd.int .u64) (Kd.slice 22 (Kd.int .u64))))))))) (fun x : S93 => (x.f0, x.f1, x.f2, x.f3, x.f4, x.f5, x.f6, x.f7))
theorem k93_open {w : World} {x : S93} {cs : List Value} (h : k93.K w x cs) : ∃ A0 c0 A1 c1 A4 c4 A7 c7, cs = [.slice A0 x.f0.length c0, .slice A1 x.f1.length c1, .int .u64 x.f2, .int .i64 x.f3, .slice A4 x.f4.length c4, .int .u64 x.f5, .int .u64 x.f6, .slice A7 x.f7.length c7] ∧ x.f0.length ≤ c0 ∧ (Kd.int .u8).C w A0 x.f0.length x.f0 ∧ x.f1.length ≤ c1 ∧ (Kd.int .u8).C w A1 x.f1.length x.f1 ∧ x.f4.length ≤ c4 ∧ (Kd.int .u64).C w A4 x.f4.length x.f4 ∧ x.f7.length ≤ c7 ∧ (Kd.int .u64).C w A7 x.f7.length x.f7 := by
 obtain ⟨_, _, rfl, ⟨A0, c0, rfl, l0, g0⟩, ⟨_, _, rfl, ⟨A1, c1, rfl, l1, g1⟩, ⟨_, _, rfl, rfl, ⟨_, _, rfl, rfl, ⟨_, _, rfl, ⟨A4, c4, rfl, l4, g4⟩, ⟨_, _, rfl, rfl, ⟨_, _, rfl, rfl, ⟨A7, c7, rfl, l7, g7⟩⟩⟩⟩⟩⟩⟩⟩ := h
 exact ⟨A0, c0, A1, c1, A4, c4, A7, c7, rfl, l0, g0, l1, g1, l4, g4, l7, g7⟩
theorem k93_openM {w : World} {base : Nat} {ok : Nat → Prop} {x : S93} {cs : List Value} (h : k93.M w base ok x cs) : ∃ v0 v1 v4 v7, cs = [v0, v1, .int .u64 x.f2, .int .i64 x.f3, v4, .int .u64 x.f5, .int .u64 x.f6, v7] ∧ (Kd.int .u8).R 5 w base ok v0 x.f0 ∧ (Kd.int .u8).R 5 w base ok v1 x.f1 ∧ (Kd.int .u64).R 22 w base ok v4 x.f4 ∧ (Kd.int .u64).R 22 w base ok v7 x.f7 := by
 obtain ⟨_, _, rfl, ⟨v0, rfl, g0⟩, ⟨_, _, rfl, ⟨v1, rfl, g1⟩, ⟨_, _, rfl, rfl, ⟨_, _, rfl, rfl, ⟨_, _, rfl, ⟨v4, rfl, g4⟩, ⟨_, _, rfl, rfl, ⟨_, _, rfl, rfl, ⟨v7, rfl, g7⟩⟩⟩⟩⟩⟩⟩⟩ := h
 exact ⟨v0, v1, v4, v7, rfl, g0, g1, g4, g7⟩
theorem k93_mkM (w : World) (base : Nat) (ok : Nat → Prop) (x : S93) {v0 : Value} (g0 : (Kd.int .u8).R 5 w base ok v0 x.f0) {v1 : Value} (g1 : (Kd.int .u8).R 5 w base ok v1 x.f1) {v4 : Value} (g4 : (Kd.int .u64).R 22 w base ok v4 x.f4) {v7 : Value} (g7 : (Kd.int .u64).R 22 w base ok v7 x.f7) : k93.M w base ok x [v0, v1, .int .u64 x.f2, .int .i64 x.f3, v4, .int .u64 x.f5, .int .u64 x.f6, v7] := ⟨[v0], [v1, .int .u64 x.f2, .int .i64 x.f3, v4, .int .u64 x.f5, .int .u64 x.f6, v7], rfl, ⟨v0, rfl, g0⟩, ⟨[v1], [.int .u64 x.f2, .int .i64 x.f3, v4, .int .u64 x.f5, .int .u64 x.f6, v7], rfl, ⟨v1, rfl, g1⟩, ⟨[.int .u64 x.f2], [.int .i64 x.f3, v4, .int .u64 x.f5, .int .u64 x.f6, v7], rfl, rfl, ⟨[.int .i64 x.f3], [v4, .int .u64 x.f5, .int .u64 x.f6, v7], rfl, rfl, ⟨[v4], [.int .u64 x.f5, .int .u64 x.f6, v7], rfl, ⟨v4, rfl, g4⟩, ⟨[.int .u64 x.f5], [.int .u64 x.f6, v7], rfl, rfl, ⟨[.int .u64 x.f6], [v7], rfl, rfl, ⟨v7, rfl, g7⟩⟩⟩⟩⟩⟩⟩⟩
def rd_T93 (xs : List S93) (i : Int) : S93 := xs.getD i.toNat z93
theorem at_T93 {w : World} {A : Option Addr} {n : Nat} {xs : List S93} (h : Kd.C k93 w A n xs) (i : Int) (h0 : 0 ≤ i) (h1 : i < n) : ∃ ad A0 c0 A1 c1 A4 c4 A7 c7, A = some ad ∧ w.cell? (ad.add (i.toNat * 8)) = some (.slice A0 (rd_T93 xs i).f0.length c0) ∧ w.cell? ⟨(ad.add (i.toNat * 8)).block, (ad.add (i.toNat * 8)).off + 1, none⟩ = some (.slice A1 (rd_T93 xs i).f1.length c1) ∧ w.cell? ⟨(ad.add (i.toNat * 8)).block, (ad.add (i.toNat * 8)).off + 2, none⟩ = some (.int .u64 (rd_T93 xs i).f2) ∧ w.cell? ⟨(ad.add (i.toNat * 8)).block, (ad.add (i.toNat * 8)).off + 3, none⟩ = some (.int .i64 (rd_T93 xs i).f3) ∧ w.cell? ⟨(ad.add (i.toNat * 8)).block, (ad.add (i.toNat * 8)).off + 4, none⟩ = some (.slice A4 (rd_T93 xs i).f4.length c4) ∧ w.cell? ⟨(ad.add (i.toNat * 8)).block, (ad.add (i.toNat * 8)).off + 5, none⟩ = some (.int .u64 (rd_T93 xs i).f5) ∧ w.cell? ⟨(ad.add (i.toNat * 8)).block, (ad.add (i.toNat * 8)).off + 6, none⟩ = some (.int .u64 (rd_T93 xs i).f6) ∧ w.cell? ⟨(ad.add (i.toNat * 8)).block, (ad.add (i.toNat * 8)).off + 7, none⟩ = some (.slice A7 (rd_T93 xs i).f7.length c7) ∧ (rd_T93 xs i).f0.length ≤ c0 ∧ (Kd.int .u8).C w A0 (rd_T93 xs i).f0.length (rd_T93 xs i).f0 ∧ (rd_T93 xs i).f1.length ≤ c1 ∧ (Kd.int .u8).C w A1 (rd_T93 xs i).f1.length (rd_T93 xs i).f1 ∧ (rd_T93 xs i).f4.length ≤ c4 ∧ (Kd.int .u64).C w A4 (rd_T93 xs i).f4.length (rd_T93 xs i).f4 ∧ (rd_T93 xs i).f7.length ≤ c7 ∧ (Kd.int .u64).C w A7 (rd_T93 xs i).f7.length (rd_T93 xs i).f7 := by
 obtain ⟨ad, c, e, _, hK, hc0⟩ := Kd.C_get h z93 i h0 h1
 have hc : ∀ j u, c[j]? = some u → w.cell? (ad.add (i.toNat * 8 + j)) = some u := hc0
 obtain ⟨A0, c0, A1, c1, A4, c4, A7, c7, rfl, l0, g0, l1, g1, l4, g4, l7, g7⟩ := k93_open hK
 exact ⟨ad, A0, c0, A1, c1, A4, c4, A7, c7, e, hc 0 _ rfl, by rw [← add_field _ _ 1 (by omega)]; exact hc 1 _ rfl, by rw [← add_field _ _ 2 (by omega)]; exact hc 2 _ rfl, by rw [← add_field _ _ 3 (by omega)]; exact hc 3 _ rfl, by rw [← add_field _ _ 4 (by omega)]; exact hc 4 _ rfl, by rw [← add_field _ _ 5 (by omega)]; exact hc 5 _ rfl, by rw [← add_field _ _ 6 (by omega)]; exact hc 6 _ rfl, by rw [← add_field _ _ 7 (by omega)]; exact hc 7 _ rfl, l0, g0, l1, g1, l4, g4, l7, g7⟩
end
section
open Go.ChangeShapes Go.WideShapes
section
variable {H : Type} {enc : TypeId × Value → H} {P : Program} {w : World} {base : Nat} {spare : Nat → Bool} {held : Bool}
theorem row_open {t e : TypeId} {k : IntKind} {fuel : Nat} {cs : List Value} {x : DataW H × List MemPlace} (ht : P.underlying t = some (.slice e)) (he : P.underlying e = some (.int k)) (hc : P.cellsOf e = 1) (hB : P.bytesOf e = 1)
  (hf : DataW.trod enc P w base spare held fuel t cs = some x) (hz : ∀ n ∈ x.1.weights P t, n ≤ reachBytes) :
  ∃ A c l, cs = [.slice A l.length c] ∧ (Kd.int k).C w A l.length l ∧ l.length ≤ c ∧ l.length ≤ 140737488351232 ∧ (∀ n ∈ l, (Lit.int k n).wf = true) := by
 rcases open_ints ht he hc hf with ⟨rfl, rfl⟩ | ⟨a, len, cap, zs, rfl, _, hl, hm, hlen, rfl, hcell, hwf⟩
 ·
  exact ⟨none, 0, [], rfl, Kd.C_of_reads (d := (0 : Int)) (h1 := fun _ => rfl) (ReadsInt.nil _ _), Nat.le_refl _, by simp, by simp⟩
 ·
  have hle : len ≤ zs.length := by
   rw [hlen]
   split
   ·
    exact hl
   ·
    exact Nat.le_refl _
  have hzz : len ≤ reachBytes := by
   have := hz ((((lits (H := H) k (zs.take len)).length) + (lits (H := H) k (zs.drop len)).length) * P.bytesOf e) (by simp [DataW.weights, ht])
   rw [hB] at this
   simp [lits] at this
   omega
  have hlt : (zs.take len).length = len := by simp; omega
  refine ⟨some a, cap, zs.take len, by rw [hlt], ?_, by rw [hlt]; exact hl, by rw [hlt]; exact hzz, fun n hn => hwf n (List.mem_of_mem_take hn)⟩
  refine Kd.C_of_reads (d := (0 : Int)) (h1 := fun _ => rfl) ⟨rfl, by rw [hlt]; have : len ≤ maxLen := Nat.le_trans hl hm; simpa [maxLen] using this, fun _ => ⟨a, rfl, fun j hj => ?_⟩⟩
  rw [hlt] at hj
  rw [hcell j (by omega)]
  simp [List.getD_eq_getElem?_getD, List.getElem?_take, hj]
theorem two_open {t : TypeId} {f0 f1 : Field} {fuel : Nat} {cs : List Value} {x : DataW H × List MemPlace} (ht : P.underlying t = some (.struct #[f0, f1])) (o0 : f0.offset = 0) (o1 : f1.offset = 1) (c0 : P.cellsOf f0.type = 1) (c1 : P.cellsOf f1.type = 1) (ct : P.cellsOf t = 2)
  (hf : DataW.trod enc P w base spare held fuel t cs = some x) (hz : ∀ n ∈ x.1.weights P t, n ≤ reachBytes) :
  ∃ v0 v1 y0 y1 n, cs = [v0, v1] ∧ DataW.trod enc P w base spare held n f0.type [v0] = some y0 ∧ DataW.trod enc P w base spare held n f1.type [v1] = some y1 ∧ (∀ n ∈ y0.1.weights P f0.type, n ≤ reachBytes) ∧ (∀ n ∈ y1.1.weights P f1.type, n ≤ reachBytes) := by
 obtain ⟨xs, n, _, rfl, hl, hlen, hg⟩ := DataW.trod_struct ht hf
 rw [ct] at hl
 match cs, hl with
 | [v0, v1], _ =>
  match xs, hlen with
  | [y0, y1], _ =>
   have g0 := hg 0 f0 rfl
   have g1 := hg 1 f1 rfl
   rw [o0, c0] at g0
   rw [o1, c1] at g1
   simp only [DataW.weights, ht, DataW.weightsEach, List.map_cons, List.map_nil, List.mem_append] at hz
   exact ⟨v0, v1, y0, y1, n, rfl, by simpa using g0, by simpa using g1, fun n hn => hz n (.inl hn), fun n hn => hz n (.inr (.inl hn))⟩
end
theorem weights_of {H : Type} {P : Program} {ts : List TypeId} {ds : List (DataW H)} {j : Nat} {t : TypeId} {d : DataW H} (hsz : (DataW.weightsEach P ts ds).all (· ≤ reachBytes) = true) (htj : ts[j]? = some t) (hdj : ds[j]? = some d) : ∀ n ∈ d.weights P t, n ≤ reachBytes := fun n hn => by
 have := List.all_eq_true.1 hsz _ (DataW.weights_mem_each htj hdj n hn)
 simpa using this
theorem byte_range {l : List Int} (h : ∀ n ∈ l, (Lit.int .u8 n).wf = true) : ∀ x ∈ l, 0 ≤ x ∧ x < 256 := by
 intro x hx
 have := h x hx
 simp [Lit.wf, IntKind.min, IntKind.max, IntKind.bits, IntKind.signed] at this
 omega
theorem u64_range {a : Int} (ha : (Lit.int .u64 a).wf = true) : 0 ≤ a ∧ a < 18446744073709551616 := by
 simp [Lit.wf, IntKind.min, IntKind.max, IntKind.bits, IntKind.signed] at ha
 omega
end
theorem choose_row {α : Type} (Q : Nat → α → Prop) : ∀ len, (∀ i, i < len → ∃ z, Q i z) → ∃ l : List α, l.length = len ∧ ∀ i z, l[i]? = some z → Q i z
 | 0, _ => ⟨[], rfl, fun i z h => by simp at h⟩
 | len + 1, h => by
  obtain ⟨l, hl, hq⟩ := choose_row Q len (fun i hi => h i (by omega))
  obtain ⟨z, hz⟩ := h len (by omega)
  refine ⟨l ++ [z], by simp [hl], fun i y hy => ?_⟩
  by_cases c : i < l.length
  ·
   rw [List.getElem?_append_left c] at hy
   exact hq i y hy
  ·
   rw [List.getElem?_append_right (by omega)] at hy
   have hi : i = len := by
    have := (List.getElem?_eq_some_iff.1 hy).1
    simp at this
    omega
   subst hi
   rw [hl, Nat.sub_self] at hy
   cases hy
   exact hz
theorem weightsAll_mem {H : Type} {P : Program} {e : TypeId} : ∀ {l : List (DataW H)} {d : DataW H}, d ∈ l → ∀ n ∈ d.weights P e, n ∈ DataW.weightsAll P e l
 | [], _, h, _, _ => by cases h
 | x :: r, d, h, n, hn => by
  rw [DataW.weightsAll, List.mem_append]
  rcases List.mem_cons.1 h with rfl | h
  ·
   exact Or.inl hn
  ·
   exact Or.inr (weightsAll_mem h n hn)
theorem add_two (a : Addr) (x y : Nat) : (a.add x).add y = a.add (x + y) := by
 unfold Addr.add
 by_cases hx : x = 0
 ·
  subst hx; simp
 ·
  by_cases hy : y = 0
  ·
   subst hy; simp
  ·
   simp [hx, hy]; omega
theorem rows_open {α H : Type} {enc : TypeId × Value → H} {P : Program} {w : World} {base : Nat} {spare : Nat → Bool} {held : Bool} (d : Kd α) (good : α → Prop) {t e : TypeId} {fuel : Nat} {cs : List Value} {x : DataW H × List MemPlace} (ht : P.underlying t = some (.slice e)) (hs : d.sz = P.cellsOf e)
  (hel : ∀ n cs' y, DataW.trod enc P w base spare held n e cs' = some y → (∀ m ∈ y.1.weights P e, m ≤ reachBytes) → ∃ z, d.K w z cs' ∧ good z)
  (hf : DataW.trod enc P w base spare held fuel t cs = some x) (hz : ∀ n ∈ x.1.weights P t, n ≤ reachBytes) :
  ∃ A c, ∃ l : List α, cs = [.slice A l.length c] ∧ Kd.C d w A l.length l ∧ l.length ≤ c ∧ ∀ z ∈ l, good z := by
 rcases Go.Deep.open_slice ht hf with ⟨rfl, rfl⟩ | ⟨a, len, cap, m, n, D, Pl, rfl, hb, hl, hm, hme, rfl, hi⟩
 ·
  exact ⟨none, 0, [], rfl, ⟨rfl, by simp, fun h => absurd h (by simp)⟩, Nat.le_refl _, by simp⟩
 ·
  have hlm : len ≤ m := by rw [hme]; split <;> omega
  obtain ⟨l, hll, hq⟩ := choose_row (fun i (z : α) => good z ∧ ∃ c, c.length = d.sz ∧ d.K w z c ∧ ∀ k u, c[k]? = some u → w.cell? (a.add (i * d.sz + k)) = some u) len (fun i hil => by
   obtain ⟨cs', hc, htr⟩ := hi i (by omega)
   have hw : ∀ m ∈ (D i).weights P e, m ≤ reachBytes := fun k hk => hz k (by
    simp only [DataW.weights, ht, List.mem_cons, List.mem_append]
    exact Or.inr (Or.inl (weightsAll_mem (List.mem_map.2 ⟨i, List.mem_range.2 hil, rfl⟩) k hk)))
   obtain ⟨z, hk, hg⟩ := hel n cs' _ htr hw
   obtain ⟨q1, q2, q3⟩ := World.cells?_some hc
   refine ⟨z, hg, cs', by rw [hs]; exact q2, hk, fun k u hu => ?_⟩
   have hk2 : k < P.cellsOf e := by rw [← q2]; exact (List.getElem?_eq_some_iff.1 hu).1
   rw [hs, ← add_two, q3 k hk2]
   exact hu)
  refine ⟨some a, cap, l, by rw [hll], ⟨rfl, by rw [hll]; have : len ≤ maxLen := Nat.le_trans hl hm; simpa [maxLen] using this, fun _ => ⟨a, rfl, fun j p hp => (hq j p hp).2⟩⟩, by rw [hll]; exact hl, fun z hzz => ?_⟩
  obtain ⟨j, hj, rfl⟩ := List.mem_iff_getElem.1 hzz
  exact (hq j _ (List.getElem?_eq_getElem hj)).1
section
def ss {α : Type} (e : Nat) (d : Kd α) : Kd (List α) where
 sz := 1
 E := e :: d.E
 K := fun w xs cs => ∃ A c, cs = [.slice A xs.length c] ∧ xs.length ≤ c ∧ d.C w A xs.length xs
 M := fun w base ok xs cs => ∃ v, cs = [v] ∧ Kd.S d e w base ok v xs
 K_len := by
  rintro w x cs ⟨A, c, rfl, _⟩
  rfl
 K_one := by
  rintro w x cs ⟨A, c, rfl, _⟩ u hu
  rw [List.mem_singleton.1 hu]
  rfl
 K_below := by
  rintro w w1 x cs hb ⟨A, c, rfl, hl, hr⟩
  exact ⟨A, c, rfl, hl, Kd.C_below hr hb⟩
 K_of_M := by
  rintro w base ok x cs ⟨v, rfl, h⟩
  obtain ⟨A, c, rfl, hl, hr⟩ := Kd.S_reads h
  exact ⟨A, c, rfl, hl, hr⟩
 M_mono := by
  rintro w base ok ok' x cs hok ⟨v, rfl, h⟩
  exact ⟨v, rfl, Kd.S_mono h hok⟩
 M_bound := by
  rintro w base ok x cs ⟨v, rfl, h⟩
  exact ⟨v, rfl, Kd.S_bound h⟩
 M_move := by
  rintro w w1 base ok x cs hm ⟨v, rfl, h⟩
  exact ⟨v, rfl, Kd.S_move h hm⟩
 M_lower := by
  rintro w base base' ok x cs hb ⟨v, rfl, h⟩
  exact ⟨v, rfl, Kd.S_lower h hb⟩
def ap {α β : Type} (a : Kd α) (b : Kd β) : Kd (α × β) where
 sz := a.sz + b.sz
 E := a.E ++ b.E
 K := fun w x cs => ∃ c0 c1, cs = c0 ++ c1 ∧ a.K w x.1 c0 ∧ b.K w x.2 c1
 M := fun w base ok x cs => ∃ (p : Nat → Prop) (c0 c1 : List Value), cs = c0 ++ c1 ∧ a.M w base (fun k => ok k ∧ p k) x.1 c0 ∧ b.M w base (fun k => ok k ∧ ¬ p k) x.2 c1
 K_len := by
  rintro w x cs ⟨c0, c1, rfl, h0, h1⟩
  rw [List.length_append, a.K_len h0, b.K_len h1]
 K_one := by
  rintro w x cs ⟨c0, c1, rfl, h0, h1⟩ u hu
  rcases List.mem_append.1 hu with hu | hu
  ·
   exact a.K_one h0 u hu
  ·
   exact b.K_one h1 u hu
 K_below := by
  rintro w w1 x cs hb ⟨c0, c1, rfl, h0, h1⟩
  exact ⟨c0, c1, rfl, a.K_below hb h0, b.K_below hb h1⟩
 K_of_M := by
  rintro w base ok x cs ⟨p, c0, c1, rfl, h0, h1⟩
  exact ⟨c0, c1, rfl, a.K_of_M h0, b.K_of_M h1⟩
 M_mono := by
  rintro w base ok ok' x cs hok ⟨p, c0, c1, rfl, h0, h1⟩
  exact ⟨p, c0, c1, rfl, a.M_mono (fun k hk => ⟨hok k hk.1, hk.2⟩) h0, b.M_mono (fun k hk => ⟨hok k hk.1, hk.2⟩) h1⟩
 M_bound := by
  rintro w base ok x cs ⟨p, c0, c1, rfl, h0, h1⟩
  refine ⟨p, c0, c1, rfl, a.M_mono ?_ (a.M_bound h0), b.M_mono ?_ (b.M_bound h1)⟩
  ·
   rintro k ⟨h2, h3, h4, q, hq, hc⟩
   exact ⟨⟨h2.1, h3, h4, q, List.mem_append_left _ hq, hc⟩, h2.2⟩
  ·
   rintro k ⟨h2, h3, h4, q, hq, hc⟩
   exact ⟨⟨h2.1, h3, h4, q, List.mem_append_right _ hq, hc⟩, h2.2⟩
 M_move := by
  rintro w w1 base ok x cs hm ⟨p, c0, c1, rfl, h0, h1⟩
  exact ⟨p, c0, c1, rfl, a.M_move (fun k hk => hm k hk.1) h0, b.M_move (fun k hk => hm k hk.1) h1⟩
 M_lower := by
  rintro w base base' ok x cs hb ⟨p, c0, c1, rfl, h0, h1⟩
  exact ⟨p, c0, c1, rfl, a.M_lower hb h0, b.M_lower hb h1⟩
abbrev Ev := S153
abbrev Se := S90
abbrev No := S93
abbrev EvL := S182
abbrev SeL := S104
abbrev NoL := S106
abbrev kEv : Kd Ev := k153
abbrev kSe : Kd Se := k90
abbrev kNo : Kd No := k93
abbrev kEvL : Kd EvL := k182
abbrev kSeL : Kd SeL := k104
abbrev kNoL : Kd NoL := k106
abbrev tEv : Nat := 153
abbrev tSe : Nat := 90
abbrev tNo : Nat := 93
def aSe : Kd Se := Kd.iso (Kd.pair (Kd.int .u64) (Kd.pair (Kd.int .i64) (ss 153 kEv))) (fun x : Se => (x.f0, x.f1, x.f2))
def aNo : Kd No := Kd.iso (ap (Kd.slice 5 (Kd.int .u8)) (ap (Kd.slice 5 (Kd.int .u8)) (Kd.pair (Kd.int .u64) (Kd.pair (Kd.int .i64) (ap (Kd.slice 22 (Kd.int .u64)) (Kd.pair (Kd.int .u64) (Kd.pair (Kd.int .u64) (Kd.slice 22 (Kd.int .u64))))))))) (fun x : No => (x.f0, x.f1, x.f2, x.f3, x.f4, x.f5, x.f6, x.f7))
theorem aSe_C {w : World} {A : Option Addr} {n : Nat} {xs : List Se} (h : Kd.C aSe w A n xs) : Kd.C kSe w A n xs := h
theorem aNo_C {w : World} {A : Option Addr} {n : Nat} {xs : List No} (h : Kd.C aNo w A n xs) : Kd.C kNo w A n xs := h
theorem aSe_open {w : World} {base : Nat} {ok : Nat → Prop} {x : Se} {cs : List Value} (h : aSe.M w base ok x cs) : ∃ v2, cs = [.int .u64 x.f0, .int .i64 x.f1, v2] ∧ Kd.S kEv tEv w base ok v2 x.f2 := by
 obtain ⟨_, _, rfl, rfl, _, _, rfl, rfl, v2, rfl, g2⟩ := h
 exact ⟨v2, rfl, g2⟩
theorem aSe_mk (w : World) (base : Nat) (ok : Nat → Prop) (x : Se) {v2 : Value} (g2 : Kd.S kEv tEv w base ok v2 x.f2) : aSe.M w base ok x [.int .u64 x.f0, .int .i64 x.f1, v2] :=
 ⟨[.int .u64 x.f0], [.int .i64 x.f1, v2], rfl, rfl, [.int .i64 x.f1], [v2], rfl, rfl, v2, rfl, g2⟩
theorem aNo_open {w : World} {base : Nat} {ok : Nat → Prop} {x : No} {cs : List Value} (h : aNo.M w base ok x cs) : ∃ (p0 p1 p4 : Nat → Prop) (v0 v1 v4 v7 : Value), cs = [v0, v1, .int .u64 x.f2, .int .i64 x.f3, v4, .int .u64 x.f5, .int .u64 x.f6, v7] ∧
  (Kd.int .u8).R 5 w base (fun k => ok k ∧ p0 k) v0 x.f0 ∧ (Kd.int .u8).R 5 w base (fun k => (ok k ∧ ¬ p0 k) ∧ p1 k) v1 x.f1 ∧ (Kd.int .u64).R 22 w base (fun k => ((ok k ∧ ¬ p0 k) ∧ ¬ p1 k) ∧ p4 k) v4 x.f4 ∧ (Kd.int .u64).R 22 w base (fun k => ((ok k ∧ ¬ p0 k) ∧ ¬ p1 k) ∧ ¬ p4 k) v7 x.f7 := by
 obtain ⟨p0, _, _, rfl, ⟨v0, rfl, g0⟩, p1, _, _, rfl, ⟨v1, rfl, g1⟩, _, _, rfl, rfl, _, _, rfl, rfl, p4, _, _, rfl, ⟨v4, rfl, g4⟩, _, _, rfl, rfl, _, _, rfl, rfl, v7, rfl, g7⟩ := h
 exact ⟨p0, p1, p4, v0, v1, v4, v7, rfl, g0, g1, g4, g7⟩
theorem aNo_mkp (w : World) (base : Nat) (ok : Nat → Prop) (x : No) (p0 p1 p4 : Nat → Prop) {v0 v1 v4 v7 : Value}
  (g0 : (Kd.int .u8).R 5 w base (fun k => ok k ∧ p0 k) v0 x.f0) (g1 : (Kd.int .u8).R 5 w base (fun k => (ok k ∧ ¬ p0 k) ∧ p1 k) v1 x.f1) (g4 : (Kd.int .u64).R 22 w base (fun k => ((ok k ∧ ¬ p0 k) ∧ ¬ p1 k) ∧ p4 k) v4 x.f4) (g7 : (Kd.int .u64).R 22 w base (fun k => ((ok k ∧ ¬ p0 k) ∧ ¬ p1 k) ∧ ¬ p4 k) v7 x.f7) :
  aNo.M w base ok x [v0, v1, .int .u64 x.f2, .int .i64 x.f3, v4, .int .u64 x.f5, .int .u64 x.f6, v7] :=
 ⟨p0, [v0], [v1, .int .u64 x.f2, .int .i64 x.f3, v4, .int .u64 x.f5, .int .u64 x.f6, v7], rfl, ⟨v0, rfl, g0⟩, p1, [v1], [.int .u64 x.f2, .int .i64 x.f3, v4, .int .u64 x.f5, .int .u64 x.f6, v7], rfl, ⟨v1, rfl, g1⟩, [.int .u64 x.f2], [.int .i64 x.f3, v4, .int .u64 x.f5, .int .u64 x.f6, v7], rfl, rfl, [.int .i64 x.f3], [v4, .int .u64 x.f5, .int .u64 x.f6, v7], rfl, rfl, p4, [v4], [.int .u64 x.f5, .int .u64 x.f6, v7], rfl, ⟨v4, rfl, g4⟩, [.int .u64 x.f5], [.int .u64 x.f6, v7], rfl, rfl, [.int .u64 x.f6], [v7], rfl, rfl, v7, rfl, g7⟩
theorem aNo_mk (w : World) (base : Nat) (ok : Nat → Prop) (x : No) {v0 v1 v4 v7 : Value}
  (g0 : (Kd.int .u8).R 5 w base ok v0 x.f0) (g1 : (Kd.int .u8).R 5 w base ok v1 x.f1) (g4 : (Kd.int .u64).R 22 w base ok v4 x.f4) (g7 : (Kd.int .u64).R 22 w base ok v7 x.f7)
  (d01 : ∀ k, some k = v1.ownBlock → some k ≠ v0.ownBlock) (d04 : ∀ k, some k = v4.ownBlock → some k ≠ v0.ownBlock) (d07 : ∀ k, some k = v7.ownBlock → some k ≠ v0.ownBlock)
  (d14 : ∀ k, some k = v4.ownBlock → some k ≠ v1.ownBlock) (d17 : ∀ k, some k = v7.ownBlock → some k ≠ v1.ownBlock) (d47 : ∀ k, some k = v7.ownBlock → some k ≠ v4.ownBlock) :
  aNo.M w base ok x [v0, v1, .int .u64 x.f2, .int .i64 x.f3, v4, .int .u64 x.f5, .int .u64 x.f6, v7] :=
 aNo_mkp w base ok x (fun k => some k = v0.ownBlock) (fun k => some k = v1.ownBlock) (fun k => some k = v4.ownBlock)
  (Kd.R_mono (Kd.R_tight rfl g0) (fun k hk => ⟨g0.1 k hk.symm, hk⟩)) (Kd.R_mono (Kd.R_tight rfl g1) (fun k hk => ⟨⟨g1.1 k hk.symm, d01 k hk⟩, hk⟩))
  (Kd.R_mono (Kd.R_tight rfl g4) (fun k hk => ⟨⟨⟨g4.1 k hk.symm, d04 k hk⟩, d14 k hk⟩, hk⟩)) (Kd.R_mono (Kd.R_tight rfl g7) (fun k hk => ⟨⟨⟨g7.1 k hk.symm, d07 k hk⟩, d17 k hk⟩, d47 k hk⟩))
theorem cells3 {w : World} {g t : Nat} {v0 v1 v2 : Value} (h : w.heap[g]? = some (.cells #[v0, v1, v2] t (0, 0))) : w.cell? ⟨g, 0, none⟩ = some v0 ∧ w.cell? ⟨g, 1, none⟩ = some v1 ∧ w.cell? ⟨g, 2, none⟩ = some v2 := ⟨(blk_cell h 0).trans rfl, (blk_cell h 1).trans rfl, (blk_cell h 2).trans rfl⟩
theorem cells6 {w : World} {g t : Nat} {v0 v1 v2 v3 v4 v5 : Value} (h : w.heap[g]? = some (.cells #[v0, v1, v2, v3, v4, v5] t (0, 0))) : w.cell? ⟨g, 0, none⟩ = some v0 ∧ w.cell? ⟨g, 1, none⟩ = some v1 ∧ w.cell? ⟨g, 2, none⟩ = some v2 ∧ w.cell? ⟨g, 3, none⟩ = some v3 ∧ w.cell? ⟨g, 4, none⟩ = some v4 ∧ w.cell? ⟨g, 5, none⟩ = some v5 :=
 ⟨(blk_cell h 0).trans rfl, (blk_cell h 1).trans rfl, (blk_cell h 2).trans rfl, (blk_cell h 3).trans rfl, (blk_cell h 4).trans rfl, (blk_cell h 5).trans rfl⟩
theorem cells8 {w : World} {g t : Nat} {v0 v1 v2 v3 v4 v5 v6 v7 : Value} (h : w.heap[g]? = some (.cells #[v0, v1, v2, v3, v4, v5, v6, v7] t (0, 0))) : w.cell? ⟨g, 0, none⟩ = some v0 ∧ w.cell? ⟨g, 1, none⟩ = some v1 ∧ w.cell? ⟨g, 2, none⟩ = some v2 ∧ w.cell? ⟨g, 3, none⟩ = some v3 ∧ w.cell? ⟨g, 4, none⟩ = some v4 ∧ w.cell? ⟨g, 5, none⟩ = some v5 ∧ w.cell? ⟨g, 6, none⟩ = some v6 ∧ w.cell? ⟨g, 7, none⟩ = some v7 :=
 ⟨(blk_cell h 0).trans rfl, (blk_cell h 1).trans rfl, (blk_cell h 2).trans rfl, (blk_cell h 3).trans rfl, (blk_cell h 4).trans rfl, (blk_cell h 5).trans rfl, (blk_cell h 6).trans rfl, (blk_cell h 7).trans rfl⟩
structure SK (w0 W : World) (lo hi : Nat) (As : Option Addr) (cs : Nat) (xs : List Se) (An : Option Addr) (cn : Nat) (ns : List No) : Prop where
 ex : ∃ p : Nat → Prop, Kd.S aSe tSe W w0.heap.size (fun k => (lo ≤ k ∧ k < hi) ∧ p k) (.slice As xs.length cs) xs ∧ Kd.S aNo tNo W w0.heap.size (fun k => (lo ≤ k ∧ k < hi) ∧ ¬ p k) (.slice An ns.length cn) ns
section
variable {w0 W W' : World} {lo hi : Nat} {As An : Option Addr} {cs cn : Nat} {xs : List Se} {ns : List No}
theorem SK.reads (h : SK w0 W lo hi As cs xs An cn ns) : (Kd.C kSe W As xs.length xs ∧ xs.length ≤ cs) ∧ (Kd.C kNo W An ns.length ns ∧ ns.length ≤ cn) := by
 obtain ⟨p, h1, h2⟩ := h.ex
 exact ⟨⟨aSe_C (Kd.S_reads' h1).2.2, (Kd.S_reads' h1).2.1⟩, ⟨aNo_C (Kd.S_reads' h2).2.2, (Kd.S_reads' h2).2.1⟩⟩
theorem SK.below (h : SK w0 W lo hi As cs xs An cn ns) (hb : Below W.heap.size W W') : SK w0 W' lo hi As cs xs An cn ns := by
 obtain ⟨p, h1, h2⟩ := h.ex
 exact ⟨p, Kd.S_below h1 hb, Kd.S_below h2 hb⟩
theorem SK.kept {S : Nat → Prop} (h : SK w0 W lo hi As cs xs An cn ns) (hk : Kept W W' S) (hS : ∀ k, lo ≤ k → k < hi → ¬ S k) : SK w0 W' lo hi As cs xs An cn ns := by
 obtain ⟨p, h1, h2⟩ := h.ex
 exact ⟨p, Kd.S_step h1 (fun k ho hlt => hk.2 k hlt (hS k ho.1.1 ho.1.2)), Kd.S_step h2 (fun k ho hlt => hk.2 k hlt (hS k ho.1.1 ho.1.2))⟩
theorem SK.rebase {w1 : World} (h : SK w0 W lo hi As cs xs An cn ns) (hw : w1.heap.size ≤ w0.heap.size) : SK w1 W lo hi As cs xs An cn ns := by
 obtain ⟨p, h1, h2⟩ := h.ex
 exact ⟨p, Kd.S_lower h1 hw, Kd.S_lower h2 hw⟩
end
end
section
attribute [local go_sem] max2_int max_two
set_option linter.unusedVariables false
set_option linter.unusedSimpArgs false
def laws_toByteS.l0 : Nat → List Int → List Int → Int → Option (List Int)
 | 0, _, _, _ => none
 | k + 1, x0, x3, x4 => if x4 < (x0.length : Int) then (if 0 ≤ x4 then (if x4 < (x3.length : Int) then (laws_toByteS.l0 k x0 (x3.set (x4 : Int).toNat (rd x0 x4)) (wrap64 (x4 + 1))) else (none)) else (none)) else (some x3)
def laws_toByteS.f (k : Nat) (l0 : List Int) : Option (List Int) := if 0 ≤ (l0.length : Int) then (if ((l0.length : Int) : Int).toNat ≤ 281474976710656 then (laws_toByteS.l0 k l0 (List.replicate ((l0.length : Int) : Int).toNat 0) 0) else (none)) else (none)
set_option maxHeartbeats 8000000 in
set_option maxRecDepth 100000 in
theorem laws_toByteS.calls (k : Nat) (A0 : Option Addr) (c0 : Nat) (l0 : List Int) (r : List Int) (w : World) (hr0 : Kd.C (Kd.int .u8) w A0 l0.length l0) (hc0 : l0.length ≤ c0) (h : laws_toByteS.f k l0 = some r) :
  Calls Tryz.prog 130 #[.slice A0 l0.length c0] w fun e w' => ∃ v0_ : Value, e = .returned (v0_) ∧ Kd.R (Kd.int .u8) 5 w' w.heap.size (fun _ => True) v0_ r ∧ Below w.heap.size w w' := by
 have HR0 := Aside0.mk hr0
 have HC0 := Aside0.mk hc0
 clear hr0 hc0
 have HB := Aside0.mk (Below.refl w.heap.size w)
 have H : (if 0 ≤ (l0.length : Int) then (if ((l0.length : Int) : Int).toNat ≤ 281474976710656 then (laws_toByteS.l0 k l0 (List.replicate ((l0.length : Int) : Int).toNat 0) 0) else (none)) else (none)) = some r := h
 clear h
 by_cases c2 : 0 ≤ (l0.length : Int)
 ·
  rw [if_pos c2] at H
  have c2b0 := eq_true c2
  have c2b1 : decide (0 ≤ (l0.length : Int)) = true := decide_eq_true c2
  clear c2
  by_cases c3 : ((l0.length : Int) : Int).toNat ≤ 281474976710656
  ·
   rw [if_pos c3] at H
   have c3b0 := eq_true c3
   have c3b1 : decide (((l0.length : Int) : Int).toNat ≤ 281474976710656) = true := decide_eq_true c3
   clear c3
   obtain ⟨y229, hy229⟩ : ∃ y_ : List Int, y_ = (List.replicate ((l0.length : Int) : Int).toNat 0) := ⟨_, rfl⟩
   replace H : (laws_toByteS.l0 k l0 y229 0) = some r := by first | (rw [hy229]; with_reducible exact H) | (have H2_ := (Option.bind_some _ _).symm.trans H; rw [hy229]; with_reducible exact H2_) | (have H2_ := (Option.bind_some _ _).symm.trans H; with_reducible exact H2_) | with_reducible exact H | (rw [hy229]; exact H) | exact H
   have Ny229 := Aside0.mk hy229
   clear hy229
   have H' := Aside0.mk H
   clear H
   go_enter Tryz.func130, Tryz.ntmps130
   go_wp2_with (first | ((with_reducible refine gate_dst (N := 7) rfl ?_); refine Kd.R_make (Kd.int .u8) _ 5 rfl (N := 7) rfl 38 _ _ rfl (l0.length : Int) rfl rfl Tryz.underlying38 (.int .u8 0) 1 info5 rfl (by decide) (by omega) 0 (ok := fun _ => True) (okp := fun _ => True) rfl (fun _ hk => hk) trivial (of_decide_eq_true (by first | (with_reducible assumption) | assumption)) (Nat.le_trans (Nat.mul_le_mul_right _ (of_decide_eq_true (by first | (with_reducible assumption) | assumption) : (l0.length : Int).toNat ≤ 281474976710656)) (by omega)) (Below.refl _ _) (Nat.le_refl _) ?_; intro v230 w4 ho5 hb hg_ hnew_; clear hg_ hnew_; (first | rw [← Ny229.out] at ho5 | (simp only [Int.reduceToNat] at ho5; rw [← Ny229.out] at ho5)); have n0_ := Aside0.mk (Kd.R_lower ho5 (below_size (by repeat (first | (with_reducible first | exact HB.out | apply below_alloc | apply pw_below_drewN | apply below_drew1) | exact HB.out)))); have n1_ := Aside0.mk (below_step (by repeat (first | (with_reducible first | exact HB.out | apply below_alloc | apply pw_below_drewN | apply below_drew1) | exact HB.out)) hb); clear HB; have HO231 := n0_; have HB := n1_; clear n0_ n1_; clear hb ho5))
   go_loopg [4] k (fun kq v4 w' => ∃ (x3_1 : List Int) (x4_1 : Int), v4 = .int .i64 x4_1 ∧ Aside0 (laws_toByteS.l0 kq l0 x3_1 x4_1 = some r) ∧ Aside0 (kq ≤ k) ∧ Aside0 (Kd.R (Kd.int .u8) 5 w' w.heap.size (fun _ => True) v230 x3_1) ∧ Aside0 (Below w.heap.size w w'))
   case atStart => exact ⟨(y229), (0), (by first | rfl | (simp; done) | (simp [*]; done)), H', ⟨Nat.le_refl _⟩, ⟨by (with_reducible repeat (first | apply Kd.R_alloc | apply Kd.R_drewN | apply Kd.R_drew)); exact HO231.out⟩, ⟨by repeat (first | (with_reducible first | exact HB.out | apply below_alloc | apply pw_below_drewN | apply below_drew1) | exact HB.out)⟩⟩
   case round =>
    clear H'
    try clear c1
    try clear c2
    try clear c2b0
    try clear c2b1
    try clear p2
    try clear c3
    try clear c3b0
    try clear c3b1
    obtain ⟨x3_1, x4_1, rfl, HA, HK1, HO_3, HB⟩ := hrel
    cases gk with
    | zero => exact absurd HA.out (by simp [laws_toByteS.l0])
    | succ k1 =>
     have H := HA.out
     clear HA
     simp only [laws_toByteS.l0] at H
     by_cases c6 : x4_1 < (l0.length : Int)
     ·
      rw [if_pos c6] at H
      have c6b0 : decide (x4_1 < (l0.length : Int)) = true := decide_eq_true c6
      clear c6
      by_cases c7 : 0 ≤ x4_1
      ·
       rw [if_pos c7] at H
       have c7b0 : decide (0 ≤ x4_1) = true := decide_eq_true c7
       clear c7
       by_cases c8 : x4_1 < (x3_1.length : Int)
       ·
        rw [if_pos c8] at H
        have c8b0 : decide (x4_1 < (x3_1.length : Int)) = true := decide_eq_true c8
        clear c8
        obtain ⟨y233, hy233⟩ : ∃ y_ : List Int, y_ = (x3_1.set (x4_1 : Int).toNat (rd l0 x4_1)) := ⟨_, rfl⟩
        replace H : (laws_toByteS.l0 k1 l0 y233 (wrap64 (x4_1 + 1))) = some r := by first | (rw [hy233]; with_reducible exact H) | (have H2_ := (Option.bind_some _ _).symm.trans H; rw [hy233]; with_reducible exact H2_) | (have H2_ := (Option.bind_some _ _).symm.trans H; with_reducible exact H2_) | with_reducible exact H | (rw [hy233]; exact H) | exact H
        have Ny233 := Aside0.mk hy233
        clear hy233
        have H' := Aside0.mk H
        clear H
        have p232 : 0 ≤ (x4_1 : Int) := of_decide_eq_true (by first | (with_reducible assumption) | assumption)
        have q232 : x4_1 < (l0.length : Int) := of_decide_eq_true (by first | (with_reducible assumption) | assumption)
        obtain ⟨ad232, e232, hx232_0⟩ := Kd.at_int HR0.out x4_1 p232 q232
        cases e232
        replace hx232_0 := (HB.out.cell (World.block_lt_of_cell? w _ hx232_0)).trans hx232_0
        replace p232 := eq_true p232
        replace q232 := eq_true q232
        have p9 : 0 ≤ (x4_1 : Int) := of_decide_eq_true (by first | (with_reducible assumption) | assumption)
        have q9 : (x4_1 : Int) < ((x3_1.length : Int) : Int) := of_decide_eq_true (by first | (with_reducible assumption) | assumption)
        obtain ⟨go9, co9, eo9, gb9, gl9, cl9, HG9⟩ := Kd.R_form HO_3.out (by omega)
        (first | cases eo9 | (injection eo9 with ea_ en_ ec_; (first | subst ea_ | (injection ea_ with ea_; subst ea_)); subst ec_; clear en_))
        have GB9 := Aside0.mk gb9
        have GG9 := Aside0.mk HG9
        clear gb9 gl9 HG9
        obtain ⟨hx9_0, hf9_0⟩ := Kd.R_celln 0 HO_3.out (x4_1 : Int) p9 q9
        replace p9 := eq_true p9
        replace q9 := eq_true q9
        have HP10 := Kd.R_putg HO_3.out (x4_1 : Int) (rd l0 x4_1)
        go_wp2_with (first | ((with_reducible refine gate_store (t := 5) (p := 20) rfl ?_); refine store_event (t := 5) (p := 20) (v := ?vo_w11) (w1 := (wr.setCell ⟨go9, (x4_1 : Int).toNat, none⟩ (.int .u8 (rd l0 x4_1)))) ?hg ?ho ?hn ?hr ?_; (case ho => rfl); (case hg => rfl); (case hn => rfl); (case hr => first | (go_simp; done) | (go_simp; rfl)); intro w11 hw; have hg : wr.grownBy w11 (some go9) := (by rw [hw]; exact HP10.2); have hp_ : Kd.R (Kd.int .u8) 5 w11 w.heap.size (fun _ => True) (.slice (some ⟨go9, 0, none⟩) x3_1.length co9) y233 := (by rw [hw, Ny233.out]; exact HP10.1); clear HP10; have n0_ := Aside0.mk (hp_); have n1_ := Aside0.mk ((by rw [hw]; exact below_set (HB.out) GB9.out : Below w.heap.size w w11)); clear HO_3; clear HB; have HO_3 := n0_; have HB := n1_; clear n0_ n1_; clear hg hw hp_))
        go_roundg k1
        case measure => have := HK1.out; omega
        case rel => exact ⟨(y233), (wrap64 (x4_1 + 1)), (by first | rfl | (simp; done) | (simp [*]; done)), H', ⟨by have := HK1.out; omega⟩, ⟨by (with_reducible repeat (first | apply Kd.R_alloc | apply Kd.R_drewN | apply Kd.R_drew)); exact HO_3.out⟩, ⟨by repeat (first | (with_reducible first | exact HB.out | apply below_alloc | apply pw_below_drewN | apply below_drew1) | exact HB.out)⟩⟩
       ·
        rw [if_neg c8] at H
        exact absurd H (by simp)
      ·
       rw [if_neg c7] at H
       exact absurd H (by simp)
     ·
      rw [if_neg c6] at H
      have c6b0 : decide (x4_1 < (l0.length : Int)) = false := decide_eq_false c6
      clear c6
      obtain rfl := Option.some.inj H
      go_wp2
      go_ret
      exact ⟨_, by first | rfl | (simp [errW_none, errW_some] <;> rfl) | (simp [*, errW_none, errW_some] <;> rfl), by (with_reducible repeat (first | apply Kd.R_alloc | apply Kd.R_drewN | apply Kd.R_drew)); exact HO_3.out, by repeat (first | (with_reducible first | exact HB.out | apply below_alloc | apply pw_below_drewN | apply below_drew1) | exact HB.out)⟩
  ·
   rw [if_neg c3] at H
   exact absurd H (by simp)
 ·
  rw [if_neg c2] at H
  exact absurd H (by simp)
end
section
attribute [local go_sem] max2_int max_two
set_option linter.unusedVariables false
set_option linter.unusedSimpArgs false
def laws_eqByteS.l0 : Nat → List Int → List Int → Int → Option (Bool)
 | 0, _, _, _ => none
 | k + 1, x0, x1, x5 => if x5 < (x0.length : Int) then (if 0 ≤ x5 then (if x5 < (x1.length : Int) then (if (rd x0 x5) = (rd x1 x5) then (laws_eqByteS.l0 k x0 x1 (wrap64 (x5 + 1))) else (some false)) else (none)) else (none)) else (some true)
def laws_eqByteS.f (k : Nat) (l0 : List Int) (l1 : List Int) : Option (Bool) := if (l0.length : Int) = (l1.length : Int) then (laws_eqByteS.l0 k l0 l1 0) else (some false)
set_option maxHeartbeats 8000000 in
set_option maxRecDepth 100000 in
theorem laws_eqByteS.calls (k : Nat) (A0 : Option Addr) (c0 : Nat) (l0 : List Int) (A1 : Option Addr) (c1 : Nat) (l1 : List Int) (r : Bool) (w : World) (hr0 : Kd.C (Kd.int .u8) w A0 l0.length l0) (hc0 : l0.length ≤ c0) (hr1 : Kd.C (Kd.int .u8) w A1 l1.length l1) (hc1 : l1.length ≤ c1) (h : laws_eqByteS.f k l0 l1 = some r) :
  Calls Tryz.prog 140 #[.slice A0 l0.length c0, .slice A1 l1.length c1] w fun e w' => e = .returned (.bool r) ∧ Drawn0 w w' := by
 have HR0 := Aside0.mk hr0
 have HC0 := Aside0.mk hc0
 clear hr0 hc0
 have HR1 := Aside0.mk hr1
 have HC1 := Aside0.mk hc1
 clear hr1 hc1
 have H : (if (l0.length : Int) = (l1.length : Int) then (laws_eqByteS.l0 k l0 l1 0) else (some false)) = some r := h
 clear h
 by_cases c3 : (l0.length : Int) = (l1.length : Int)
 ·
  rw [if_pos c3] at H
  have c3b0 : ((l0.length : Int) == (l1.length : Int)) = true := beq_iff_eq.mpr c3
  have c3b1 : ((l0.length : Int) != (l1.length : Int)) = false := bne_eq_false_iff_eq.mpr c3
  have c3b2 : (l0.length == l1.length) = true := by first | simpa using c3 | (simp at c3 ⊢; omega)
  clear c3
  have H' := Aside0.mk H
  clear H
  go_enter Tryz.func140, Tryz.ntmps140
  go_wp2
  repeat (go_quiet (fail); try go_wp2)
  go_loopg [5] k (fun kq v5 w' => ∃ (x5_1 : Int), v5 = .int .i64 x5_1 ∧ Aside0 (laws_eqByteS.l0 kq l0 l1 x5_1 = some r) ∧ Aside0 (kq ≤ k) ∧ Drawn0 w w')
  case atStart => exact ⟨(0), (by first | rfl | (simp; done) | (simp [*]; done)), H', ⟨Nat.le_refl _⟩, by repeat (first | exact Drawn0.refl _ | apply Drawn0.step)⟩
  case round =>
   clear H'
   try clear c1
   try clear p2
   try clear c3
   try clear c3b0
   try clear c3b1
   try clear c3b2
   obtain ⟨x5_1, rfl, HA, HK1, ⟨m1, rfl⟩⟩ := hrel
   cases gk with
   | zero => exact absurd HA.out (by simp [laws_eqByteS.l0])
   | succ k1 =>
    have H := HA.out
    clear HA
    simp only [laws_eqByteS.l0] at H
    by_cases c4 : x5_1 < (l0.length : Int)
    ·
     rw [if_pos c4] at H
     have c4b0 : decide (x5_1 < (l0.length : Int)) = true := decide_eq_true c4
     clear c4
     by_cases c5 : 0 ≤ x5_1
     ·
      rw [if_pos c5] at H
      have c5b0 : decide (0 ≤ x5_1) = true := decide_eq_true c5
      clear c5
      by_cases c6 : x5_1 < (l1.length : Int)
      ·
       rw [if_pos c6] at H
       have c6b0 : decide (x5_1 < (l1.length : Int)) = true := decide_eq_true c6
       clear c6
       by_cases c7 : (rd l0 x5_1) = (rd l1 x5_1)
       ·
        rw [if_pos c7] at H
        have c7b0 : ((rd l0 x5_1) == (rd l1 x5_1)) = true := beq_iff_eq.mpr c7
        have c7b1 : ((rd l0 x5_1) != (rd l1 x5_1)) = false := bne_eq_false_iff_eq.mpr c7
        clear c7
        have H' := Aside0.mk H
        clear H
        have p343 : 0 ≤ (x5_1 : Int) := of_decide_eq_true (by first | (with_reducible assumption) | assumption)
        have q343 : x5_1 < (l0.length : Int) := of_decide_eq_true (by first | (with_reducible assumption) | assumption)
        obtain ⟨ad343, e343, hx343_0⟩ := Kd.at_int HR0.out x5_1 p343 q343
        cases e343
        replace p343 := eq_true p343
        replace q343 := eq_true q343
        have p344 : 0 ≤ (x5_1 : Int) := of_decide_eq_true (by first | (with_reducible assumption) | assumption)
        have q344 : x5_1 < (l1.length : Int) := of_decide_eq_true (by first | (with_reducible assumption) | assumption)
        obtain ⟨ad344, e344, hx344_0⟩ := Kd.at_int HR1.out x5_1 p344 q344
        cases e344
        replace p344 := eq_true p344
        replace q344 := eq_true q344
        go_wp2
        repeat (go_quiet (fail); try go_wp2)
        go_roundg k1
        case measure => have := HK1.out; omega
        case rel => exact ⟨(wrap64 (x5_1 + 1)), (by first | rfl | (simp; done) | (simp [*]; done)), H', ⟨by have := HK1.out; omega⟩, by repeat (first | exact Drawn0.refl _ | apply Drawn0.step)⟩
       ·
        rw [if_neg c7] at H
        have c7b0 : ((rd l0 x5_1) == (rd l1 x5_1)) = false := beq_eq_false_iff_ne.mpr c7
        have c7b1 : ((rd l0 x5_1) != (rd l1 x5_1)) = true := bne_iff_ne.mpr c7
        obtain rfl := Option.some.inj H
        have p343 : 0 ≤ (x5_1 : Int) := of_decide_eq_true (by first | (with_reducible assumption) | assumption)
        have q343 : x5_1 < (l0.length : Int) := of_decide_eq_true (by first | (with_reducible assumption) | assumption)
        obtain ⟨ad343, e343, hx343_0⟩ := Kd.at_int HR0.out x5_1 p343 q343
        cases e343
        replace p343 := eq_true p343
        replace q343 := eq_true q343
        have p344 : 0 ≤ (x5_1 : Int) := of_decide_eq_true (by first | (with_reducible assumption) | assumption)
        have q344 : x5_1 < (l1.length : Int) := of_decide_eq_true (by first | (with_reducible assumption) | assumption)
        obtain ⟨ad344, e344, hx344_0⟩ := Kd.at_int HR1.out x5_1 p344 q344
        cases e344
        replace p344 := eq_true p344
        replace q344 := eq_true q344
        go_wp2
        repeat (go_quiet (fail); try go_wp2)
        go_ret
        exact ⟨by first | rfl | (simp; done) | (simp [*]; done), by repeat (first | exact Drawn0.refl _ | apply Drawn0.step)⟩
      ·
       rw [if_neg c6] at H
       exact absurd H (by simp)
     ·
      rw [if_neg c5] at H
      exact absurd H (by simp)
    ·
     rw [if_neg c4] at H
     have c4b0 : decide (x5_1 < (l0.length : Int)) = false := decide_eq_false c4
     clear c4
     obtain rfl := Option.some.inj H
     go_wp2
     repeat (go_quiet (fail); try go_wp2)
     go_ret
     exact ⟨by first | rfl | (simp; done) | (simp [*]; done), by repeat (first | exact Drawn0.refl _ | apply Drawn0.step)⟩
 ·
  rw [if_neg c3] at H
  have c3b0 : ((l0.length : Int) == (l1.length : Int)) = false := beq_eq_false_iff_ne.mpr c3
  have c3b1 : ((l0.length : Int) != (l1.length : Int)) = true := bne_iff_ne.mpr c3
  have c3b2 : (l0.length == l1.length) = false := by first | simpa using c3 | (simp at c3 ⊢; omega)
  obtain rfl := Option.some.inj H
  go_enter Tryz.func140, Tryz.ntmps140
  go_wp2
  repeat (go_quiet (fail); try go_wp2)
  go_ret
  exact ⟨by first | rfl | (simp; done) | (simp [*]; done), by repeat (first | exact Drawn0.refl _ | apply Drawn0.step)⟩
end
section
attribute [local go_sem] max2_int max_two
set_option linter.unusedVariables false
set_option linter.unusedSimpArgs false
def laws_markByteS.l0 : Nat → List Int → Int → Int → Option (Int × List Int)
 | 0, _, _, _ => none
 | k + 1, x0, x1, x5 => if x5 < (x0.length : Int) then (if 0 ≤ x5 then (laws_markByteS.l0 k (x0.set (x5 : Int).toNat ((x1) % 256)) (wrap64 (x1 + 1)) (wrap64 (x5 + 1))) else (none)) else (some (x1, x0))
def laws_markByteS.f (k : Nat) (l0 : List Int) (a1 : Int) : Option (Int × List Int) := laws_markByteS.l0 k l0 a1 0
set_option maxHeartbeats 8000000 in
set_option maxRecDepth 100000 in
theorem laws_markByteS.calls (k : Nat) (P0_ : Nat → Prop) (u9000_ : Value) (l0 : List Int) (a1 : Int) (r1 : Int) (r2 : List Int) (w0 w : World) (hB : Below w0.heap.size w0 w) (ho0 : Kd.R (Kd.int .u8) 5 w w0.heap.size P0_ u9000_ l0) (h : laws_markByteS.f k l0 a1 = some (r1, r2)) :
  Calls Tryz.prog 94 #[u9000_, .int .i64 a1] w fun e w' => e = .returned (.int .i64 r1) ∧ Kd.R (Kd.int .u8) 5 w' w0.heap.size (fun k_ => (P0_ k_ ∨ w.heap.size ≤ k_)) u9000_ r2 ∧ Below w0.heap.size w0 w' ∧ Kept w w' (fun k_ => P0_ k_) := by
 have HO0 := Aside0.mk (show Kd.R (Kd.int .u8) 5 w w0.heap.size (fun k_ => (P0_ k_ ∨ w.heap.size ≤ k_)) u9000_ l0 from Kd.R_mono ho0 (fun k_ hk => (.inl hk)))
 have HK := Aside0.mk (Kept.refl w (fun k_ => P0_ k_))
 have HW0 := Aside0.mk hB.size
 have HB := Aside0.mk hB
 clear hB
 have H : (laws_markByteS.l0 k l0 a1 0) = some (r1, r2) := h
 clear h
 have H' := Aside0.mk H
 clear H
 go_enter Tryz.func94, Tryz.ntmps94
 go_wp2
 go_loopg [1, 5] k (fun kq v1 v5 w' => ∃ (x0_1 : List Int) (x1_1 : Int) (x5_1 : Int), v1 = .int .i64 x1_1 ∧ v5 = .int .i64 x5_1 ∧ Aside0 (laws_markByteS.l0 kq x0_1 x1_1 x5_1 = some (r1, r2)) ∧ Aside0 (kq ≤ k) ∧ Aside0 (Kd.R (Kd.int .u8) 5 w' w0.heap.size (fun k_ => (P0_ k_ ∨ w.heap.size ≤ k_)) u9000_ x0_1) ∧ Aside0 (Kept w w' (fun k_ => P0_ k_)) ∧ Aside0 (Below w0.heap.size w0 w'))
 case atStart => exact ⟨(l0), (a1), (0), (by first | rfl | (simp; done) | (simp [*]; done)), (by first | rfl | (simp; done) | (simp [*]; done)), H', ⟨Nat.le_refl _⟩, ⟨by (with_reducible repeat (first | apply Kd.R_alloc | apply Kd.R_drewN | apply Kd.R_drew)); exact HO0.out⟩, ⟨by repeat (first | (with_reducible first | exact HK.out | apply Kept.alloc | apply Kept.drewN | apply Kept.drew) | exact HK.out)⟩, ⟨by repeat (first | (with_reducible first | exact HB.out | apply below_alloc | apply pw_below_drewN | apply below_drew1) | exact HB.out)⟩⟩
 case round =>
  clear H'
  try clear p2
  obtain ⟨x0_1, x1_1, x5_1, rfl, rfl, HA, HK1, HO_0, HK, HB⟩ := hrel
  cases gk with
  | zero => exact absurd HA.out (by simp [laws_markByteS.l0])
  | succ k1 =>
   have H := HA.out
   clear HA
   simp only [laws_markByteS.l0] at H
   by_cases c3 : x5_1 < (x0_1.length : Int)
   ·
    rw [if_pos c3] at H
    have c3b0 : decide (x5_1 < (x0_1.length : Int)) = true := decide_eq_true c3
    clear c3
    by_cases c4 : 0 ≤ x5_1
    ·
     rw [if_pos c4] at H
     have c4b0 : decide (0 ≤ x5_1) = true := decide_eq_true c4
     clear c4
     obtain ⟨y372, hy372⟩ : ∃ y_ : List Int, y_ = (x0_1.set (x5_1 : Int).toNat ((x1_1) % 256)) := ⟨_, rfl⟩
     replace H : (laws_markByteS.l0 k1 y372 (wrap64 (x1_1 + 1)) (wrap64 (x5_1 + 1))) = some (r1, r2) := by first | (rw [hy372]; with_reducible exact H) | (have H2_ := (Option.bind_some _ _).symm.trans H; rw [hy372]; with_reducible exact H2_) | (have H2_ := (Option.bind_some _ _).symm.trans H; with_reducible exact H2_) | with_reducible exact H | (rw [hy372]; exact H) | exact H
     have Ny372 := Aside0.mk hy372
     clear hy372
     have H' := Aside0.mk H
     clear H
     obtain ⟨Ao6, co6, eo6⟩ := Kd.R_slice HO_0.out
     subst eo6
     have p5 : 0 ≤ (x5_1 : Int) := of_decide_eq_true (by first | (with_reducible assumption) | assumption)
     have q5 : (x5_1 : Int) < ((x0_1.length : Int) : Int) := of_decide_eq_true (by first | (with_reducible assumption) | assumption)
     obtain ⟨go5, co5, eo5, gb5, gl5, cl5, HG5⟩ := Kd.R_form HO_0.out (by omega)
     (first | cases eo5 | (injection eo5 with ea_ en_ ec_; (first | subst ea_ | (injection ea_ with ea_; subst ea_)); subst ec_; clear en_))
     have GB5 := Aside0.mk gb5
     have GG5 := Aside0.mk HG5
     clear gb5 gl5 HG5
     have HMgo5 := Aside0.mk (show (P0_ go5 ∨ w.heap.size ≤ go5) from (HO_0.out.1 _ rfl))
     obtain ⟨hx5_0, hf5_0⟩ := Kd.R_celln 0 HO_0.out (x5_1 : Int) p5 q5
     replace p5 := eq_true p5
     replace q5 := eq_true q5
     have HP7 := Kd.R_putg HO_0.out (x5_1 : Int) ((x1_1) % 256)
     go_wp2_with (first | ((with_reducible refine gate_store (t := 5) (p := 16) rfl ?_); refine store_event (t := 5) (p := 16) (v := ?vo_w8) (w1 := (wr.setCell ⟨go5, (x5_1 : Int).toNat, none⟩ (.int .u8 ((x1_1) % 256)))) ?hg ?ho ?hn ?hr ?_; (case ho => rfl); (case hg => rfl); (case hn => rfl); (case hr => first | (go_simp; done) | (go_simp; rfl)); intro w8 hw; have hg : wr.grownBy w8 (some go5) := (by rw [hw]; exact HP7.2); have hp_ : Kd.R (Kd.int .u8) 5 w8 w0.heap.size (fun k_ => (P0_ k_ ∨ w.heap.size ≤ k_)) (.slice (some ⟨go5, 0, none⟩) x0_1.length co6) y372 := (by rw [hw, Ny372.out]; exact HP7.1); clear HP7; have n0_ := Aside0.mk (hp_); have n1_ := Aside0.mk ((by rw [hw]; exact below_set (HB.out) GB5.out : Below w0.heap.size w0 w8)); have n2_ := Aside0.mk (Kept.of_grown (S := (fun k_ => P0_ k_)) hg (by repeat (first | (with_reducible first | exact HK.out | apply Kept.alloc | apply Kept.drewN | apply Kept.drew) | exact HK.out)) (fun k_ e_ => (HO_0.out.1 k_ e_))); clear HO_0; clear HB; clear HK; have HO_0 := n0_; have HB := n1_; have HK := n2_; clear n0_ n1_ n2_; clear hg hw hp_))
     go_roundg k1
     case measure => have := HK1.out; omega
     case rel => exact ⟨(y372), (wrap64 (x1_1 + 1)), (wrap64 (x5_1 + 1)), (by first | rfl | (simp; done) | (simp [*]; done)), (by first | rfl | (simp; done) | (simp [*]; done)), H', ⟨by have := HK1.out; omega⟩, ⟨by (with_reducible repeat (first | apply Kd.R_alloc | apply Kd.R_drewN | apply Kd.R_drew)); exact HO_0.out⟩, ⟨by repeat (first | (with_reducible first | exact HK.out | apply Kept.alloc | apply Kept.drewN | apply Kept.drew) | exact HK.out)⟩, ⟨by repeat (first | (with_reducible first | exact HB.out | apply below_alloc | apply pw_below_drewN | apply below_drew1) | exact HB.out)⟩⟩
    ·
     rw [if_neg c4] at H
     exact absurd H (by simp)
   ·
    rw [if_neg c3] at H
    have c3b0 : decide (x5_1 < (x0_1.length : Int)) = false := decide_eq_false c3
    clear c3
    simp only [Option.some.injEq, Prod.mk.injEq] at H
    obtain ⟨rfl, rfl⟩ := H
    obtain ⟨Ao9, co9, eo9⟩ := Kd.R_slice HO_0.out
    subst eo9
    go_wp2
    go_ret
    exact ⟨by first | rfl | (simp [errW_none, errW_some] <;> rfl) | (simp [*, errW_none, errW_some] <;> rfl), by (with_reducible repeat (first | apply Kd.R_alloc | apply Kd.R_drewN | apply Kd.R_drew)); exact HO_0.out, by repeat (first | (with_reducible first | exact HB.out | apply below_alloc | apply pw_below_drewN | apply below_drew1) | exact HB.out), by repeat (first | (with_reducible first | exact HK.out | apply Kept.alloc | apply Kept.drewN | apply Kept.drew) | exact HK.out)⟩
end
section
attribute [local go_sem] max2_int max_two
set_option linter.unusedVariables false
set_option linter.unusedSimpArgs false
def laws_heldByteS.l0 : Nat → List Int → Int → Int → Option (Int)
 | 0, _, _, _ => none
 | k + 1, x0, x1, x5 => if x5 < (x0.length : Int) then (if 0 ≤ x5 then (if (rd x0 x5) = ((x1) % 256) then (laws_heldByteS.l0 k x0 (wrap64 (x1 + 1)) (wrap64 (x5 + 1))) else (some (-1))) else (none)) else (some x1)
def laws_heldByteS.f (k : Nat) (l0 : List Int) (a1 : Int) : Option (Int) := laws_heldByteS.l0 k l0 a1 0
set_option maxHeartbeats 8000000 in
set_option maxRecDepth 100000 in
theorem laws_heldByteS.calls (k : Nat) (A0 : Option Addr) (c0 : Nat) (l0 : List Int) (a1 : Int) (r : Int) (w : World) (hr0 : Kd.C (Kd.int .u8) w A0 l0.length l0) (hc0 : l0.length ≤ c0) (h : laws_heldByteS.f k l0 a1 = some r) :
  Calls Tryz.prog 97 #[.slice A0 l0.length c0, .int .i64 a1] w fun e w' => e = .returned (.int .i64 r) ∧ Drawn0 w w' := by
 have HR0 := Aside0.mk hr0
 have HC0 := Aside0.mk hc0
 clear hr0 hc0
 have H : (laws_heldByteS.l0 k l0 a1 0) = some r := h
 clear h
 have H' := Aside0.mk H
 clear H
 go_enter Tryz.func97, Tryz.ntmps97
 go_wp2
 go_loopg [1, 5] k (fun kq v1 v5 w' => ∃ (x1_1 : Int) (x5_1 : Int), v1 = .int .i64 x1_1 ∧ v5 = .int .i64 x5_1 ∧ Aside0 (laws_heldByteS.l0 kq l0 x1_1 x5_1 = some r) ∧ Aside0 (kq ≤ k) ∧ Drawn0 w w')
 case atStart => exact ⟨(a1), (0), (by first | rfl | (simp; done) | (simp [*]; done)), (by first | rfl | (simp; done) | (simp [*]; done)), H', ⟨Nat.le_refl _⟩, by repeat (first | exact Drawn0.refl _ | apply Drawn0.step)⟩
 case round =>
  clear H'
  try clear p2
  obtain ⟨x1_1, x5_1, rfl, rfl, HA, HK1, ⟨m1, rfl⟩⟩ := hrel
  cases gk with
  | zero => exact absurd HA.out (by simp [laws_heldByteS.l0])
  | succ k1 =>
   have H := HA.out
   clear HA
   simp only [laws_heldByteS.l0] at H
   by_cases c3 : x5_1 < (l0.length : Int)
   ·
    rw [if_pos c3] at H
    have c3b0 : decide (x5_1 < (l0.length : Int)) = true := decide_eq_true c3
    clear c3
    by_cases c4 : 0 ≤ x5_1
    ·
     rw [if_pos c4] at H
     have c4b0 : decide (0 ≤ x5_1) = true := decide_eq_true c4
     clear c4
     by_cases c5 : (rd l0 x5_1) = ((x1_1) % 256)
     ·
      rw [if_pos c5] at H
      have c5b0 : ((rd l0 x5_1) == ((x1_1) % 256)) = true := beq_iff_eq.mpr c5
      have c5b1 : ((rd l0 x5_1) != ((x1_1) % 256)) = false := bne_eq_false_iff_eq.mpr c5
      clear c5
      have H' := Aside0.mk H
      clear H
      have p376 : 0 ≤ (x5_1 : Int) := of_decide_eq_true (by first | (with_reducible assumption) | assumption)
      have q376 : x5_1 < (l0.length : Int) := of_decide_eq_true (by first | (with_reducible assumption) | assumption)
      obtain ⟨ad376, e376, hx376_0⟩ := Kd.at_int HR0.out x5_1 p376 q376
      cases e376
      replace p376 := eq_true p376
      replace q376 := eq_true q376
      go_wp2
      go_roundg k1
      case measure => have := HK1.out; omega
      case rel => exact ⟨(wrap64 (x1_1 + 1)), (wrap64 (x5_1 + 1)), (by first | rfl | (simp; done) | (simp [*]; done)), (by first | rfl | (simp; done) | (simp [*]; done)), H', ⟨by have := HK1.out; omega⟩, by repeat (first | exact Drawn0.refl _ | apply Drawn0.step)⟩
     ·
      rw [if_neg c5] at H
      have c5b0 : ((rd l0 x5_1) == ((x1_1) % 256)) = false := beq_eq_false_iff_ne.mpr c5
      have c5b1 : ((rd l0 x5_1) != ((x1_1) % 256)) = true := bne_iff_ne.mpr c5
      obtain rfl := Option.some.inj H
      have p376 : 0 ≤ (x5_1 : Int) := of_decide_eq_true (by first | (with_reducible assumption) | assumption)
      have q376 : x5_1 < (l0.length : Int) := of_decide_eq_true (by first | (with_reducible assumption) | assumption)
      obtain ⟨ad376, e376, hx376_0⟩ := Kd.at_int HR0.out x5_1 p376 q376
      cases e376
      replace p376 := eq_true p376
      replace q376 := eq_true q376
      go_wp2
      go_ret
      exact ⟨by first | rfl | (simp; done) | (simp [*]; done), by repeat (first | exact Drawn0.refl _ | apply Drawn0.step)⟩
    ·
     rw [if_neg c4] at H
     exact absurd H (by simp)
   ·
    rw [if_neg c3] at H
    have c3b0 : decide (x5_1 < (l0.length : Int)) = false := decide_eq_false c3
    clear c3
    obtain rfl := Option.some.inj H
    go_wp2
    go_ret
    exact ⟨by first | rfl | (simp; done) | (simp [*]; done), by repeat (first | exact Drawn0.refl _ | apply Drawn0.step)⟩
end
section
attribute [local go_sem] max2_int max_two
set_option linter.unusedVariables false
set_option linter.unusedSimpArgs false
def laws_szByteS.f (l0 : List Int) (a1 : Int) : Option (Int) := if (wrap64 (a1 - (l0.length : Int))) < 0 then (some (-1)) else (some (wrap64 (a1 - (l0.length : Int))))
set_option maxHeartbeats 8000000 in
set_option maxRecDepth 100000 in
theorem laws_szByteS.calls (A0 : Option Addr) (c0 : Nat) (l0 : List Int) (a1 : Int) (r : Int) (w : World) (hr0 : Kd.C (Kd.int .u8) w A0 l0.length l0) (hc0 : l0.length ≤ c0) (h : laws_szByteS.f l0 a1 = some r) :
  Calls Tryz.prog 127 #[.slice A0 l0.length c0, .int .i64 a1] w fun e w' => e = .returned (.int .i64 r) ∧ Drawn0 w w' := by
 have HR0 := Aside0.mk hr0
 have HC0 := Aside0.mk hc0
 clear hr0 hc0
 have H : (if (wrap64 (a1 - (l0.length : Int))) < 0 then (some (-1)) else (some (wrap64 (a1 - (l0.length : Int))))) = some r := h
 clear h
 by_cases c3 : (wrap64 (a1 - (l0.length : Int))) < 0
 ·
  rw [if_pos c3] at H
  have c3b0 : decide ((wrap64 (a1 - (l0.length : Int))) < 0) = true := decide_eq_true c3
  clear c3
  obtain rfl := Option.some.inj H
  go_enter Tryz.func127, Tryz.ntmps127
  go_wp2
  go_ret
  exact ⟨by first | rfl | (simp; done) | (simp [*]; done), by repeat (first | exact Drawn0.refl _ | apply Drawn0.step)⟩
 ·
  rw [if_neg c3] at H
  have c3b0 : decide ((wrap64 (a1 - (l0.length : Int))) < 0) = false := decide_eq_false c3
  clear c3
  obtain rfl := Option.some.inj H
  go_enter Tryz.func127, Tryz.ntmps127
  go_wp2
  go_ret
  exact ⟨by first | rfl | (simp; done) | (simp [*]; done), by repeat (first | exact Drawn0.refl _ | apply Drawn0.step)⟩
end
theorem wrap_up (i : Nat) (h : i ≤ 140737488355328) : wrap64 ((i : Int) + 1) = ((i + 1 : Nat) : Int) := by
 unfold wrap64; omega
theorem rd_nat (l : List Int) (i : Nat) : rd l (i : Int) = l.getD i 0 := by
 unfold rd; rw [Int.toNat_natCast]
theorem getD_at (l : List Int) (i : Nat) (h : i < l.length) : l.getD i 0 = l[i] := by
 rw [List.getD_eq_getElem?_getD, List.getElem?_eq_getElem h]; rfl
theorem toByteS_loop (l : List Int) (hl : l.length ≤ 140737488351232) (d : Nat) : ∀ (k i : Nat) (x : List Int), x.length = l.length → i + d = l.length → d < k →
  (∀ j, j < i → x[j]? = l[j]?) → laws_toByteS.l0 k l x (i : Int) = some l := by
 induction d with
 | zero =>
  intro k i x hx hi hk hj
  obtain ⟨k, rfl⟩ : ∃ m, k = m + 1 := ⟨k - 1, by omega⟩
  simp only [laws_toByteS.l0]
  rw [if_neg (by omega)]
  congr 1
  apply List.ext_getElem?
  intro j
  rcases Nat.lt_or_ge j i with h | h
  ·
   exact hj j h
  ·
   rw [List.getElem?_eq_none (by omega), List.getElem?_eq_none (by omega)]
 | succ d ih =>
  intro k i x hx hi hk hj
  obtain ⟨k, rfl⟩ : ∃ m, k = m + 1 := ⟨k - 1, by omega⟩
  simp only [laws_toByteS.l0]
  rw [if_pos (by omega), if_pos (by omega), if_pos (by omega), wrap_up i (by omega)]
  refine ih k (i + 1) _ (by rw [List.length_set]; exact hx) (by omega) (by omega) ?_
  intro j h
  rw [Int.toNat_natCast, List.getElem?_set]
  by_cases e : i = j
  ·
   subst e
   rw [if_pos rfl, if_pos (by omega), rd_nat, List.getD_eq_getElem?_getD, List.getElem?_eq_getElem (by omega)]
   rfl
  ·
   rw [if_neg e]
   exact hj j (by omega)
theorem toByteS_f (l : List Int) (hl : l.length ≤ 140737488351232) (k : Nat) (hk : l.length < k) : laws_toByteS.f k l = some l := by
 unfold laws_toByteS.f
 rw [if_pos (by omega), if_pos (by omega)]
 exact toByteS_loop l hl l.length k 0 _ (by rw [List.length_replicate]; omega) (by omega) hk (fun j h => absurd h (by omega))
theorem eqByteS_loop (l : List Int) (hl : l.length ≤ 140737488351232) (d : Nat) : ∀ (k i : Nat), i + d = l.length → d < k → laws_eqByteS.l0 k l l (i : Int) = some true := by
 induction d with
 | zero =>
  intro k i hi hk
  obtain ⟨k, rfl⟩ : ∃ m, k = m + 1 := ⟨k - 1, by omega⟩
  simp only [laws_eqByteS.l0]
  rw [if_neg (by omega)]
 | succ d ih =>
  intro k i hi hk
  obtain ⟨k, rfl⟩ : ∃ m, k = m + 1 := ⟨k - 1, by omega⟩
  simp only [laws_eqByteS.l0]
  rw [if_pos (by omega), if_pos (by omega), if_pos (by omega), if_pos trivial, wrap_up i (by omega)]
  exact ih k (i + 1) (by omega) (by omega)
theorem eqByteS_self (l : List Int) (hl : l.length ≤ 140737488351232) (k : Nat) (hk : l.length < k) : laws_eqByteS.f k l l = some true := by
 unfold laws_eqByteS.f
 rw [if_pos rfl]
 exact eqByteS_loop l hl l.length k 0 (by omega) hk
def marksB (n : Nat) (m : Nat) : List Int := (List.range n).map fun i => ((m + i : Nat) : Int) % 256
theorem marksB_length (n m : Nat) : (marksB n m).length = n := by simp [marksB]
theorem marksB_at (n m i : Nat) (h : i < n) : (marksB n m)[i]? = some (((m + i : Nat) : Int) % 256) := by simp [marksB, h]
theorem markByteS_loop (n m : Nat) (hm : m + n ≤ 140737488351232) (d : Nat) : ∀ (k i : Nat) (x : List Int), x.length = n → i + d = n → d < k → (∀ j, j < i → x[j]? = (marksB n m)[j]?) →
  laws_markByteS.l0 k x ((m + i : Nat) : Int) (i : Int) = some (((m + n : Nat) : Int), marksB n m) := by
 induction d with
 | zero =>
  intro k i x hx hi hk hj
  obtain ⟨k, rfl⟩ : ∃ m, k = m + 1 := ⟨k - 1, by omega⟩
  simp only [laws_markByteS.l0]
  rw [if_neg (by omega)]
  have e : x = marksB n m := by
   apply List.ext_getElem?
   intro j
   rcases Nat.lt_or_ge j i with h | h
   ·
    exact hj j h
   ·
    rw [List.getElem?_eq_none (by omega), List.getElem?_eq_none (by rw [marksB_length]; omega)]
  rw [e, show i = n by omega]
 | succ d ih =>
  intro k i x hx hi hk hj
  obtain ⟨k, rfl⟩ : ∃ m, k = m + 1 := ⟨k - 1, by omega⟩
  simp only [laws_markByteS.l0]
  rw [if_pos (by omega), if_pos (by omega), wrap_up i (by omega), wrap_up (m + i) (by omega)]
  refine ih k (i + 1) _ (by rw [List.length_set]; exact hx) (by omega) (by omega) ?_
  intro j h
  rw [Int.toNat_natCast, List.getElem?_set]
  by_cases e : i = j
  ·
   subst e
   rw [if_pos rfl, if_pos (by omega), marksB_at n m i (by omega)]
  ·
   rw [if_neg e]
   exact hj j (by omega)
theorem markByteS_f (l : List Int) (m : Nat) (hm : m + l.length ≤ 140737488351232) (k : Nat) (hk : l.length < k) : laws_markByteS.f k l (m : Int) = some (((m + l.length : Nat) : Int), marksB l.length m) := by
 unfold laws_markByteS.f
 exact markByteS_loop l.length m hm l.length k 0 l rfl (by omega) hk (fun j h => absurd h (by omega))
theorem heldByteS_loop (n m : Nat) (hm : m + n ≤ 140737488351232) (d : Nat) : ∀ (k i : Nat), i + d = n → d < k → laws_heldByteS.l0 k (marksB n m) ((m + i : Nat) : Int) (i : Int) = some (((m + n : Nat) : Int)) := by
 induction d with
 | zero =>
  intro k i hi hk
  obtain ⟨k, rfl⟩ : ∃ m, k = m + 1 := ⟨k - 1, by omega⟩
  simp only [laws_heldByteS.l0]
  rw [if_neg (by rw [marksB_length]; omega), show i = n by omega]
 | succ d ih =>
  intro k i hi hk
  obtain ⟨k, rfl⟩ : ∃ m, k = m + 1 := ⟨k - 1, by omega⟩
  simp only [laws_heldByteS.l0]
  have hr : rd (marksB n m) (i : Int) = ((m + i : Nat) : Int) % 256 := by
   rw [rd_nat, List.getD_eq_getElem?_getD, marksB_at n m i (by omega)]; rfl
  rw [if_pos (by rw [marksB_length]; omega), if_pos (by omega), if_pos hr, wrap_up i (by omega), wrap_up (m + i) (by omega)]
  exact ih k (i + 1) (by omega) (by omega)
theorem heldByteS_f (n m : Nat) (hm : m + n ≤ 140737488351232) (k : Nat) (hk : n < k) : laws_heldByteS.f k (marksB n m) (m : Int) = some (((m + n : Nat) : Int)) := by
 unfold laws_heldByteS.f
 exact heldByteS_loop n m hm n k 0 (by omega) hk
section
attribute [local go_sem] max2_int max_two
set_option linter.unusedVariables false
set_option linter.unusedSimpArgs false
def laws_eqUint64S.l0 : Nat → List Int → List Int → Int → Option (Bool)
 | 0, _, _, _ => none
 | k + 1, x0, x1, x5 => if x5 < (x0.length : Int) then (if 0 ≤ x5 then (if x5 < (x1.length : Int) then (if (rd x0 x5) = (rd x1 x5) then (laws_eqUint64S.l0 k x0 x1 (wrap64 (x5 + 1))) else (some false)) else (none)) else (none)) else (some true)
def laws_eqUint64S.f (k : Nat) (l0 : List Int) (l1 : List Int) : Option (Bool) := if (l0.length : Int) = (l1.length : Int) then (laws_eqUint64S.l0 k l0 l1 0) else (some false)
set_option maxHeartbeats 8000000 in
set_option maxRecDepth 100000 in
theorem laws_eqUint64S.calls (k : Nat) (A0 : Option Addr) (c0 : Nat) (l0 : List Int) (A1 : Option Addr) (c1 : Nat) (l1 : List Int) (r : Bool) (w : World) (hr0 : Kd.C (Kd.int .u64) w A0 l0.length l0) (hc0 : l0.length ≤ c0) (hr1 : Kd.C (Kd.int .u64) w A1 l1.length l1) (hc1 : l1.length ≤ c1) (h : laws_eqUint64S.f k l0 l1 = some r) :
  Calls Tryz.prog 141 #[.slice A0 l0.length c0, .slice A1 l1.length c1] w fun e w' => e = .returned (.bool r) ∧ Drawn0 w w' := by
 have HR0 := Aside0.mk hr0
 have HC0 := Aside0.mk hc0
 clear hr0 hc0
 have HR1 := Aside0.mk hr1
 have HC1 := Aside0.mk hc1
 clear hr1 hc1
 have H : (if (l0.length : Int) = (l1.length : Int) then (laws_eqUint64S.l0 k l0 l1 0) else (some false)) = some r := h
 clear h
 by_cases c3 : (l0.length : Int) = (l1.length : Int)
 ·
  rw [if_pos c3] at H
  have c3b0 : ((l0.length : Int) == (l1.length : Int)) = true := beq_iff_eq.mpr c3
  have c3b1 : ((l0.length : Int) != (l1.length : Int)) = false := bne_eq_false_iff_eq.mpr c3
  have c3b2 : (l0.length == l1.length) = true := by first | simpa using c3 | (simp at c3 ⊢; omega)
  clear c3
  have H' := Aside0.mk H
  clear H
  go_enter Tryz.func141, Tryz.ntmps141
  go_wp2
  repeat (go_quiet (fail); try go_wp2)
  go_loopg [5] k (fun kq v5 w' => ∃ (x5_1 : Int), v5 = .int .i64 x5_1 ∧ Aside0 (laws_eqUint64S.l0 kq l0 l1 x5_1 = some r) ∧ Aside0 (kq ≤ k) ∧ Drawn0 w w')
  case atStart => exact ⟨(0), (by first | rfl | (simp; done) | (simp [*]; done)), H', ⟨Nat.le_refl _⟩, by repeat (first | exact Drawn0.refl _ | apply Drawn0.step)⟩
  case round =>
   clear H'
   try clear c1
   try clear p2
   try clear c3
   try clear c3b0
   try clear c3b1
   try clear c3b2
   obtain ⟨x5_1, rfl, HA, HK1, ⟨m1, rfl⟩⟩ := hrel
   cases gk with
   | zero => exact absurd HA.out (by simp [laws_eqUint64S.l0])
   | succ k1 =>
    have H := HA.out
    clear HA
    simp only [laws_eqUint64S.l0] at H
    by_cases c4 : x5_1 < (l0.length : Int)
    ·
     rw [if_pos c4] at H
     have c4b0 : decide (x5_1 < (l0.length : Int)) = true := decide_eq_true c4
     clear c4
     by_cases c5 : 0 ≤ x5_1
     ·
      rw [if_pos c5] at H
      have c5b0 : decide (0 ≤ x5_1) = true := decide_eq_true c5
      clear c5
      by_cases c6 : x5_1 < (l1.length : Int)
      ·
       rw [if_pos c6] at H
       have c6b0 : decide (x5_1 < (l1.length : Int)) = true := decide_eq_true c6
       clear c6
       by_cases c7 : (rd l0 x5_1) = (rd l1 x5_1)
       ·
        rw [if_pos c7] at H
        have c7b0 : ((rd l0 x5_1) == (rd l1 x5_1)) = true := beq_iff_eq.mpr c7
        have c7b1 : ((rd l0 x5_1) != (rd l1 x5_1)) = false := bne_eq_false_iff_eq.mpr c7
        clear c7
        have H' := Aside0.mk H
        clear H
        have p357 : 0 ≤ (x5_1 : Int) := of_decide_eq_true (by first | (with_reducible assumption) | assumption)
        have q357 : x5_1 < (l0.length : Int) := of_decide_eq_true (by first | (with_reducible assumption) | assumption)
        obtain ⟨ad357, e357, hx357_0⟩ := Kd.at_int HR0.out x5_1 p357 q357
        cases e357
        replace p357 := eq_true p357
        replace q357 := eq_true q357
        have p358 : 0 ≤ (x5_1 : Int) := of_decide_eq_true (by first | (with_reducible assumption) | assumption)
        have q358 : x5_1 < (l1.length : Int) := of_decide_eq_true (by first | (with_reducible assumption) | assumption)
        obtain ⟨ad358, e358, hx358_0⟩ := Kd.at_int HR1.out x5_1 p358 q358
        cases e358
        replace p358 := eq_true p358
        replace q358 := eq_true q358
        go_wp2
        repeat (go_quiet (fail); try go_wp2)
        go_roundg k1
        case measure => have := HK1.out; omega
        case rel => exact ⟨(wrap64 (x5_1 + 1)), (by first | rfl | (simp; done) | (simp [*]; done)), H', ⟨by have := HK1.out; omega⟩, by repeat (first | exact Drawn0.refl _ | apply Drawn0.step)⟩
       ·
        rw [if_neg c7] at H
        have c7b0 : ((rd l0 x5_1) == (rd l1 x5_1)) = false := beq_eq_false_iff_ne.mpr c7
        have c7b1 : ((rd l0 x5_1) != (rd l1 x5_1)) = true := bne_iff_ne.mpr c7
        obtain rfl := Option.some.inj H
        have p357 : 0 ≤ (x5_1 : Int) := of_decide_eq_true (by first | (with_reducible assumption) | assumption)
        have q357 : x5_1 < (l0.length : Int) := of_decide_eq_true (by first | (with_reducible assumption) | assumption)
        obtain ⟨ad357, e357, hx357_0⟩ := Kd.at_int HR0.out x5_1 p357 q357
        cases e357
        replace p357 := eq_true p357
        replace q357 := eq_true q357
        have p358 : 0 ≤ (x5_1 : Int) := of_decide_eq_true (by first | (with_reducible assumption) | assumption)
        have q358 : x5_1 < (l1.length : Int) := of_decide_eq_true (by first | (with_reducible assumption) | assumption)
        obtain ⟨ad358, e358, hx358_0⟩ := Kd.at_int HR1.out x5_1 p358 q358
        cases e358
        replace p358 := eq_true p358
        replace q358 := eq_true q358
        go_wp2
        repeat (go_quiet (fail); try go_wp2)
        go_ret
        exact ⟨by first | rfl | (simp; done) | (simp [*]; done), by repeat (first | exact Drawn0.refl _ | apply Drawn0.step)⟩
      ·
       rw [if_neg c6] at H
       exact absurd H (by simp)
     ·
      rw [if_neg c5] at H
      exact absurd H (by simp)
    ·
     rw [if_neg c4] at H
     have c4b0 : decide (x5_1 < (l0.length : Int)) = false := decide_eq_false c4
     clear c4
     obtain rfl := Option.some.inj H
     go_wp2
     repeat (go_quiet (fail); try go_wp2)
     go_ret
     exact ⟨by first | rfl | (simp; done) | (simp [*]; done), by repeat (first | exact Drawn0.refl _ | apply Drawn0.step)⟩
 ·
  rw [if_neg c3] at H
  have c3b0 : ((l0.length : Int) == (l1.length : Int)) = false := beq_eq_false_iff_ne.mpr c3
  have c3b1 : ((l0.length : Int) != (l1.length : Int)) = true := bne_iff_ne.mpr c3
  have c3b2 : (l0.length == l1.length) = false := by first | simpa using c3 | (simp at c3 ⊢; omega)
  obtain rfl := Option.some.inj H
  go_enter Tryz.func141, Tryz.ntmps141
  go_wp2
  repeat (go_quiet (fail); try go_wp2)
  go_ret
  exact ⟨by first | rfl | (simp; done) | (simp [*]; done), by repeat (first | exact Drawn0.refl _ | apply Drawn0.step)⟩
end
theorem cells2 {w : World} {g t : Nat} {v0 v1 : Value} (h : w.heap[g]? = some (.cells #[v0, v1] t (0, 0))) : w.cell? ⟨g, 0, none⟩ = some v0 ∧ w.cell? ⟨g, 1, none⟩ = some v1 := ⟨(blk_cell h 0).trans rfl, (blk_cell h 1).trans rfl⟩
theorem eqU_loop (l : List Int) (hl : l.length ≤ 2097152) : ∀ (d k i : Nat), i + d = l.length → d < k → laws_eqUint64S.l0 k l l (i : Int) = some true := by
 intro d
 induction d with
 | zero =>
  intro k i hi hk
  obtain ⟨k, rfl⟩ : ∃ m, k = m + 1 := ⟨k - 1, by omega⟩
  rw [laws_eqUint64S.l0, if_neg (by omega)]
 | succ d ih =>
  intro k i hi hk
  obtain ⟨k, rfl⟩ : ∃ m, k = m + 1 := ⟨k - 1, by omega⟩
  rw [laws_eqUint64S.l0, if_pos (by omega), if_pos (by omega), if_pos (by omega), if_pos rfl, wrap_up i (by omega)]
  exact ih k (i + 1) (by omega) (by omega)
theorem eqU_self (l : List Int) (hl : l.length ≤ 2097152) (k : Nat) (hk : 2097152 < k) : laws_eqUint64S.f k l l = some true := by
 unfold laws_eqUint64S.f
 rw [if_pos rfl]
 exact eqU_loop l hl l.length k 0 (by omega) (by omega)
theorem eqByteS_same (A : Option Addr) (c : Nat) (B : Option Addr) (d : Nat) (l : List Int) (w : World) (h1 : Kd.C (Kd.int .u8) w A l.length l) (k1 : l.length ≤ c) (h2 : Kd.C (Kd.int .u8) w B l.length l) (k2 : l.length ≤ d) (hl : l.length ≤ 2097152) :
  Calls Tryz.prog 140 #[.slice A l.length c, .slice B l.length d] w fun r w' => r = .returned (.bool true) ∧ Below w.heap.size w w' := by
 refine (laws_eqByteS.calls 3000000 A c l B d l true w h1 k1 h2 k2 (eqByteS_self l (by omega) 3000000 (by omega))).mono ?_
 rintro e w' ⟨rfl, hb⟩
 exact ⟨rfl, hb.below⟩
theorem eqUint64S_same (A : Option Addr) (c : Nat) (B : Option Addr) (d : Nat) (l : List Int) (w : World) (h1 : Kd.C (Kd.int .u64) w A l.length l) (k1 : l.length ≤ c) (h2 : Kd.C (Kd.int .u64) w B l.length l) (k2 : l.length ≤ d) (hl : l.length ≤ 2097152) :
  Calls Tryz.prog 141 #[.slice A l.length c, .slice B l.length d] w fun r w' => r = .returned (.bool true) ∧ Below w.heap.size w w' := by
 refine (laws_eqUint64S.calls 3000000 A c l B d l true w h1 k1 h2 k2 (eqU_self l hl 3000000 (by omega))).mono ?_
 rintro e w' ⟨rfl, hb⟩
 exact ⟨rfl, hb.below⟩
set_option maxHeartbeats 4000000 in
set_option maxRecDepth 100000 in
theorem eqEvent_same (l0 : Int) (l1 : List Int) (A1 : Option Addr) (a1 : Nat) (B1 : Option Addr) (b1 : Nat) (w : World) (h1 : Kd.C (Kd.int .u8) w A1 l1.length l1) (k1 : l1.length ≤ a1) (g1 : Kd.C (Kd.int .u8) w B1 l1.length l1) (j1 : l1.length ≤ b1) (z1 : l1.length ≤ 2097152) :
  Calls Tryz.prog 162 #[.agg #[.int .i64 l0, .slice A1 l1.length a1], .agg #[.int .i64 l0, .slice B1 l1.length b1]] w fun r w' => r = .returned (.bool true) ∧ Below w.heap.size w w' := by
 have K1 := Aside0.mk (fun (W : World) (hW : Below w.heap.size w W) => eqByteS_same A1 a1 B1 b1 l1 W (Kd.C_below h1 hW) k1 (Kd.C_below g1 hW) j1 z1)
 clear h1 k1 g1 j1 z1
 go_enter Tryz.func162, Tryz.ntmps162
 go_upto_region 1 with (fail)
 have bx0 := blk_alloc (blk_new w (.cells #[.int .i64 l0, .slice A1 l1.length a1] 153)) (.cells #[.int .i64 l0, .slice B1 l1.length b1] 153)
 have bx1 := blk_new (w.alloc (.cells #[.int .i64 l0, .slice A1 l1.length a1] 153)) (.cells #[.int .i64 l0, .slice B1 l1.length b1] 153)
 simp only [World.size_alloc] at bx1
 have hB := below_alloc (below_alloc (Below.refl w.heap.size w) (.cells #[.int .i64 l0, .slice A1 l1.length a1] 153)) (.cells #[.int .i64 l0, .slice B1 l1.length b1] 153)
 generalize (w.alloc (.cells #[.int .i64 l0, .slice A1 l1.length a1] 153)).alloc (.cells #[.int .i64 l0, .slice B1 l1.length b1] 153) = W0 at *
 have BA := Aside0.mk bx0
 have BB := Aside0.mk bx1
 have HB := Aside0.mk hB
 clear bx0 bx1 hB
 have q0 : (l0 != l0) = false := by simp
 have p0 : (l0 == l0) = true := by simp
 obtain ⟨x0, x1⟩ := cells2 BA.out
 obtain ⟨y0, y1⟩ := cells2 BB.out
 go_wp2_with fail
 refine (K1.out _ HB.out).mono ?_
 rintro r W1 ⟨rfl, hb⟩
 clear x0 y0 x1 y1
 replace BA := Aside0.mk (blk_below BA.out hb)
 replace BB := Aside0.mk (blk_below BB.out hb)
 replace HB := Aside0.mk (below_step HB.out hb)
 clear hb
 obtain ⟨x0, x1⟩ := cells2 BA.out
 obtain ⟨y0, y1⟩ := cells2 BB.out
 go_wp2_with fail
 go_ret
 exact ⟨rfl, HB.out⟩
set_option maxHeartbeats 4000000 in
set_option maxRecDepth 100000 in
theorem eqEventS_same (A : Option Addr) (c : Nat) (B : Option Addr) (d : Nat) (xs : List Ev) (w : World) (h1 : Kd.C kEv w A xs.length xs) (k1 : xs.length ≤ c) (h2 : Kd.C kEv w B xs.length xs) (k2 : xs.length ≤ d) (hl : xs.length ≤ 2097152 ∧ ∀ y ∈ xs, y.f1.length ≤ 2097152) :
  Calls Tryz.prog 139 #[.slice A xs.length c, .slice B xs.length d] w fun r w' => r = .returned (.bool true) ∧ Below w.heap.size w w' := by
 have H1 := Aside0.mk h1
 have H2 := Aside0.mk h2
 have HL := Aside0.mk hl
 have hxl := hl.1
 have q0 : ((xs.length : Int) != (xs.length : Int)) = false := by simp
 clear h1 h2 k1 k2 hl
 go_enter Tryz.func139, Tryz.ntmps139
 go_wp2
 go_loopg [5] (xs.length + 1) (fun kq v5 w' => ∃ i : Nat, v5 = .int .i64 i ∧ Aside0 (kq + i = xs.length + 1 ∧ i ≤ xs.length) ∧ Aside0 (Below w.heap.size w w'))
 case atStart => exact ⟨0, rfl, ⟨⟨by omega, by omega⟩⟩, ⟨Below.refl _ _⟩⟩
 case round =>
  obtain ⟨i, rfl, HJ, HB⟩ := hrel
  have hj0 := HJ.out
  by_cases hj : i < xs.length
  ·
   have c1 : decide ((i : Int) < (xs.length : Int)) = true := decide_eq_true (by omega)
   have c2 : decide (i < xs.length) = true := decide_eq_true hj
   have ci : (0 : Int) ≤ (i : Int) := by omega
   have ci2 : (i : Int) < (xs.length : Int) := by omega
   obtain ⟨adA, A1, a1, eA, x0, x1, hlA1, hiA1⟩ := at_T153 H1.out (i : Int) ci ci2
   obtain ⟨adB, B1, b1, eB, y0, y1, hlB1, hiB1⟩ := at_T153 H2.out (i : Int) ci ci2
   have ex : rd_T153 xs (i : Int) = xs[i] := by unfold rd_T153; rw [Int.toNat_natCast, List.getD_eq_getElem?_getD, List.getElem?_eq_getElem hj]; rfl
   rw [ex, Int.toNat_natCast] at x0 y0
   rw [ex] at hlA1 hiA1 hlB1 hiB1 x1 y1
   cases eA
   cases eB
   have hz := HL.out.2 xs[i] (List.getElem_mem hj)
   have KK := Aside0.mk (fun (W : World) (hW : Below w.heap.size w W) => eqEvent_same xs[i].f0 xs[i].f1 A1 a1 B1 b1 W (Kd.C_below hiA1 hW) hlA1 (Kd.C_below hiB1 hW) hlB1 hz)
   have hal : ∀ {a : Addr} {z : Value}, w.cell? a = some z → wr.cell? a = some z := fun hz => (HB.out.cell (World.block_lt_of_cell? w _ hz)).trans hz
   rw [Int.toNat_natCast] at x1 y1
   replace x0 := hal x0
   replace y0 := hal y0
   replace x1 := hal x1
   replace y1 := hal y1
   clear hal ex hz hlA1 hiA1 hlB1 hiB1
   obtain ⟨y, hy⟩ : ∃ y, xs[i] = y := ⟨_, rfl⟩
   rw [hy] at KK x0 y0 x1 y1
   clear hy
   go_wp2_with fail
   first | go_region_held3 (fun w' => w'.cell? (adA.add (i * 2)) = some (.int .i64 y.f0) ∧ w'.cell? ⟨(adA.add (i * 2)).block, (adA.add (i * 2)).off + 1, none⟩ = some (.slice A1 y.f1.length a1) ∧ w'.cell? (adB.add (i * 2)) = some (.int .i64 y.f0) ∧ w'.cell? ⟨(adB.add (i * 2)).block, (adB.add (i * 2)).off + 1, none⟩ = some (.slice B1 y.f1.length b1)) (first | exact ⟨x0, x1, y0, y1⟩) (first | (go_at_call 162; refine (KK.out _ (by with_reducible repeat (first | exact HB.out | apply below_drew1))).mono ?_; rintro r W1 ⟨rfl, hb0⟩; have hb : Below wr.heap.size wr W1 := (by first | exact hb0 | exact (below_drew1 (Below.refl wr.heap.size wr)).trans hb0); clear hb0; replace HB := Aside0.mk (below_step HB.out hb); replace x0 := (hb.cell (World.block_lt_of_cell? _ _ x0)).trans x0; replace x1 := (hb.cell (World.block_lt_of_cell? _ _ x1)).trans x1; replace y0 := (hb.cell (World.block_lt_of_cell? _ _ y0)).trans y0; replace y1 := (hb.cell (World.block_lt_of_cell? _ _ y1)).trans y1; clear hb)) | fail
   have hj2 := HJ.out
   obtain ⟨k1, rfl⟩ : ∃ k1, gk = k1 + 1 := ⟨gk - 1, by omega⟩
   go_wp2_with fail
   go_roundg k1
   case measure => omega
   case rel => exact ⟨i + 1, by go_num, ⟨⟨by omega, by omega⟩⟩, HB⟩
  ·
   have c1 : decide ((i : Int) < (xs.length : Int)) = false := decide_eq_false (by omega)
   have c2 : decide (i < xs.length) = false := decide_eq_false hj
   go_wp2_with fail
   go_ret
   exact ⟨rfl, HB.out⟩
set_option maxHeartbeats 4000000 in
set_option maxRecDepth 100000 in
theorem eqSession_same (l0 : Int) (l1 : Int) (l2 : List Ev) (A2 : Option Addr) (a2 : Nat) (B2 : Option Addr) (b2 : Nat) (w : World) (h2 : Kd.C (kEv) w A2 l2.length l2) (k2 : l2.length ≤ a2) (g2 : Kd.C (kEv) w B2 l2.length l2) (j2 : l2.length ≤ b2) (z2 : l2.length ≤ 2097152 ∧ ∀ y ∈ l2, y.f1.length ≤ 2097152) :
  Calls Tryz.prog 91 #[.agg #[.int .u64 l0, .int .i64 l1, .slice A2 l2.length a2], .agg #[.int .u64 l0, .int .i64 l1, .slice B2 l2.length b2]] w fun r w' => r = .returned (.bool true) ∧ Below w.heap.size w w' := by
 have K2 := Aside0.mk (fun (W : World) (hW : Below w.heap.size w W) => eqEventS_same A2 a2 B2 b2 l2 W (Kd.C_below h2 hW) k2 (Kd.C_below g2 hW) j2 z2)
 clear h2 k2 g2 j2 z2
 go_enter Tryz.func91, Tryz.ntmps91
 go_upto_region 1 with (fail)
 have bx0 := blk_alloc (blk_new w (.cells #[.int .u64 l0, .int .i64 l1, .slice A2 l2.length a2] 90)) (.cells #[.int .u64 l0, .int .i64 l1, .slice B2 l2.length b2] 90)
 have bx1 := blk_new (w.alloc (.cells #[.int .u64 l0, .int .i64 l1, .slice A2 l2.length a2] 90)) (.cells #[.int .u64 l0, .int .i64 l1, .slice B2 l2.length b2] 90)
 simp only [World.size_alloc] at bx1
 have hB := below_alloc (below_alloc (Below.refl w.heap.size w) (.cells #[.int .u64 l0, .int .i64 l1, .slice A2 l2.length a2] 90)) (.cells #[.int .u64 l0, .int .i64 l1, .slice B2 l2.length b2] 90)
 generalize (w.alloc (.cells #[.int .u64 l0, .int .i64 l1, .slice A2 l2.length a2] 90)).alloc (.cells #[.int .u64 l0, .int .i64 l1, .slice B2 l2.length b2] 90) = W0 at *
 have BA := Aside0.mk bx0
 have BB := Aside0.mk bx1
 have HB := Aside0.mk hB
 clear bx0 bx1 hB
 have q0 : (l0 != l0) = false := by simp
 have p0 : (l0 == l0) = true := by simp
 have q1 : (l1 != l1) = false := by simp
 have p1 : (l1 == l1) = true := by simp
 obtain ⟨x0, x1, x2⟩ := cells3 BA.out
 obtain ⟨y0, y1, y2⟩ := cells3 BB.out
 go_wp2_with fail
 refine (K2.out _ HB.out).mono ?_
 rintro r W1 ⟨rfl, hb⟩
 clear x0 y0 x1 y1 x2 y2
 replace BA := Aside0.mk (blk_below BA.out hb)
 replace BB := Aside0.mk (blk_below BB.out hb)
 replace HB := Aside0.mk (below_step HB.out hb)
 clear hb
 obtain ⟨x0, x1, x2⟩ := cells3 BA.out
 obtain ⟨y0, y1, y2⟩ := cells3 BB.out
 go_wp2_with fail
 go_ret
 exact ⟨rfl, HB.out⟩
set_option maxHeartbeats 4000000 in
set_option maxRecDepth 100000 in
theorem eqSessionS_same (A : Option Addr) (c : Nat) (B : Option Addr) (d : Nat) (xs : List Se) (w : World) (h1 : Kd.C kSe w A xs.length xs) (k1 : xs.length ≤ c) (h2 : Kd.C kSe w B xs.length xs) (k2 : xs.length ≤ d) (hl : xs.length ≤ 2097152 ∧ ∀ x ∈ xs, x.f2.length ≤ 2097152 ∧ ∀ y ∈ x.f2, y.f1.length ≤ 2097152) :
  Calls Tryz.prog 38 #[.slice A xs.length c, .slice B xs.length d] w fun r w' => r = .returned (.bool true) ∧ Below w.heap.size w w' := by
 have H1 := Aside0.mk h1
 have H2 := Aside0.mk h2
 have HL := Aside0.mk hl
 have hxl := hl.1
 have q0 : ((xs.length : Int) != (xs.length : Int)) = false := by simp
 clear h1 h2 k1 k2 hl
 go_enter Tryz.func38, Tryz.ntmps38
 go_wp2
 go_loopg [5] (xs.length + 1) (fun kq v5 w' => ∃ i : Nat, v5 = .int .i64 i ∧ Aside0 (kq + i = xs.length + 1 ∧ i ≤ xs.length) ∧ Aside0 (Below w.heap.size w w'))
 case atStart => exact ⟨0, rfl, ⟨⟨by omega, by omega⟩⟩, ⟨Below.refl _ _⟩⟩
 case round =>
  obtain ⟨i, rfl, HJ, HB⟩ := hrel
  have hj0 := HJ.out
  by_cases hj : i < xs.length
  ·
   have c1 : decide ((i : Int) < (xs.length : Int)) = true := decide_eq_true (by omega)
   have c2 : decide (i < xs.length) = true := decide_eq_true hj
   have ci : (0 : Int) ≤ (i : Int) := by omega
   have ci2 : (i : Int) < (xs.length : Int) := by omega
   obtain ⟨adA, A2, a2, eA, x0, x1, x2, hlA2, hiA2⟩ := at_T90 H1.out (i : Int) ci ci2
   obtain ⟨adB, B2, b2, eB, y0, y1, y2, hlB2, hiB2⟩ := at_T90 H2.out (i : Int) ci ci2
   have ex : rd_T90 xs (i : Int) = xs[i] := by unfold rd_T90; rw [Int.toNat_natCast, List.getD_eq_getElem?_getD, List.getElem?_eq_getElem hj]; rfl
   rw [ex, Int.toNat_natCast] at x0 x1 y0 y1
   rw [ex] at hlA2 hiA2 hlB2 hiB2 x2 y2
   cases eA
   cases eB
   have hz := HL.out.2 xs[i] (List.getElem_mem hj)
   have KK := Aside0.mk (fun (W : World) (hW : Below w.heap.size w W) => eqSession_same xs[i].f0 xs[i].f1 xs[i].f2 A2 a2 B2 b2 W (Kd.C_below hiA2 hW) hlA2 (Kd.C_below hiB2 hW) hlB2 hz)
   have hal : ∀ {a : Addr} {z : Value}, w.cell? a = some z → wr.cell? a = some z := fun hz => (HB.out.cell (World.block_lt_of_cell? w _ hz)).trans hz
   rw [Int.toNat_natCast] at x2 y2
   replace x0 := hal x0
   replace y0 := hal y0
   replace x1 := hal x1
   replace y1 := hal y1
   replace x2 := hal x2
   replace y2 := hal y2
   clear hal ex hz hlA2 hiA2 hlB2 hiB2
   obtain ⟨y, hy⟩ : ∃ y, xs[i] = y := ⟨_, rfl⟩
   rw [hy] at KK x0 y0 x1 y1 x2 y2
   clear hy
   go_wp2_with fail
   first | go_region_held3 (fun w' => w'.cell? (adA.add (i * 3)) = some (.int .u64 y.f0) ∧ w'.cell? ⟨(adA.add (i * 3)).block, (adA.add (i * 3)).off + 1, none⟩ = some (.int .i64 y.f1) ∧ w'.cell? ⟨(adA.add (i * 3)).block, (adA.add (i * 3)).off + 2, none⟩ = some (.slice A2 y.f2.length a2) ∧ w'.cell? (adB.add (i * 3)) = some (.int .u64 y.f0) ∧ w'.cell? ⟨(adB.add (i * 3)).block, (adB.add (i * 3)).off + 1, none⟩ = some (.int .i64 y.f1) ∧ w'.cell? ⟨(adB.add (i * 3)).block, (adB.add (i * 3)).off + 2, none⟩ = some (.slice B2 y.f2.length b2)) (first | exact ⟨x0, x1, x2, y0, y1, y2⟩) (first | (go_at_call 91; refine (KK.out _ (by with_reducible repeat (first | exact HB.out | apply below_drew1))).mono ?_; rintro r W1 ⟨rfl, hb0⟩; have hb : Below wr.heap.size wr W1 := (by first | exact hb0 | exact (below_drew1 (Below.refl wr.heap.size wr)).trans hb0); clear hb0; replace HB := Aside0.mk (below_step HB.out hb); replace x0 := (hb.cell (World.block_lt_of_cell? _ _ x0)).trans x0; replace x1 := (hb.cell (World.block_lt_of_cell? _ _ x1)).trans x1; replace x2 := (hb.cell (World.block_lt_of_cell? _ _ x2)).trans x2; replace y0 := (hb.cell (World.block_lt_of_cell? _ _ y0)).trans y0; replace y1 := (hb.cell (World.block_lt_of_cell? _ _ y1)).trans y1; replace y2 := (hb.cell (World.block_lt_of_cell? _ _ y2)).trans y2; clear hb)) | fail
   have hj2 := HJ.out
   obtain ⟨k1, rfl⟩ : ∃ k1, gk = k1 + 1 := ⟨gk - 1, by omega⟩
   go_wp2_with fail
   go_roundg k1
   case measure => omega
   case rel => exact ⟨i + 1, by go_num, ⟨⟨by omega, by omega⟩⟩, HB⟩
  ·
   have c1 : decide ((i : Int) < (xs.length : Int)) = false := decide_eq_false (by omega)
   have c2 : decide (i < xs.length) = false := decide_eq_false hj
   go_wp2_with fail
   go_ret
   exact ⟨rfl, HB.out⟩
set_option maxHeartbeats 4000000 in
set_option maxRecDepth 100000 in
theorem eqNode_same (l0 : List Int) (l1 : List Int) (l2 : Int) (l3 : Int) (l4 : List Int) (l5 : Int) (l6 : Int) (l7 : List Int) (A0 : Option Addr) (a0 : Nat) (B0 : Option Addr) (b0 : Nat) (A1 : Option Addr) (a1 : Nat) (B1 : Option Addr) (b1 : Nat) (A4 : Option Addr) (a4 : Nat) (B4 : Option Addr) (b4 : Nat) (A7 : Option Addr) (a7 : Nat) (B7 : Option Addr) (b7 : Nat) (w : World) (h0 : Kd.C (Kd.int .u8) w A0 l0.length l0) (k0 : l0.length ≤ a0) (g0 : Kd.C (Kd.int .u8) w B0 l0.length l0) (j0 : l0.length ≤ b0) (z0 : l0.length ≤ 2097152) (h1 : Kd.C (Kd.int .u8) w A1 l1.length l1) (k1 : l1.length ≤ a1) (g1 : Kd.C (Kd.int .u8) w B1 l1.length l1) (j1 : l1.length ≤ b1) (z1 : l1.length ≤ 2097152) (h4 : Kd.C (Kd.int .u64) w A4 l4.length l4) (k4 : l4.length ≤ a4) (g4 : Kd.C (Kd.int .u64) w B4 l4.length l4) (j4 : l4.length ≤ b4) (z4 : l4.length ≤ 2097152) (h7 : Kd.C (Kd.int .u64) w A7 l7.length l7) (k7 : l7.length ≤ a7) (g7 : Kd.C (Kd.int .u64) w B7 l7.length l7) (j7 : l7.length ≤ b7) (z7 : l7.length ≤ 2097152) :
  Calls Tryz.prog 92 #[.agg #[.slice A0 l0.length a0, .slice A1 l1.length a1, .int .u64 l2, .int .i64 l3, .slice A4 l4.length a4, .int .u64 l5, .int .u64 l6, .slice A7 l7.length a7], .agg #[.slice B0 l0.length b0, .slice B1 l1.length b1, .int .u64 l2, .int .i64 l3, .slice B4 l4.length b4, .int .u64 l5, .int .u64 l6, .slice B7 l7.length b7]] w fun r w' => r = .returned (.bool true) ∧ Below w.heap.size w w' := by
 have K0 := Aside0.mk (fun (W : World) (hW : Below w.heap.size w W) => eqByteS_same A0 a0 B0 b0 l0 W (Kd.C_below h0 hW) k0 (Kd.C_below g0 hW) j0 z0)
 have K1 := Aside0.mk (fun (W : World) (hW : Below w.heap.size w W) => eqByteS_same A1 a1 B1 b1 l1 W (Kd.C_below h1 hW) k1 (Kd.C_below g1 hW) j1 z1)
 have K4 := Aside0.mk (fun (W : World) (hW : Below w.heap.size w W) => eqUint64S_same A4 a4 B4 b4 l4 W (Kd.C_below h4 hW) k4 (Kd.C_below g4 hW) j4 z4)
 have K7 := Aside0.mk (fun (W : World) (hW : Below w.heap.size w W) => eqUint64S_same A7 a7 B7 b7 l7 W (Kd.C_below h7 hW) k7 (Kd.C_below g7 hW) j7 z7)
 clear h0 k0 g0 j0 z0 h1 k1 g1 j1 z1 h4 k4 g4 j4 z4 h7 k7 g7 j7 z7
 go_enter Tryz.func92, Tryz.ntmps92
 go_upto_region 1 with (fail)
 have bx0 := blk_alloc (blk_new w (.cells #[.slice A0 l0.length a0, .slice A1 l1.length a1, .int .u64 l2, .int .i64 l3, .slice A4 l4.length a4, .int .u64 l5, .int .u64 l6, .slice A7 l7.length a7] 93)) (.cells #[.slice B0 l0.length b0, .slice B1 l1.length b1, .int .u64 l2, .int .i64 l3, .slice B4 l4.length b4, .int .u64 l5, .int .u64 l6, .slice B7 l7.length b7] 93)
 have bx1 := blk_new (w.alloc (.cells #[.slice A0 l0.length a0, .slice A1 l1.length a1, .int .u64 l2, .int .i64 l3, .slice A4 l4.length a4, .int .u64 l5, .int .u64 l6, .slice A7 l7.length a7] 93)) (.cells #[.slice B0 l0.length b0, .slice B1 l1.length b1, .int .u64 l2, .int .i64 l3, .slice B4 l4.length b4, .int .u64 l5, .int .u64 l6, .slice B7 l7.length b7] 93)
 simp only [World.size_alloc] at bx1
 have hB := below_alloc (below_alloc (Below.refl w.heap.size w) (.cells #[.slice A0 l0.length a0, .slice A1 l1.length a1, .int .u64 l2, .int .i64 l3, .slice A4 l4.length a4, .int .u64 l5, .int .u64 l6, .slice A7 l7.length a7] 93)) (.cells #[.slice B0 l0.length b0, .slice B1 l1.length b1, .int .u64 l2, .int .i64 l3, .slice B4 l4.length b4, .int .u64 l5, .int .u64 l6, .slice B7 l7.length b7] 93)
 generalize (w.alloc (.cells #[.slice A0 l0.length a0, .slice A1 l1.length a1, .int .u64 l2, .int .i64 l3, .slice A4 l4.length a4, .int .u64 l5, .int .u64 l6, .slice A7 l7.length a7] 93)).alloc (.cells #[.slice B0 l0.length b0, .slice B1 l1.length b1, .int .u64 l2, .int .i64 l3, .slice B4 l4.length b4, .int .u64 l5, .int .u64 l6, .slice B7 l7.length b7] 93) = W0 at *
 have BA := Aside0.mk bx0
 have BB := Aside0.mk bx1
 have HB := Aside0.mk hB
 clear bx0 bx1 hB
 have q2 : (l2 != l2) = false := by simp
 have p2 : (l2 == l2) = true := by simp
 have q3 : (l3 != l3) = false := by simp
 have p3 : (l3 == l3) = true := by simp
 have q5 : (l5 != l5) = false := by simp
 have p5 : (l5 == l5) = true := by simp
 have q6 : (l6 != l6) = false := by simp
 have p6 : (l6 == l6) = true := by simp
 obtain ⟨x0, x1, x2, x3, x4, x5, x6, x7⟩ := cells8 BA.out
 obtain ⟨y0, y1, y2, y3, y4, y5, y6, y7⟩ := cells8 BB.out
 go_wp2_with fail
 refine (K0.out _ HB.out).mono ?_
 rintro r W1 ⟨rfl, hb⟩
 clear x0 y0 x1 y1 x2 y2 x3 y3 x4 y4 x5 y5 x6 y6 x7 y7
 replace BA := Aside0.mk (blk_below BA.out hb)
 replace BB := Aside0.mk (blk_below BB.out hb)
 replace HB := Aside0.mk (below_step HB.out hb)
 clear hb
 obtain ⟨x0, x1, x2, x3, x4, x5, x6, x7⟩ := cells8 BA.out
 obtain ⟨y0, y1, y2, y3, y4, y5, y6, y7⟩ := cells8 BB.out
 go_wp2_with fail
 refine (K1.out _ HB.out).mono ?_
 rintro r W2 ⟨rfl, hb⟩
 clear x0 y0 x1 y1 x2 y2 x3 y3 x4 y4 x5 y5 x6 y6 x7 y7
 replace BA := Aside0.mk (blk_below BA.out hb)
 replace BB := Aside0.mk (blk_below BB.out hb)
 replace HB := Aside0.mk (below_step HB.out hb)
 clear hb
 obtain ⟨x0, x1, x2, x3, x4, x5, x6, x7⟩ := cells8 BA.out
 obtain ⟨y0, y1, y2, y3, y4, y5, y6, y7⟩ := cells8 BB.out
 go_wp2_with fail
 refine (K4.out _ HB.out).mono ?_
 rintro r W3 ⟨rfl, hb⟩
 clear x0 y0 x1 y1 x2 y2 x3 y3 x4 y4 x5 y5 x6 y6 x7 y7
 replace BA := Aside0.mk (blk_below BA.out hb)
 replace BB := Aside0.mk (blk_below BB.out hb)
 replace HB := Aside0.mk (below_step HB.out hb)
 clear hb
 obtain ⟨x0, x1, x2, x3, x4, x5, x6, x7⟩ := cells8 BA.out
 obtain ⟨y0, y1, y2, y3, y4, y5, y6, y7⟩ := cells8 BB.out
 go_wp2_with fail
 refine (K7.out _ HB.out).mono ?_
 rintro r W4 ⟨rfl, hb⟩
 clear x0 y0 x1 y1 x2 y2 x3 y3 x4 y4 x5 y5 x6 y6 x7 y7
 replace BA := Aside0.mk (blk_below BA.out hb)
 replace BB := Aside0.mk (blk_below BB.out hb)
 replace HB := Aside0.mk (below_step HB.out hb)
 clear hb
 obtain ⟨x0, x1, x2, x3, x4, x5, x6, x7⟩ := cells8 BA.out
 obtain ⟨y0, y1, y2, y3, y4, y5, y6, y7⟩ := cells8 BB.out
 go_wp2_with fail
 go_ret
 exact ⟨rfl, HB.out⟩
set_option maxHeartbeats 4000000 in
set_option maxRecDepth 100000 in
theorem eqNodeS_same (A : Option Addr) (c : Nat) (B : Option Addr) (d : Nat) (xs : List No) (w : World) (h1 : Kd.C kNo w A xs.length xs) (k1 : xs.length ≤ c) (h2 : Kd.C kNo w B xs.length xs) (k2 : xs.length ≤ d) (hl : xs.length ≤ 2097152 ∧ ∀ x ∈ xs, (x.f0.length ≤ 2097152 ∧ x.f1.length ≤ 2097152) ∧ x.f4.length ≤ 2097152 ∧ x.f7.length ≤ 2097152) :
  Calls Tryz.prog 39 #[.slice A xs.length c, .slice B xs.length d] w fun r w' => r = .returned (.bool true) ∧ Below w.heap.size w w' := by
 have H1 := Aside0.mk h1
 have H2 := Aside0.mk h2
 have HL := Aside0.mk hl
 have hxl := hl.1
 have q0 : ((xs.length : Int) != (xs.length : Int)) = false := by simp
 clear h1 h2 k1 k2 hl
 go_enter Tryz.func39, Tryz.ntmps39
 go_wp2
 go_loopg [5] (xs.length + 1) (fun kq v5 w' => ∃ i : Nat, v5 = .int .i64 i ∧ Aside0 (kq + i = xs.length + 1 ∧ i ≤ xs.length) ∧ Aside0 (Below w.heap.size w w'))
 case atStart => exact ⟨0, rfl, ⟨⟨by omega, by omega⟩⟩, ⟨Below.refl _ _⟩⟩
 case round =>
  obtain ⟨i, rfl, HJ, HB⟩ := hrel
  have hj0 := HJ.out
  by_cases hj : i < xs.length
  ·
   have c1 : decide ((i : Int) < (xs.length : Int)) = true := decide_eq_true (by omega)
   have c2 : decide (i < xs.length) = true := decide_eq_true hj
   have ci : (0 : Int) ≤ (i : Int) := by omega
   have ci2 : (i : Int) < (xs.length : Int) := by omega
   obtain ⟨adA, A0, a0, A1, a1, A4, a4, A7, a7, eA, x0, x1, x2, x3, x4, x5, x6, x7, hlA0, hiA0, hlA1, hiA1, hlA4, hiA4, hlA7, hiA7⟩ := at_T93 H1.out (i : Int) ci ci2
   obtain ⟨adB, B0, b0, B1, b1, B4, b4, B7, b7, eB, y0, y1, y2, y3, y4, y5, y6, y7, hlB0, hiB0, hlB1, hiB1, hlB4, hiB4, hlB7, hiB7⟩ := at_T93 H2.out (i : Int) ci ci2
   have ex : rd_T93 xs (i : Int) = xs[i] := by unfold rd_T93; rw [Int.toNat_natCast, List.getD_eq_getElem?_getD, List.getElem?_eq_getElem hj]; rfl
   rw [ex, Int.toNat_natCast] at x2 x3 x5 x6 y2 y3 y5 y6
   rw [ex] at hlA0 hiA0 hlB0 hiB0 hlA1 hiA1 hlB1 hiB1 hlA4 hiA4 hlB4 hiB4 hlA7 hiA7 hlB7 hiB7 x0 y0 x1 y1 x4 y4 x7 y7
   cases eA
   cases eB
   have hz := HL.out.2 xs[i] (List.getElem_mem hj)
   have KK := Aside0.mk (fun (W : World) (hW : Below w.heap.size w W) => eqNode_same xs[i].f0 xs[i].f1 xs[i].f2 xs[i].f3 xs[i].f4 xs[i].f5 xs[i].f6 xs[i].f7 A0 a0 B0 b0 A1 a1 B1 b1 A4 a4 B4 b4 A7 a7 B7 b7 W (Kd.C_below hiA0 hW) hlA0 (Kd.C_below hiB0 hW) hlB0 hz.1.1 (Kd.C_below hiA1 hW) hlA1 (Kd.C_below hiB1 hW) hlB1 hz.1.2 (Kd.C_below hiA4 hW) hlA4 (Kd.C_below hiB4 hW) hlB4 hz.2.1 (Kd.C_below hiA7 hW) hlA7 (Kd.C_below hiB7 hW) hlB7 hz.2.2)
   have hal : ∀ {a : Addr} {z : Value}, w.cell? a = some z → wr.cell? a = some z := fun hz => (HB.out.cell (World.block_lt_of_cell? w _ hz)).trans hz
   rw [Int.toNat_natCast] at x0 y0
   rw [Int.toNat_natCast] at x1 y1
   rw [Int.toNat_natCast] at x4 y4
   rw [Int.toNat_natCast] at x7 y7
   replace x0 := hal x0
   replace y0 := hal y0
   replace x1 := hal x1
   replace y1 := hal y1
   replace x2 := hal x2
   replace y2 := hal y2
   replace x3 := hal x3
   replace y3 := hal y3
   replace x4 := hal x4
   replace y4 := hal y4
   replace x5 := hal x5
   replace y5 := hal y5
   replace x6 := hal x6
   replace y6 := hal y6
   replace x7 := hal x7
   replace y7 := hal y7
   clear hal ex hz hlA0 hiA0 hlB0 hiB0 hlA1 hiA1 hlB1 hiB1 hlA4 hiA4 hlB4 hiB4 hlA7 hiA7 hlB7 hiB7
   obtain ⟨y, hy⟩ : ∃ y, xs[i] = y := ⟨_, rfl⟩
   rw [hy] at KK x0 y0 x1 y1 x2 y2 x3 y3 x4 y4 x5 y5 x6 y6 x7 y7
   clear hy
   go_wp2_with fail
   first | go_region_held3 (fun w' => w'.cell? (adA.add (i * 8)) = some (.slice A0 y.f0.length a0) ∧ w'.cell? ⟨(adA.add (i * 8)).block, (adA.add (i * 8)).off + 1, none⟩ = some (.slice A1 y.f1.length a1) ∧ w'.cell? ⟨(adA.add (i * 8)).block, (adA.add (i * 8)).off + 2, none⟩ = some (.int .u64 y.f2) ∧ w'.cell? ⟨(adA.add (i * 8)).block, (adA.add (i * 8)).off + 3, none⟩ = some (.int .i64 y.f3) ∧ w'.cell? ⟨(adA.add (i * 8)).block, (adA.add (i * 8)).off + 4, none⟩ = some (.slice A4 y.f4.length a4) ∧ w'.cell? ⟨(adA.add (i * 8)).block, (adA.add (i * 8)).off + 5, none⟩ = some (.int .u64 y.f5) ∧ w'.cell? ⟨(adA.add (i * 8)).block, (adA.add (i * 8)).off + 6, none⟩ = some (.int .u64 y.f6) ∧ w'.cell? ⟨(adA.add (i * 8)).block, (adA.add (i * 8)).off + 7, none⟩ = some (.slice A7 y.f7.length a7) ∧ w'.cell? (adB.add (i * 8)) = some (.slice B0 y.f0.length b0) ∧ w'.cell? ⟨(adB.add (i * 8)).block, (adB.add (i * 8)).off + 1, none⟩ = some (.slice B1 y.f1.length b1) ∧ w'.cell? ⟨(adB.add (i * 8)).block, (adB.add (i * 8)).off + 2, none⟩ = some (.int .u64 y.f2) ∧ w'.cell? ⟨(adB.add (i * 8)).block, (adB.add (i * 8)).off + 3, none⟩ = some (.int .i64 y.f3) ∧ w'.cell? ⟨(adB.add (i * 8)).block, (adB.add (i * 8)).off + 4, none⟩ = some (.slice B4 y.f4.length b4) ∧ w'.cell? ⟨(adB.add (i * 8)).block, (adB.add (i * 8)).off + 5, none⟩ = some (.int .u64 y.f5) ∧ w'.cell? ⟨(adB.add (i * 8)).block, (adB.add (i * 8)).off + 6, none⟩ = some (.int .u64 y.f6) ∧ w'.cell? ⟨(adB.add (i * 8)).block, (adB.add (i * 8)).off + 7, none⟩ = some (.slice B7 y.f7.length b7)) (first | exact ⟨x0, x1, x2, x3, x4, x5, x6, x7, y0, y1, y2, y3, y4, y5, y6, y7⟩) (first | (go_at_call 92; refine (KK.out _ (by with_reducible repeat (first | exact HB.out | apply below_drew1))).mono ?_; rintro r W1 ⟨rfl, hb0⟩; have hb : Below wr.heap.size wr W1 := (by first | exact hb0 | exact (below_drew1 (Below.refl wr.heap.size wr)).trans hb0); clear hb0; replace HB := Aside0.mk (below_step HB.out hb); replace x0 := (hb.cell (World.block_lt_of_cell? _ _ x0)).trans x0; replace x1 := (hb.cell (World.block_lt_of_cell? _ _ x1)).trans x1; replace x2 := (hb.cell (World.block_lt_of_cell? _ _ x2)).trans x2; replace x3 := (hb.cell (World.block_lt_of_cell? _ _ x3)).trans x3; replace x4 := (hb.cell (World.block_lt_of_cell? _ _ x4)).trans x4; replace x5 := (hb.cell (World.block_lt_of_cell? _ _ x5)).trans x5; replace x6 := (hb.cell (World.block_lt_of_cell? _ _ x6)).trans x6; replace x7 := (hb.cell (World.block_lt_of_cell? _ _ x7)).trans x7; replace y0 := (hb.cell (World.block_lt_of_cell? _ _ y0)).trans y0; replace y1 := (hb.cell (World.block_lt_of_cell? _ _ y1)).trans y1; replace y2 := (hb.cell (World.block_lt_of_cell? _ _ y2)).trans y2; replace y3 := (hb.cell (World.block_lt_of_cell? _ _ y3)).trans y3; replace y4 := (hb.cell (World.block_lt_of_cell? _ _ y4)).trans y4; replace y5 := (hb.cell (World.block_lt_of_cell? _ _ y5)).trans y5; replace y6 := (hb.cell (World.block_lt_of_cell? _ _ y6)).trans y6; replace y7 := (hb.cell (World.block_lt_of_cell? _ _ y7)).trans y7; clear hb)) | fail
   have hj2 := HJ.out
   obtain ⟨k1, rfl⟩ : ∃ k1, gk = k1 + 1 := ⟨gk - 1, by omega⟩
   go_wp2_with fail
   go_roundg k1
   case measure => omega
   case rel => exact ⟨i + 1, by go_num, ⟨⟨by omega, by omega⟩⟩, HB⟩
  ·
   have c1 : decide ((i : Int) < (xs.length : Int)) = false := decide_eq_false (by omega)
   have c2 : decide (i < xs.length) = false := decide_eq_false hj
   go_wp2_with fail
   go_ret
   exact ⟨rfl, HB.out⟩
set_option maxHeartbeats 4000000 in
set_option maxRecDepth 100000 in
theorem eqState_same (l0 : Int) (l1 : Int) (l2 : Int) (l3 : Int) (l4 : List Se) (l5 : List No) (A4 : Option Addr) (a4 : Nat) (B4 : Option Addr) (b4 : Nat) (A5 : Option Addr) (a5 : Nat) (B5 : Option Addr) (b5 : Nat) (w : World) (h4 : Kd.C (kSe) w A4 l4.length l4) (k4 : l4.length ≤ a4) (g4 : Kd.C (kSe) w B4 l4.length l4) (j4 : l4.length ≤ b4) (z4 : l4.length ≤ 2097152 ∧ ∀ x ∈ l4, x.f2.length ≤ 2097152 ∧ ∀ y ∈ x.f2, y.f1.length ≤ 2097152) (h5 : Kd.C (kNo) w A5 l5.length l5) (k5 : l5.length ≤ a5) (g5 : Kd.C (kNo) w B5 l5.length l5) (j5 : l5.length ≤ b5) (z5 : l5.length ≤ 2097152 ∧ ∀ x ∈ l5, (x.f0.length ≤ 2097152 ∧ x.f1.length ≤ 2097152) ∧ x.f4.length ≤ 2097152 ∧ x.f7.length ≤ 2097152) :
  Calls Tryz.prog 10 #[.agg #[.int .u64 l0, .int .u64 l1, .int .u64 l2, .int .i64 l3, .slice A4 l4.length a4, .slice A5 l5.length a5], .agg #[.int .u64 l0, .int .u64 l1, .int .u64 l2, .int .i64 l3, .slice B4 l4.length b4, .slice B5 l5.length b5]] w fun r w' => r = .returned (.bool true) ∧ Below w.heap.size w w' := by
 have K4 := Aside0.mk (fun (W : World) (hW : Below w.heap.size w W) => eqSessionS_same A4 a4 B4 b4 l4 W (Kd.C_below h4 hW) k4 (Kd.C_below g4 hW) j4 z4)
 have K5 := Aside0.mk (fun (W : World) (hW : Below w.heap.size w W) => eqNodeS_same A5 a5 B5 b5 l5 W (Kd.C_below h5 hW) k5 (Kd.C_below g5 hW) j5 z5)
 clear h4 k4 g4 j4 z4 h5 k5 g5 j5 z5
 go_enter Tryz.func10, Tryz.ntmps10
 go_upto_region 1 with (fail)
 have bx0 := blk_alloc (blk_new w (.cells #[.int .u64 l0, .int .u64 l1, .int .u64 l2, .int .i64 l3, .slice A4 l4.length a4, .slice A5 l5.length a5] 31)) (.cells #[.int .u64 l0, .int .u64 l1, .int .u64 l2, .int .i64 l3, .slice B4 l4.length b4, .slice B5 l5.length b5] 31)
 have bx1 := blk_new (w.alloc (.cells #[.int .u64 l0, .int .u64 l1, .int .u64 l2, .int .i64 l3, .slice A4 l4.length a4, .slice A5 l5.length a5] 31)) (.cells #[.int .u64 l0, .int .u64 l1, .int .u64 l2, .int .i64 l3, .slice B4 l4.length b4, .slice B5 l5.length b5] 31)
 simp only [World.size_alloc] at bx1
 have hB := below_alloc (below_alloc (Below.refl w.heap.size w) (.cells #[.int .u64 l0, .int .u64 l1, .int .u64 l2, .int .i64 l3, .slice A4 l4.length a4, .slice A5 l5.length a5] 31)) (.cells #[.int .u64 l0, .int .u64 l1, .int .u64 l2, .int .i64 l3, .slice B4 l4.length b4, .slice B5 l5.length b5] 31)
 generalize (w.alloc (.cells #[.int .u64 l0, .int .u64 l1, .int .u64 l2, .int .i64 l3, .slice A4 l4.length a4, .slice A5 l5.length a5] 31)).alloc (.cells #[.int .u64 l0, .int .u64 l1, .int .u64 l2, .int .i64 l3, .slice B4 l4.length b4, .slice B5 l5.length b5] 31) = W0 at *
 have BA := Aside0.mk bx0
 have BB := Aside0.mk bx1
 have HB := Aside0.mk hB
 clear bx0 bx1 hB
 have q0 : (l0 != l0) = false := by simp
 have p0 : (l0 == l0) = true := by simp
 have q1 : (l1 != l1) = false := by simp
 have p1 : (l1 == l1) = true := by simp
 have q2 : (l2 != l2) = false := by simp
 have p2 : (l2 == l2) = true := by simp
 have q3 : (l3 != l3) = false := by simp
 have p3 : (l3 == l3) = true := by simp
 obtain ⟨x0, x1, x2, x3, x4, x5⟩ := cells6 BA.out
 obtain ⟨y0, y1, y2, y3, y4, y5⟩ := cells6 BB.out
 go_wp2_with fail
 refine (K4.out _ HB.out).mono ?_
 rintro r W1 ⟨rfl, hb⟩
 clear x0 y0 x1 y1 x2 y2 x3 y3 x4 y4 x5 y5
 replace BA := Aside0.mk (blk_below BA.out hb)
 replace BB := Aside0.mk (blk_below BB.out hb)
 replace HB := Aside0.mk (below_step HB.out hb)
 clear hb
 obtain ⟨x0, x1, x2, x3, x4, x5⟩ := cells6 BA.out
 obtain ⟨y0, y1, y2, y3, y4, y5⟩ := cells6 BB.out
 go_wp2_with fail
 refine (K5.out _ HB.out).mono ?_
 rintro r W2 ⟨rfl, hb⟩
 clear x0 y0 x1 y1 x2 y2 x3 y3 x4 y4 x5 y5
 replace BA := Aside0.mk (blk_below BA.out hb)
 replace BB := Aside0.mk (blk_below BB.out hb)
 replace HB := Aside0.mk (below_step HB.out hb)
 clear hb
 obtain ⟨x0, x1, x2, x3, x4, x5⟩ := cells6 BA.out
 obtain ⟨y0, y1, y2, y3, y4, y5⟩ := cells6 BB.out
 go_wp2_with fail
 go_ret
 exact ⟨rfl, HB.out⟩
end Go.Proofs.YtbgbocdohadhoaaGreatDoor.Print
