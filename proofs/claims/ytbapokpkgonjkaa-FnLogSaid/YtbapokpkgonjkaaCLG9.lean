/- Texts of this session, joined by its own program. -/
import Derived.Test.YtbapokpkgonjkaaCLG6
import Derived.RangeFuncNested
import Derived.RangeFuncBound
import Derived.RangeFuncCalls
import Derived.RangeFuncLeaves
import Derived.Test.YtbapokpkgonjkaaCLG3
import Derived.Shelf.Abstract
import Derived.Shelf.RegionOpen
import Derived.WalkKit
import Derived.OwnWalkIn
import Derived.TacticsInMore
import Derived.LoopNIn
import Derived.LoopIn
import Derived.Sort.QuietIn
import Derived.Sort.QuietTacIn
import Derived.Test.YtbapokpkgonjkaaCLG4
import Derived.Maps.OwnIn
import Derived.WalkMore
import Derived.Test.YtbapokpkgonjkaaCLG8
namespace Go.Proofs.Ytbapokpkgonjkaa.Print
open Go.RowKit Go.Proofs.YtbapokpkgonjkaaW.PrintWords Go.Proofs.YtbapokpkgonjkaaW.PrintLast Go.Proofs.YtbapokpkgonjkaaW.PrintMore
set_option linter.unusedVariables false
set_option linter.unusedSimpArgs false
theorem wrap_nat (x : Int) (h0 : 0 ≤ x) (h1 : x ≤ 4611686018427387904) : wrap64 x = x := by unfold wrap64; omega
theorem cutL_range {l : List Int} (h : ∀ x ∈ l, 0 ≤ x ∧ x < 256) (a b : Nat) : ∀ x ∈ cutL l a b, 0 ≤ x ∧ x < 256 := fun x hx => h x (List.mem_of_mem_take (List.mem_of_mem_drop hx))
theorem cutL_length (l : List Int) (a b : Nat) (h : b ≤ l.length) : (cutL l a b).length = b - a := by simp only [cutL, List.length_drop, List.length_take]; omega
theorem recB_range (a : Int) (l : List Int) (hb : ∀ x ∈ l, 0 ≤ x ∧ x < 256) : ∀ x ∈ recB a l, 0 ≤ x ∧ x < 256 := by
  intro x hx
  unfold recB at hx
  split at hx
  · cases hx
  · rcases List.mem_append.1 hx with hx | hx
    · rcases List.mem_append.1 hx with hx | hx
      · rcases List.mem_append.1 hx with hx | hx
        · exact leB_range _ _ x hx
        · exact leB_range _ _ x hx
      · exact hb x hx
    · exact leB_range _ _ x hx
theorem goesOn_last {out : List S45} {m : Nat} (hm : out.length = m + 1) (r : S45) : goesOn out r = (!decide ((out.getD m z45).f0 = 18446744073709551615) && decide (r.f0 = (out.getD m z45).f0 + 1)) := by
  have e : out.getLast? = some (out.getD m z45) := by
    rw [List.getLast?_eq_getElem?, hm, Nat.add_sub_cancel, List.getD_eq_getElem?_getD]
    rw [List.getElem?_eq_getElem (by omega)]
    rfl
  unfold goesOn
  rw [e]
set_option maxHeartbeats 2000000 in
set_option maxRecDepth 100000 in
theorem spec_ReadLog_calls (A : Option Addr) (c : Nat) (l : List Int) (w : World) (h0 : Kd.C (Kd.int .u8) w A l.length l) (hc : l.length ≤ c) (hr : ∀ x ∈ l, 0 ≤ x ∧ x < 256) (hl2 : l.length ≤ 2097152) :
    Calls Try.prog 34 #[.slice A l.length c] w fun e w' => ∃ v1 : Value, e = .returned (.tuple #[v1, .int .i64 ((logF l).2 : Int)]) ∧ Kd.S k45 45 w' w.heap.size (fun _ => True) v1 (logF l).1 ∧ Below w.heap.size w w' := by
  have R0 := Aside0.mk h0
  have HR := Aside0.mk hr
  have HC := Aside0.mk hc
  have HL2 := Aside0.mk hl2
  clear h0 hr hc hl2
  obtain ⟨i0, hi0, _, hsz0, _⟩ := info_parts info5
  have HI := Aside0.mk (And.intro hi0 hsz0)
  clear hi0 hsz0
  have hq : logL (l.length + 1) l 0 [] = logF l := rfl
  generalize logF l = q at *
  obtain ⟨ro, rp⟩ := q
  have HQ := Aside0.mk hq
  clear hq
  simp only
  go_enter Try.func34, Try.ntmps34
  go_wp2
  go_loopg [4, 5] (l.length + 1) (fun kq v4 v5 w' => ∃ (p : Nat) (out : List S45), v5 = .int .i64 (p : Int) ∧ Aside0 (logL kq l p out = (ro, rp)) ∧ Aside0 (p ≤ l.length ∧ 14 * out.length ≤ p ∧ l.length + 1 ≤ p + kq ∧ ∀ x ∈ out, 0 ≤ x.f0 ∧ x.f0 < 18446744073709551616) ∧ Aside0 (Kd.S k45 45 w' w.heap.size (fun _ => True) v4 out) ∧ Aside0 (Below w.heap.size w w'))
  case atStart => exact ⟨0, [], rfl, HQ, ⟨⟨by omega, by simp, by omega, by simp⟩⟩, ⟨Kd.S_nil _ _ _ _ _⟩, ⟨by repeat (first | exact Below.refl _ _ | apply below_alloc)⟩⟩
  case round =>
    clear HQ
    obtain ⟨p, out, rfl, HL, HN, HS, HB⟩ := hrel
    obtain ⟨O, co, rfl, hoc, hoC⟩ := Kd.S_reads HS.out
    have ⟨hp, hol, hpk, hor⟩ := HN.out
    have hl2 := HL2.out
    obtain ⟨k1, rfl⟩ : ∃ k1, gk = k1 + 1 := ⟨gk - 1, by omega⟩
    have hlog : (if recOk l p && goesOn out (recOf l p) then logL k1 l (p + (14 + recN l p)) (out ++ [recOf l p]) else (out, p)) = (ro, rp) := HL.out
    clear HL hoC hoc hor
    have hw14 : wrap64 ((p : Int) + 14) = (p : Int) + 14 := wrap_nat _ (by omega) (by omega)
    have W14 := Aside0.mk hw14
    clear hw14
    by_cases q1 : p + 14 ≤ l.length
    case neg =>
      have c1 : decide ((p : Int) + 14 ≤ (l.length : Int)) = false := decide_eq_false (by omega)
      rw [if_neg (by simp [recOk, q1])] at hlog
      obtain ⟨rfl, rfl⟩ := Prod.mk.inj hlog
      clear hp hol hpk hl2 q1 hlog
      have hw14 := W14.out
      go_wp2_with fail
      refine bodyPost_ret (v := .tuple #[.slice O out.length co, .int .i64 (p : Int)]) ?_ rfl ?_
      · simp [results, Try.results34, go_sem]
      · exact ⟨_, rfl, HS.out, HB.out⟩
    have c1 : decide ((p : Int) + 14 ≤ (l.length : Int)) = true := decide_eq_true (by omega)
    have ⟨hi0, hsz0⟩ := HI.out
    obtain ⟨A1, hcut1, hA1, hC1⟩ := print_mid_of (P := Try.prog) (Value.int .u8) 0 22 5 .i64 .i64 Try.underlying22 hi0 hsz0 A c l (p : Int) ((p : Int) + 2) (by omega) (by omega) (by omega) HC.out
    rw [show ((p : Int) : Int).toNat = p by omega, show (((p : Int) + 2) : Int).toNat = p + 2 by omega] at hA1 hcut1 hC1
    replace hcut1 : ∀ W : World, Sem.run Try.prog (Instr.slice 22 (.slice A l.length c) (some (.int .i64 (p : Int))) (some (.int .i64 ((p : Int) + 2))) none) W = Result.ok (.slice A1 (cutL l (p) (p + 2)).length _) W := hcut1
    replace hC1 : (cutL l (p) (p + 2)).length ≤ _ := hC1
    have R1 := Aside0.mk (show Kd.C (Kd.int .u8) w A1 (cutL l (p) (p + 2)).length (cutL l (p) (p + 2)) from Kd.C_of_reads (h1 := fun _ => rfl) (hA1 _ (Kd.reads_of_C R0.out)))
    clear hA1
    have rg := leN_range (cutL l p (p + 2)) (cutL_range HR.out _ _)
    have l1 : (cutL l p (p + 2)).length = 2 := by rw [cutL_length l _ _ (by omega)]; omega
    rw [l1] at rg
    have hN : leN (cutL l p (p + 2)) = (recN l p : Int) := by unfold recN; omega
    rw [hN] at rg
    have N1 := Aside0.mk (number_f (cutL l p (p + 2)) 3000000 (by omega) (cutL_range HR.out _ _) (by omega))
    rw [hN] at N1
    have hrec : recOf l p = ⟨leN (cutL l (p + 2) (p + 10)), cutL l (p + 10) (p + 10 + recN l p)⟩ := rfl
    have hok : recOk l p = (decide (p + 14 ≤ l.length) && (decide (recN l p ≤ 1000) && (decide (p + 14 + recN l p ≤ l.length) && decide (recB (recOf l p).f0 (recOf l p).f1 = cutL l p (p + 14 + recN l p))))) := rfl
    rw [hok, hrec] at hlog
    clear hok hrec hN l1
    generalize recN l p = n at hlog N1 rg
    generalize cutL l p (p + 2) = g1 at *
    have hn : n < 65536 := by have := rg.2; omega
    clear rg
    have W2 := Aside0.mk (show wrap64 ((p : Int) + 2) = (p : Int) + 2 ∧ wrap64 (n : Int) = (n : Int) ∧ wrap64 ((p : Int) + 14 + (n : Int)) = (p : Int) + 14 + (n : Int) from ⟨wrap_nat _ (by omega) (by omega), wrap_nat _ (by omega) (by omega), wrap_nat _ (by omega) (by omega)⟩)
    have HC1 := Aside0.mk hC1
    by_cases q2 : n ≤ 1000
    case neg =>
      have c2 : decide (1000 < (n : Int)) = true := decide_eq_true (by omega)
      rw [if_neg (by simp [q2])] at hlog
      obtain ⟨rfl, rfl⟩ := Prod.mk.inj hlog
      clear hp hol hpk hl2 q1 q2 hn hC1 hi0 hsz0 hlog
      have hw14 := W14.out
      have ⟨hw2, hcn, hw3⟩ := W2.out
      go_wp2_with fail
      refine (spec_l2number.calls 3000000 A1 _ g1 (n : Int) _ (Kd.C_below R1.out HB.out) HC1.out N1.out).mono ?_
      rintro e w1 ⟨rfl, hb⟩
      go_wp2_with fail
      refine bodyPost_ret (v := .tuple #[.slice O out.length co, .int .i64 (p : Int)]) ?_ rfl ?_
      · simp [results, Try.results34, go_sem]
      · exact ⟨_, rfl, Kd.S_below HS.out hb, below_step HB.out hb⟩
    have c2 : decide (1000 < (n : Int)) = false := decide_eq_false (by omega)
    by_cases q3 : p + 14 + n ≤ l.length
    case neg =>
      have c3 : decide ((l.length : Int) < (p : Int) + 14 + (n : Int)) = true := decide_eq_true (by omega)
      rw [if_neg (by simp [q3])] at hlog
      obtain ⟨rfl, rfl⟩ := Prod.mk.inj hlog
      clear hp hol hpk hl2 q1 q2 q3 hn hC1 hi0 hsz0 hlog
      have hw14 := W14.out
      have ⟨hw2, hcn, hw3⟩ := W2.out
      go_wp2_with fail
      refine (spec_l2number.calls 3000000 A1 _ g1 (n : Int) _ (Kd.C_below R1.out HB.out) HC1.out N1.out).mono ?_
      rintro e w1 ⟨rfl, hb⟩
      go_wp2_with fail
      refine bodyPost_ret (v := .tuple #[.slice O out.length co, .int .i64 (p : Int)]) ?_ rfl ?_
      · simp [results, Try.results34, go_sem]
      · exact ⟨_, rfl, Kd.S_below HS.out hb, below_step HB.out hb⟩
    have c3 : decide ((l.length : Int) < (p : Int) + 14 + (n : Int)) = false := decide_eq_false (by omega)
    obtain ⟨A2, hcut2, hA2, hC2⟩ := print_mid_of (P := Try.prog) (Value.int .u8) 0 22 5 .i64 .i64 Try.underlying22 hi0 hsz0 A c l ((p : Int) + 2) ((p : Int) + 10) (by omega) (by omega) (by omega) HC.out
    rw [show (((p : Int) + 2) : Int).toNat = p + 2 by omega, show (((p : Int) + 10) : Int).toNat = p + 10 by omega] at hA2 hcut2 hC2
    replace hcut2 : ∀ W : World, Sem.run Try.prog (Instr.slice 22 (.slice A l.length c) (some (.int .i64 ((p : Int) + 2))) (some (.int .i64 ((p : Int) + 10))) none) W = Result.ok (.slice A2 (cutL l (p + 2) (p + 10)).length _) W := hcut2
    replace hC2 : (cutL l (p + 2) (p + 10)).length ≤ _ := hC2
    have R2 := Aside0.mk (show Kd.C (Kd.int .u8) w A2 (cutL l (p + 2) (p + 10)).length (cutL l (p + 2) (p + 10)) from Kd.C_of_reads (h1 := fun _ => rfl) (hA2 _ (Kd.reads_of_C R0.out)))
    clear hA2
    obtain ⟨A3, hcut3, hA3, hC3⟩ := print_mid_of (P := Try.prog) (Value.int .u8) 0 22 5 .i64 .i64 Try.underlying22 hi0 hsz0 A c l ((p : Int) + 10) ((p : Int) + 10 + (n : Int)) (by omega) (by omega) (by omega) HC.out
    rw [show (((p : Int) + 10) : Int).toNat = p + 10 by omega, show (((p : Int) + 10 + (n : Int)) : Int).toNat = p + 10 + n by omega] at hA3 hcut3 hC3
    replace hcut3 : ∀ W : World, Sem.run Try.prog (Instr.slice 22 (.slice A l.length c) (some (.int .i64 ((p : Int) + 10))) (some (.int .i64 ((p : Int) + 10 + (n : Int)))) none) W = Result.ok (.slice A3 (cutL l (p + 10) (p + 10 + n)).length _) W := hcut3
    replace hC3 : (cutL l (p + 10) (p + 10 + n)).length ≤ _ := hC3
    have R3 := Aside0.mk (show Kd.C (Kd.int .u8) w A3 (cutL l (p + 10) (p + 10 + n)).length (cutL l (p + 10) (p + 10 + n)) from Kd.C_of_reads (h1 := fun _ => rfl) (hA3 _ (Kd.reads_of_C R0.out)))
    clear hA3
    obtain ⟨A4, hcut4, hA4, hC4⟩ := print_mid_of (P := Try.prog) (Value.int .u8) 0 22 5 .i64 .i64 Try.underlying22 hi0 hsz0 A c l (p : Int) ((p : Int) + 14 + (n : Int)) (by omega) (by omega) (by omega) HC.out
    rw [show ((p : Int) : Int).toNat = p by omega, show (((p : Int) + 14 + (n : Int)) : Int).toNat = p + 14 + n by omega] at hA4 hcut4 hC4
    replace hcut4 : ∀ W : World, Sem.run Try.prog (Instr.slice 22 (.slice A l.length c) (some (.int .i64 (p : Int))) (some (.int .i64 ((p : Int) + 14 + (n : Int)))) none) W = Result.ok (.slice A4 (cutL l (p) (p + 14 + n)).length _) W := hcut4
    replace hC4 : (cutL l (p) (p + 14 + n)).length ≤ _ := hC4
    have R4 := Aside0.mk (show Kd.C (Kd.int .u8) w A4 (cutL l (p) (p + 14 + n)).length (cutL l (p) (p + 14 + n)) from Kd.C_of_reads (h1 := fun _ => rfl) (hA4 _ (Kd.reads_of_C R0.out)))
    clear hA4
    have l2 : (cutL l (p + 2) (p + 10)).length = 8 := by rw [cutL_length l _ _ (by omega)]; omega
    have N2 := Aside0.mk (number_f (cutL l (p + 2) (p + 10)) 3000000 (by omega) (cutL_range HR.out _ _) (by omega))
    have rs := leN_range (cutL l (p + 2) (p + 10)) (cutL_range HR.out _ _)
    rw [l2] at rs
    have RS := Aside0.mk (show 0 ≤ leN (cutL l (p + 2) (p + 10)) ∧ leN (cutL l (p + 2) (p + 10)) < 18446744073709551616 from ⟨rs.1, by have := rs.2; omega⟩)
    have l3 : (cutL l (p + 10) (p + 10 + n)).length = n := by rw [cutL_length l _ _ (by omega)]; omega
    have K3 := Aside0.mk (spec_l1copy_f (cutL l (p + 10) (p + 10 + n)) (by omega))
    have E3 := Aside0.mk (spec_rec_f (leN (cutL l (p + 2) (p + 10))) (cutL l (p + 10) (p + 10 + n)) RS.out.1 RS.out.2 (cutL_range HR.out _ _) 3000000 (by omega))
    have B3 := Aside0.mk (show Lib.bytesOf (recB (leN (cutL l (p + 2) (p + 10))) (cutL l (p + 10) (p + 10 + n))) = Lib.bytesOf (cutL l p (p + 14 + n)) → recB (leN (cutL l (p + 2) (p + 10))) (cutL l (p + 10) (p + 10 + n)) = cutL l p (p + 14 + n) from bytesOf_inj (recB_range _ _ (cutL_range HR.out _ _)) (cutL_range HR.out _ _))
    have hlog2 : (if (decide (recB (leN (cutL l (p + 2) (p + 10))) (cutL l (p + 10) (p + 10 + n)) = cutL l p (p + 14 + n)) && goesOn out ⟨leN (cutL l (p + 2) (p + 10)), cutL l (p + 10) (p + 10 + n)⟩) = true then logL k1 l (p + (14 + n)) (out ++ [⟨leN (cutL l (p + 2) (p + 10)), cutL l (p + 10) (p + 10 + n)⟩]) else (out, p)) = (ro, rp) := by
      rw [decide_eq_true q1, decide_eq_true q2, decide_eq_true q3, Bool.true_and, Bool.true_and, Bool.true_and] at hlog
      exact hlog
    have L3 := Aside0.mk l3
    have W4 := Aside0.mk (show wrap64 ((p : Int) + 10) = (p : Int) + 10 ∧ wrap64 ((p : Int) + 10 + (n : Int)) = (p : Int) + 10 + (n : Int) from ⟨wrap_nat _ (by omega) (by omega), wrap_nat _ (by omega) (by omega)⟩)
    have W5 := Aside0.mk (show wrap64 (14 + (n : Int)) = 14 + (n : Int) ∧ wrap64 ((p : Int) + (14 + (n : Int))) = ((p + (14 + n) : Nat) : Int) from ⟨wrap_nat _ (by omega) (by omega), by rw [wrap_nat _ (by omega) (by omega)]; omega⟩)
    have HC2 := Aside0.mk hC2
    have HC3 := Aside0.mk hC3
    have HC4 := Aside0.mk hC4
    have NX := Aside0.mk (show p + (14 + n) ≤ l.length ∧ 14 * (out.length + 1) ≤ p + (14 + n) ∧ l.length + 1 ≤ p + (14 + n) + k1 ∧ (out.length + 1) * 32 ≤ 140737488355328 from ⟨by omega, by omega, by omega, by omega⟩)
    clear hlog l2 l3 rs q1 q2 q3 hp hol hpk hl2 hn hC1 hC2 hC3 hC4 hi0 hsz0
    generalize leN (cutL l (p + 2) (p + 10)) = s at *
    generalize cutL l (p + 2) (p + 10) = g2 at *
    generalize cutL l (p + 10) (p + 10 + n) = g3 at *
    generalize cutL l p (p + 14 + n) = g4 at *
    generalize recB s g3 = t at *
    have HLG := Aside0.mk hlog2
    clear hlog2
    have hw14 := W14.out
    have ⟨hw2, hcn, hw3⟩ := W2.out
    go_wp2_with fail
    refine (spec_l2number.calls 3000000 A1 _ g1 (n : Int) _ (Kd.C_below R1.out HB.out) HC1.out N1.out).mono ?_
    rintro e w1 ⟨rfl, hb⟩
    have HB1 := Aside0.mk (below_step HB.out hb)
    have HS2 := Aside0.mk (Kd.S_mono (Kd.S_bound (Kd.S_below HS.out hb)) (ok' := fun k => k < w1.heap.size) (fun k hk => hk.2.2.1))
    clear hb HB HS
    go_wp2_with fail
    have ⟨hw10, hw4⟩ := W4.out
    have hw2w := (i64_w _).trans hw2
    have hw10w := (i64_w _).trans hw10
    have hw4w := (i64_w _).trans hw4
    (try simp only [hw14, hw2, hcn, hw3])
    go_cut [7] from 32 to 48 (fun v7 wx => ∃ (g : Nat) (B : Option Addr) (d : Nat), v7 = .pointer (some ⟨g, 0, none⟩) ∧ w1.heap.size ≤ g ∧ wx.heap[g]? = some (.cells #[.int .u64 s, .slice B g3.length d] 45 (0, 0)) ∧ Kd.R (Kd.int .u8) 5 wx w1.heap.size (fun _ => True) (.slice B g3.length d) g3 ∧ Below w1.heap.size w1 wx)
    case first =>
      go_region_held3 (fun w' => True) (trivial) (first | (go_at_call 67; refine (spec_l2number.calls 3000000 A2 _ g2 s _ (Kd.C_below R2.out (by repeat (first | exact HBc.out | exact HBn.out | exact HB1.out | apply below_drew1 | apply below_alloc))) HC2.out N2.out).mono ?_; rintro e wn ⟨rfl, hb⟩; have HBn := Aside0.mk (show Below w.heap.size w wn from below_step (by repeat (first | exact HBc.out | exact HBn.out | exact HB1.out | apply below_drew1 | apply below_alloc)) hb); have HBn1 := Aside0.mk (show Below w1.heap.size w1 wn from below_step (by repeat (first | exact HBc1.out | exact HBn1.out | exact Below.refl _ _ | apply below_drew1 | apply below_alloc)) hb); have HN_ := Aside0.mk hb; (first | (have HX := Aside0.mk (blk_below HX.out hb)) | (have HX := Aside0.mk (blk_below (blk_new _ _) hb)) | (have HX := Aside0.mk (blk_below (blk_drew (blk_new _ _)) hb)) | skip); (try (have xz0 := blk_cell HX.out 0; have xz1 := blk_cell HX.out 1; simp only [List.getElem?_toArray, List.getElem?_cons_zero, List.getElem?_cons_succ] at xz0 xz1; have xf0 := blk_frozen HX.out 0; have xf1 := blk_frozen HX.out 1)); clear hb) | (go_at_call 68; refine (spec_l1copy.calls A3 _ g3 g3 _ (Kd.C_below R3.out (by repeat (first | exact HBc.out | exact HBn.out | exact HB1.out | apply below_drew1 | apply below_alloc))) HC3.out K3.out).mono ?_; rintro e wc2 ⟨v, rfl, ho, hb⟩; obtain ⟨B, d, rfl⟩ := Kd.R_slice ho; have HBc := Aside0.mk (show Below w.heap.size w wc2 from below_step (by repeat (first | exact HBc.out | exact HBn.out | exact HB1.out | apply below_drew1 | apply below_alloc)) hb); have HBc1 := Aside0.mk (show Below w1.heap.size w1 wc2 from below_step (by repeat (first | exact HBc1.out | exact HBn1.out | exact Below.refl _ _ | apply below_drew1 | apply below_alloc)) hb); have HO := Aside0.mk (Kd.R_lower ho (base' := w1.heap.size) (below_size (by repeat (first | exact HBc1.out | exact HBn1.out | exact Below.refl _ _ | apply below_drew1 | apply below_alloc)))); have HC_ := Aside0.mk hb; (first | (have HX := Aside0.mk (blk_below HX.out hb)) | (have HX := Aside0.mk (blk_below (blk_new _ _) hb)) | (have HX := Aside0.mk (blk_below (blk_drew (blk_new _ _)) hb)) | skip); (try (have xz0 := blk_cell HX.out 0; have xz1 := blk_cell HX.out 1; simp only [List.getElem?_toArray, List.getElem?_cons_zero, List.getElem?_cons_succ] at xz0 xz1; have xf0 := blk_frozen HX.out 0; have xf1 := blk_frozen HX.out 1)); clear ho hb))
      all_goals
        go_wp2_with fail
        go_meet
        refine ⟨_, B, d, rfl, ?_, ?_, ?_, ?_⟩
        · first | exact HBc1.out.size | exact HBn1.out.size | exact Nat.le_refl _
        · first | exact blk_new _ _ | exact blk_put (cs := #[.int .u64 s, .slice none 0 0]) (cs' := #[.int .u64 s, .slice B g3.length d]) (blk_put (cs := #[.int .u64 0, .slice none 0 0]) (cs' := #[.int .u64 s, .slice none 0 0]) HX.out 0 _ rfl) 1 _ rfl
        · first | exact Kd.R_alloc HO.out _ | exact Kd.R_set (Kd.R_set HO.out HX.out (by decide) 0 _) (blk_put (cs := #[.int .u64 0, .slice none 0 0]) (cs' := #[.int .u64 s, .slice none 0 0]) HX.out 0 _ rfl) (by decide) 1 _
        · first | exact below_alloc HBc1.out _ | exact below_set (below_set HBc1.out HBn1.out.size) HBn1.out.size | exact below_set (below_set HBc1.out (Nat.le_refl _)) (Nat.le_refl _)
    case rest =>
      obtain ⟨g, B, d, rfl, hg, hX, hR, hb1⟩ := hcut
      have SZ := Aside0.mk HB1.out.size
      obtain ⟨w3, rfl⟩ : ∃ x, x = wc := ⟨wc, rfl⟩
      have HB3 := Aside0.mk (below_step HB1.out hb1)
      have HS3 := Aside0.mk (Kd.S_below HS2.out hb1)
      have HX3 := Aside0.mk hX
      have HR3 := Aside0.mk hR
      have HG := Aside0.mk hg
      have z0 := blk_cell hX 0
      have z1 := blk_cell hX 1
      simp only [List.getElem?_toArray, List.getElem?_cons_zero, List.getElem?_cons_succ] at z0 z1
      clear hX hR hg hb1 HB1 HS2 hw2w hw10w hw4w
      have hw14w := (i64_w _).trans hw14
      have hw3w := (i64_w _).trans hw3
      have hbq : ((strOfNums t).toList == (strOfNums g4).toList) = decide (t = g4) := by
        rw [Lib.strOfNums_toList, Lib.strOfNums_toList]
        by_cases e : t = g4
        · subst e
          simp
        · rw [decide_eq_false e]
          exact beq_eq_false_iff_ne.2 (fun h => e (B3.out h))
      have hbn : ((strOfNums t).toList != (strOfNums g4).toList) = !decide (t = g4) := by rw [bne, hbq]
      go_upto_region 7 with fail
      (try simp only [hw14, hw2, hcn, hw3])
      go_cut [60] from 49 to 60 (fun v60 wx => v60 = .bool (!decide (t = g4)) ∧ Below w3.heap.size w3 wx)
      case first =>
        have hcv0 := Kd.C_string (P := Try.prog) (c := c - p) Try.underlying22 Try.underlying5 Try.underlying9 (Kd.C_drew (Kd.C_below R4.out HB3.out))
        go_region_with (first | (go_at_call 27; refine (spec_EncodeRecord.calls 3000000 s B d g3 t _ (by repeat (first | exact (Kd.R_reads' HR3.out).2.2 | refine Kd.C_drew ?_)) (Kd.R_reads' HR3.out).2.1 E3.out).mono ?_; rintro e w4 ⟨v3, rfl, ho3, hb3⟩; obtain ⟨T, tc, rfl⟩ := Kd.R_slice ho3; have hb4 : Below w3.heap.size w3 w4 := (by first | exact hb3 | exact (below_drew1 (Below.refl w3.heap.size w3)).trans hb3); have HB4 := Aside0.mk hb4; have hcv := Kd.C_string (P := Try.prog) (c := tc) Try.underlying22 Try.underlying5 Try.underlying9 (Kd.R_reads' ho3).2.2; have hcv3 := Kd.C_string (P := Try.prog) (c := c - p) Try.underlying22 Try.underlying5 Try.underlying9 (Kd.C_below R4.out (below_step HB3.out hb4)); have HX4 := Aside0.mk (blk_below HX3.out hb4); have y0 := blk_cell HX4.out 0; have y1 := blk_cell HX4.out 1; simp only [List.getElem?_toArray, List.getElem?_cons_zero, List.getElem?_cons_succ] at y0 y1; clear ho3 hb3 hb4))
        all_goals
          go_wp2_with fail
          go_meet
          refine ⟨by first | rfl | (rw [hbn]) | (simp only [hbq, hbn, bne]), HB4.out⟩
      case rest =>
        obtain ⟨rfl, hb5⟩ := hcut
        obtain ⟨w5, rfl⟩ : ∃ x, x = wc := ⟨wc, rfl⟩
        have HB5 := Aside0.mk (below_step HB3.out hb5)
        have HS5 := Aside0.mk (Kd.S_below HS3.out hb5)
        have HX5 := Aside0.mk (blk_below HX3.out hb5)
        have HR5 := Aside0.mk (Kd.R_below HR3.out hb5)
        clear hb5 HB3 HS3 HX3 HR3 z0 z1
        have z0 := blk_cell HX5.out 0
        have z1 := blk_cell HX5.out 1
        simp only [List.getElem?_toArray, List.getElem?_cons_zero, List.getElem?_cons_succ] at z0 z1
        have ⟨hv5, hv6⟩ := W5.out
        by_cases ht : t = g4
        case neg =>
          have ht' : decide (t = g4) = false := decide_eq_false ht
          have hlg := HLG.out
          rw [ht', Bool.false_and, if_neg (by decide)] at hlg
          obtain ⟨rfl, rfl⟩ := Prod.mk.inj hlg
          rw [ht']
          clear ht ht' hbq hbn HLG hlg
          go_wp2_with fail
          refine bodyPost_ret (v := .tuple #[.slice O out.length co, .int .i64 (p : Int)]) ?_ rfl ?_
          · simp [results, Try.results34, go_sem]
          · exact ⟨_, rfl, Kd.S_mono HS5.out (fun _ _ => trivial), HB5.out⟩
        have ht' : decide (t = g4) = true := decide_eq_true ht
        have hlg := HLG.out
        rw [ht', Bool.true_and] at hlg
        rw [ht']
        clear ht ht' hbq hbn HLG
        by_cases he : out = []
        case pos =>
          have hgo : goesOn out ⟨s, g3⟩ = true := by rw [he]; rfl
          rw [hgo, if_pos rfl] at hlg
          have HL6 := Aside0.mk hlg
          have c5 : decide ((0 : Int) < (out.length : Int)) = false := by rw [he]; rfl
          have c8 : decide (0 < out.length) = false := by rw [he]; rfl
          clear he hgo
          clear hlg
          go_wp2_with ((with_reducible refine gate_builtin (b := .append) (xs := #[.tmp 80, .tmp 82]) rfl ?_); at_builtin; refine Kd.S_append k45 (w0 := w) w.heap.size rfl (.tmp 80) (.tmp 82) 53 45 (.agg #[(.int .u64 0), (.slice none 0 0)]) 32 rfl Try.underlying53 info45 rfl (by decide) (by omega) (.slice O out.length co) out (⟨s, g3⟩ : S45) [.int .u64 s, .slice B g3.length d] (fun _ => True) (fun k => some k = (Value.slice B g3.length d).ownBlock) ?eS ?eX ?aP ?aK (fun _ _ => trivial) ?aO HB5.out HB5.out.size NX.out.2.2.2 ?_; (case eS => first | rfl | simp [Act.eval, Act.put]); (case eX => first | rfl | simp [Act.eval, Act.put]); (case aP => exact k45_mkM _ _ _ (⟨s, g3⟩ : S45) (Kd.R_tight rfl (Kd.R_lower HR5.out SZ.out))); (case aK => exact fun k hk => ⟨trivial, fun e => Nat.lt_irrefl _ (Nat.lt_of_lt_of_le ((Kd.S_R HS5.out).1 k e.symm) (Kd.R_base HR5.out k hk.symm))⟩); (case aO => exact Kd.S_mono HS5.out (fun k hk => ⟨trivial, fun e => Nat.lt_irrefl _ (Nat.lt_of_lt_of_le hk (Kd.R_base HR5.out k e.symm))⟩)); intro v1 w6 ho hb hg_ hat_; have HO6 := Aside0.mk ho; have HB6 := Aside0.mk hb; clear ho hb hg_ hat_)
          clear hw14 hw2 hcn hw3 hw10 hw4 hw14w hw3w hv5 hv6
          go_roundg k1
          case measure => omega
          case rel =>
            refine ⟨p + (14 + n), out ++ [⟨s, g3⟩], (by first | exact congrArg (Value.int .i64) W5.out.2 | exact congrArg (Value.int .i64) (by push_cast; rfl)), ⟨HL6.out⟩, ⟨NX.out.1, by simp only [List.length_append, List.length_singleton]; exact NX.out.2.1, NX.out.2.2.1, ?_⟩, HO6, HB6⟩
            intro x hx
            rcases List.mem_append.1 hx with hx | hx
            · exact HN.out.2.2.2 x hx
            · rw [List.mem_singleton.1 hx]
              exact RS.out
        obtain ⟨m, hm⟩ : ∃ m, out.length = m + 1 := ⟨out.length - 1, by have : out.length ≠ 0 := fun h => he (List.length_eq_zero_iff.1 h); clear hw14 hw2 hcn hw3 hw10 hw4 hw14w hw3w hv5 hv6; omega⟩
        rw [goesOn_last hm] at hlg
        have hmm : m < out.length := by rw [hm]; exact Nat.lt_succ_self m
        have hmem : out.getD m z45 ∈ out := by
          rw [List.getD_eq_getElem?_getD, List.getElem?_eq_getElem hmm]
          exact List.getElem_mem hmm
        have hyr := HN.out.2.2.2 _ hmem
        obtain ⟨gO, capO, eA, gb, gl, _⟩ := Kd.S_form HS5.out (by clear hw14 hw2 hcn hw3 hw10 hw4 hw14w hw3w hv5 hv6; omega)
        injection eA with eA _ eC
        subst eA
        subst eC
        obtain ⟨oki, cc, hcl, hM, hcc, hfr, hoki, hH⟩ := Kd.S_elem HS5.out z45 (m : Int) (Int.natCast_nonneg m) (by clear hw14 hw2 hcn hw3 hw10 hw4 hw14w hw3w hv5 hv6; omega)
        rw [Int.toNat_natCast] at hM
        obtain ⟨vl, rfl, _⟩ := k45_openM hM
        have x0 := hcc 0 _ rfl
        rw [show (m : Int).toNat * k45.sz + 0 = m * 2 by rw [Int.toNat_natCast]; rfl] at x0
        have c5 : decide ((0 : Int) < (out.length : Int)) = true := decide_eq_true (by clear hw14 hw2 hcn hw3 hw10 hw4 hw14w hw3w hv5 hv6; omega)
        have c8 : decide (0 < out.length) = true := decide_eq_true (by clear hw14 hw2 hcn hw3 hw10 hw4 hw14w hw3w hv5 hv6; omega)
        have c6 : decide ((m : Int) < (out.length : Int)) = true := decide_eq_true (by clear hw14 hw2 hcn hw3 hw10 hw4 hw14w hw3w hv5 hv6; omega)
        have c7 : decide (m < out.length) = true := decide_eq_true hmm
        have hwl : wrap64 ((out.length : Int) - 1) = (m : Int) := by
          clear hw14 hw2 hcn hw3 hw10 hw4 hw14w hw3w hv5 hv6
          have := NX.out.2.2.2
          rw [wrap_nat _ (by omega) (by omega)]
          omega
        clear hcl hM hcc hfr hoki hH hmem gb gl he
        generalize (out.getD m z45).f0 = y at *
        have HYR := Aside0.mk hyr
        have HM := Aside0.mk hm
        clear hyr hm
        by_cases hy : y = 18446744073709551615
        · have hy1 : (y == 18446744073709551615) = true := beq_iff_eq.mpr hy
          rw [decide_eq_true hy, Bool.not_true, Bool.false_and, if_neg (by decide)] at hlg
          obtain ⟨rfl, rfl⟩ := Prod.mk.inj hlg
          clear hy hlg
          go_wp2_with fail
          refine bodyPost_ret (v := .tuple #[.slice (some ⟨gO, 0, none⟩) out.length co, .int .i64 (p : Int)]) ?_ rfl ?_
          · simp [results, Try.results34, go_sem]
          · exact ⟨_, rfl, Kd.S_mono HS5.out (fun _ _ => trivial), HB5.out⟩
        · have hy1 : (y == 18446744073709551615) = false := beq_eq_false_iff_ne.mpr hy
          have cu : IntKind.u64.wrap (y + 1) = y + 1 := u64_of _ (by have := HYR.out.1; clear hw14 hw2 hcn hw3 hw10 hw4 hw14w hw3w hv5 hv6 hwl; omega) (by have := HYR.out.2; clear hw14 hw2 hcn hw3 hw10 hw4 hw14w hw3w hv5 hv6 hwl; omega)
          rw [decide_eq_false hy, Bool.not_false, Bool.true_and] at hlg
          clear hy
          by_cases hs : s = y + 1
          · have hs1 : (s == y + 1) = true := beq_iff_eq.mpr hs
            have hs2 : (s != y + 1) = false := bne_eq_false_iff_eq.mpr hs
            rw [if_pos (decide_eq_true hs)] at hlg
            have HL6 := Aside0.mk hlg
            clear hs hlg
            go_wp2_with ((with_reducible refine gate_builtin (b := .append) (xs := #[.tmp 80, .tmp 82]) rfl ?_); at_builtin; refine Kd.S_append k45 (w0 := w) w.heap.size rfl (.tmp 80) (.tmp 82) 53 45 (.agg #[(.int .u64 0), (.slice none 0 0)]) 32 rfl Try.underlying53 info45 rfl (by decide) (by omega) (.slice (some ⟨gO, 0, none⟩) out.length co) out (⟨s, g3⟩ : S45) [.int .u64 s, .slice B g3.length d] (fun _ => True) (fun k => some k = (Value.slice B g3.length d).ownBlock) ?eS ?eX ?aP ?aK (fun _ _ => trivial) ?aO HB5.out HB5.out.size NX.out.2.2.2 ?_; (case eS => first | rfl | simp [Act.eval, Act.put]); (case eX => first | rfl | simp [Act.eval, Act.put]); (case aP => exact k45_mkM _ _ _ (⟨s, g3⟩ : S45) (Kd.R_tight rfl (Kd.R_lower HR5.out SZ.out))); (case aK => exact fun k hk => ⟨trivial, fun e => Nat.lt_irrefl _ (Nat.lt_of_lt_of_le ((Kd.S_R HS5.out).1 k e.symm) (Kd.R_base HR5.out k hk.symm))⟩); (case aO => exact Kd.S_mono HS5.out (fun k hk => ⟨trivial, fun e => Nat.lt_irrefl _ (Nat.lt_of_lt_of_le hk (Kd.R_base HR5.out k e.symm))⟩)); intro v1 w6 ho hb hg_ hat_; have HO6 := Aside0.mk ho; have HB6 := Aside0.mk hb; clear ho hb hg_ hat_)
            clear hw14 hw2 hcn hw3 hw10 hw4 hw14w hw3w hv5 hv6
            go_roundg k1
            case measure => omega
            case rel =>
              refine ⟨p + (14 + n), out ++ [⟨s, g3⟩], (by first | exact congrArg (Value.int .i64) W5.out.2 | exact congrArg (Value.int .i64) (by push_cast; rfl)), ⟨HL6.out⟩, ⟨NX.out.1, by simp only [List.length_append, List.length_singleton]; exact NX.out.2.1, NX.out.2.2.1, ?_⟩, HO6, HB6⟩
              intro x hx
              rcases List.mem_append.1 hx with hx | hx
              · exact HN.out.2.2.2 x hx
              · rw [List.mem_singleton.1 hx]
                exact RS.out
          · have hs1 : (s == y + 1) = false := beq_eq_false_iff_ne.mpr hs
            have hs2 : (s != y + 1) = true := bne_iff_ne.mpr hs
            rw [if_neg (by simp [hs])] at hlg
            obtain ⟨rfl, rfl⟩ := Prod.mk.inj hlg
            clear hs hlg
            go_wp2_with fail
            refine bodyPost_ret (v := .tuple #[.slice (some ⟨gO, 0, none⟩) out.length co, .int .i64 (p : Int)]) ?_ rfl ?_
            · simp [results, Try.results34, go_sem]
            · exact ⟨_, rfl, Kd.S_mono HS5.out (fun _ _ => trivial), HB5.out⟩
end Go.Proofs.Ytbapokpkgonjkaa.Print
namespace Go.Proofs.Ytbapokpkgonjkaa.Print
open Go Go.RowKit
set_option linter.unusedVariables false
variable {F : Fence} {n : Nat} {P : Program}
def Between (b : Nat) (A B : World) : Prop := (∃ row, A.grownBy B row ∧ ∀ r, row = some r → r = b) ∧ ∀ (cs : Array Value) (t : TypeId) (fr : Nat × Nat), A.heap[b]? = some (.cells cs t fr) → ∃ cs', B.heap[b]? = some (.cells cs' t fr)
def Stays {β : Type} (b : Nat) (J : β → World → Prop) : Prop := ∀ s A B, J s A → Between b A B → J s B
def CellsAt (b : Nat) (W : World) : Prop := ∃ o : Obj, W.heap[b]? = some o ∧ o.isCells = true
theorem Between.others {b : Nat} {A B : World} (h : Between b A B) (hc : CellsAt b A) : KeepsOthers A B := by
  obtain ⟨⟨row, hg, hr⟩, _⟩ := h
  refine KeepsOthers.of_grownBy hg (fun j o hj ho => ?_)
  obtain ⟨o', ho', hc'⟩ := hc
  rw [hr j hj, ho'] at ho
  cases ho
  exact hc'
theorem rangeFunc_boxed {α : Type} {g : Operand} {ps : Array Tmp} {assign body : Code} {Q : Exit → Act → World → Prop} {a : Act} {w : World}
    (hro : F.round = none) (h1 : 1 ≤ n) {gf : Nat} {lb : Array Value} (hg : a.eval g = .func (.func gf) #[] lb) (hFg : F.fn gf) (eg : ∀ args w, (callFunc gf args).run P w = .ok (.enter gf args) w)
    {encs : α → Array Value} (b : Nat) (Kp : World → World → Prop) (ok : List α → α → World → World → Prop) (S Sp : List α → Prop) (hps : ∀ x, (encs x).size = ps.size) (hbw : b < w.heap.size)
    (hKt : ∀ {A B C : World}, Kp A B → Kp B C → Kp A C) (hKb : ∀ (W : World) (l : Nat) (o' : Obj), w.heap.size ≤ l → l < W.heap.size → Kp W (W.putObj l o'))
    (I Ix : List α → World → Prop) (hI : OwnFrom w.heap.size I) (hIx : OwnFrom w.heap.size Ix) (hIs : Stays b I) (hIxs : Stays b Ix) (hIc : ∀ s W, I s W → CellsAt b W) (hIxc : ∀ s W, Ix s W → CellsAt b W) (h0 : I [] w)
    (hseq : ∀ (l : Nat) (J Jx : List α → World → Prop) (W : World), Below w.heap.size w W → Stays b J → Stays b Jx →
      (∀ pre x Wi W1, J pre Wi → Between b Wi W1 → ok pre x Wi W1 → YieldAt F (n - 1 - 1) P l (encs x) W1 fun e W' => (e = .returned (.bool true) ∧ J (pre ++ [x]) W' ∧ Kp W1 W') ∨ (e = .returned (.bool false) ∧ Jx (pre ++ [x]) W')) →
      J [] W → CallsIn F (n - 1) P gf (#[.func (.yield l) #[] #[]] ++ lb) W fun e W' => (∃ v, e = .returned v) ∧ ((∃ xs, S xs ∧ J xs W') ∨ (∃ pre, Sp pre ∧ Jx pre W')))
    (Ax : List α → α → Act → World → Prop) (hAx : ∀ pre x a', OwnFrom w.heap.size (fun (_ : Unit) W => Ax pre x a' W)) (xid : Nat)
    (hassign : ∀ (l : Nat) (pre : List α) (x : α) (Wi W : World) (K : Act → World → Prop), I pre Wi → Between b Wi W → I pre W → ok pre x Wi W → (∀ a' W', KeepsOthers W W' → Kp W W' → Ax pre x a' W' → K a' W') →
      assign.wpIn (F.inRound l) (n - 1 - 1) P (Exit.then K (fun _ _ _ => False)) { tmps := (ps.zip (encs x)).foldl (fun t (p, v) => t.setIfInBounds p v) a.tmps, defers := [] } W)
    (hbody : ∀ (l : Nat) (pre : List α) (x : α) (a' : Act) (W : World), Ax pre x a' W → body.wpIn (F.inRound l) (n - 1 - 1) P (fun e _ W' => KeepsOthers W W' ∧ ((e = .normal ∧ Kp W W' ∧ I (pre ++ [x]) W') ∨ (e = .exit xid ∧ Ix (pre ++ [x]) W'))) a' W)
    (hdone : ∀ (D : Nat) (xs : List α) (W : World), w.heap.size ≤ D → S xs → I xs W → W.heap[D]? = some (.deferred (some [])) → Q .normal { a with defers := { target := .collected D, args := #[] } :: a.defers } W)
    (hstop : ∀ (D : Nat) (pre : List α) (W : World), w.heap.size ≤ D → Sp pre → Ix pre W → W.heap[D]? = some (.deferred (some [])) → (Code.exit xid).wpIn F n P Q { a with defers := { target := .collected D, args := #[] } :: a.defers } W) :
    (Code.rangeFunc g ps assign body).wpIn F n P Q a w := by
  apply wpIn_rangeFunc
  intro fn hfn
  rw [hro]
  have hex : ∃ rec : LoopState → Option Code → Loop, rec = fun st pe => { state := st, pending := pe, fn, tmps := a.tmps, params := ps, assign, body, defers := w.heap.size } := ⟨_, rfl⟩
  obtain ⟨rec, hrec⟩ := hex
  have hpar : ∀ st pe, (rec st pe).params = ps := fun _ _ => by rw [hrec]
  generalize hD : w.heap.size = D at *
  have hex : ∃ V, (w.alloc (.deferred (some []))).alloc (.loop (rec .ready none)) = V := ⟨_, rfl⟩
  obtain ⟨V, hV⟩ := hex
  have hVb : Below D w V := by
    rw [← hV, ← hD]
    exact ((Below.refl _ w).alloc (Nat.le_refl _) _).alloc (by simp) _
  have hVl : V.heap[D + 1]? = some (.loop (rec .ready none)) := by
    rw [← hV, ← hD]
    have := World.alloc_heap_new (w.alloc (.deferred (some []))) (.loop (rec .ready none))
    rwa [World.size_alloc] at this
  have hVd : V.heap[D]? = some (.deferred (some [])) := by
    rw [← hV, ← hD]
    exact (Below.heap_alloc _ _ _ (by simp)).trans (World.alloc_heap_new w _)
  have hVi : I [] V := by
    rw [← hV]
    exact hI.alloc _ (hI.alloc _ h0)
  refine ⟨D + 1, [{ target := .collected D, args := #[] }], V, { target := .fn (.func gf) lb, args := #[.func (.yield (D + 1)) #[] #[]] }, V, gf, #[.func (.yield (D + 1)) #[] #[]] ++ lb, V, ?_, ?_, ?_, ?_, fun _ => h1, ?_⟩
  · have := run_enterLoop_outer (P := P) (w := w) fn a.tmps ps assign body
    rw [← hV, hrec]
    rw [hD] at this
    exact this
  · simp only [resolve, hg]
    simp [go_sem]
  · intro f' hf'
    simp [Target.leads] at hf'
    subst hf'
    exact hFg
  · simp [invoke, go_sem, eg]
  have hlb : ∀ {r : Nat} {A : World}, CellsAt b A → ∀ {o : Obj}, A.heap[r]? = some o → o.isCells = false → r ≠ b := fun hc o ho hn e => by
    obtain ⟨o', ho', hc'⟩ := hc
    rw [e, ho'] at ho
    cases ho
    rw [hn] at hc'
    cases hc'
  refine (hseq (D + 1) (fun s W => I s W ∧ (W.heap[D + 1]? = some (.loop (rec .ready none)) ∧ W.heap[D]? = some (.deferred (some []))))
    (fun s W => Ix s W ∧ (W.heap[D + 1]? = some (.loop (rec .done (some (.exit xid)))) ∧ W.heap[D]? = some (.deferred (some [])))) V hVb
    (fun s A B hs hb => ⟨hIs s A B hs.1 hb, (hb.others (hIc s A hs.1)).same _ _ hs.2.1 rfl, (hb.others (hIc s A hs.1)).same _ _ hs.2.2 rfl⟩)
    (fun s A B hs hb => ⟨hIxs s A B hs.1 hb, (hb.others (hIxc s A hs.1)).same _ _ hs.2.1 rfl, (hb.others (hIxc s A hs.1)).same _ _ hs.2.2 rfl⟩)
    ?_ ⟨hVi, hVl, hVd⟩).mono ?_
  · rintro pre x Wi W ⟨hi0, hl0, hk0⟩ hbt hx
    have hi := hIs _ _ _ hi0 hbt
    have hl := (hbt.others (hIc _ _ hi0)).same _ _ hl0 rfl
    have hk := (hbt.others (hIc _ _ hi0)).same _ _ hk0 rfl
    have hlt : D + 1 < W.heap.size := (Array.getElem?_eq_some_iff.1 hl).1
    have hy := run_yield (P := P) (args := encs x) hl (by rw [hpar]; exact hps x)
    refine ⟨fn, (ps.zip (encs x)).foldl (fun t (p, v) => t.setIfInBounds p v) a.tmps, assign, body, by rw [hrec] at hy; exact hy, ?_⟩
    refine roundIn_of_wpIn hfn (hassign _ pre x Wi W _ hi0 hbt hi hx ?_)
    intro a' W' hko' hkp' hax
    have hl' := hko'.same _ _ hl rfl
    have hk' := hko'.same _ _ hk rfl
    have hlt' : D + 1 < W'.heap.size := (Array.getElem?_eq_some_iff.1 hl').1
    refine ⟨_, run_beginRound hl' (by rw [hrec]), ?_⟩
    generalize hX : W'.putObj (D + 1) (.loop { rec .ready none with state := .busy }) = X
    have hXl : X.heap[D + 1]? = some (.loop { rec .ready none with state := .busy }) := by
      rw [← hX]
      exact World.putObj_heap_same hlt'
    have hXd : X.heap[D]? = some (.deferred (some [])) := by
      rw [← hX]
      exact (World.putObj_heap_other (by omega)).trans hk'
    have hXi : Ax pre x a' X := by
      rw [← hX]
      exact (hAx pre x a').putObj (s := ()) _ hax (by omega) hl' rfl
    have hXk : Kp W X := by
      rw [← hX]
      exact hKt hkp' (hKb _ _ _ (by omega) hlt')
    refine wpIn_mono (hbody _ pre x a' X hXi) ?_
    rintro e a3 Y ⟨hko, hp⟩
    have hYl := hko.same _ _ hXl rfl
    have hYd := hko.same _ _ hXd rfl
    have hYlt : D + 1 < Y.heap.size := (Array.getElem?_eq_some_iff.1 hYl).1
    rcases hp with ⟨rfl, hkp, hin⟩ | ⟨rfl, hin⟩
    · have hr := run_endRound (P := P) none hYl
      rw [hrec] at hr
      refine ⟨_, _, hr, .inl ⟨rfl, ⟨hI.putObj _ hin (by omega) hYl rfl, ?_, ?_⟩, hKt (hKt hXk hkp) (hKb _ _ _ (by omega) hYlt)⟩⟩
      · rw [World.putObj_heap_same hYlt, hrec]
        rfl
      · exact (World.putObj_heap_other (by omega)).trans hYd
    · have hr := run_endRound (P := P) (some (.exit xid)) hYl
      rw [hrec] at hr
      refine ⟨_, _, hr, .inr ⟨rfl, hIx.putObj _ hin (by omega) hYl rfl, ?_, ?_⟩⟩
      · rw [World.putObj_heap_same hYlt, hrec]
        rfl
      · exact (World.putObj_heap_other (by omega)).trans hYd
  · rintro e Y ⟨⟨v, rfl⟩, hp⟩
    rcases hp with ⟨xs, hS, hi, hl, hk⟩ | ⟨pre, hS, hi, hl, hk⟩
    · have hr := run_endLoop (P := P) hl (by rw [hrec]; simp)
      rw [hrec] at hr
      exact ⟨none, _, hr, hdone D xs _ (by omega) hS (hI.putObj _ hi (by omega) hl rfl) ((World.putObj_heap_other (by omega)).trans hk)⟩
    · have hr := run_endLoop (P := P) hl (by rw [hrec]; simp)
      rw [hrec] at hr
      exact ⟨some _, _, hr, hstop D pre _ (by omega) hS (hIx.putObj _ hi (by omega) hl rfl) ((World.putObj_heap_other (by omega)).trans hk)⟩
end Go.Proofs.Ytbapokpkgonjkaa.Print
namespace Go.Proofs.Ytbapokpkgonjkaa.Print
open Go Go.RowKit Go.Proofs.YtbapokpkgonjkaaW.PrintWords Go.Proofs.YtbapokpkgonjkaaW.PrintLast Go.Proofs.YtbapokpkgonjkaaW.PrintMore
set_option linter.unusedVariables false
set_option linter.unusedSimpArgs false
attribute [local go_sem] Oper.semAt_some
def encI (x : S45 × Value) : Array Value := #[.agg #[.int .u64 x.1.f0, x.2], .int .i64 ((14 + x.1.f1.length : Nat) : Int)]
def posOf (xs : List (S45 × Value)) : Nat := (xs.map fun x => 14 + x.1.f1.length).sum
theorem posOf_snoc (xs : List (S45 × Value)) (x : S45 × Value) : posOf (xs ++ [x]) = posOf xs + (14 + x.1.f1.length) := by simp [posOf]
def okI (l : List Int) (pre : List (S45 × Value)) (x : S45 × Value) (Wi W1 : World) : Prop := recOk l (posOf pre) = true ∧ x.1 = recOf l (posOf pre) ∧ Kd.R (Kd.int .u8) 5 W1 Wi.heap.size (fun _ => True) x.2 x.1.f1
def KpI (n₀ Bn : Nat) (W W' : World) : Prop := Below n₀ W W' ∧ W'.heap[Bn]? = W.heap[Bn]?
theorem cutL_drop (l : List Int) (p i j : Nat) : cutL (l.drop p) i j = cutL l (p + i) (p + j) := by
  unfold cutL
  rw [List.take_drop, List.drop_drop]
theorem Between.of_below {b : Nat} {W W' : World} (h : Below W.heap.size W W') : Between b W W' := ⟨⟨none, grown_of_below h none, fun r h => by cases h⟩, fun cs t fr e => ⟨cs, blk_below e h⟩⟩
theorem drawnE {w w' : World} (h : Drawn0 w w') : ∃ m, w' = w.drewN m := by
  obtain ⟨m, h⟩ := h
  exact ⟨m, by first | exact h | exact h.symm⟩
def leftB_ (b : Nat) (W : World) : Nat := match W.cell? ⟨b, 0, none⟩ with
  | some (.slice _ n _) => n
  | _ => 0
set_option maxHeartbeats 2000000 in
set_option maxRecDepth 100000 in
theorem whole1_seq (n : Nat) (w0 : World) (Bn : Nat) (hBn : w0.heap.size ≤ Bn) (A : Option Addr) (c : Nat) (l : List Int) (h0 : Kd.C (Kd.int .u8) w0 A l.length l) (hc : l.length ≤ c) (hr : ∀ x ∈ l, 0 ≤ x ∧ x < 256) (hl2 : l.length ≤ 2097152) (w : World) (hw : Below w0.heap.size w0 w) (hx : w.heap[Bn]? = some (.cells #[.slice A l.length c] 22 (0, 0)))
    (lp : Nat) (J Jx : List (S45 × Value) → World → Prop) (W : World) (hB : Below w.heap.size w W) (hJ : Stays Bn J) (hJx : Stays Bn Jx)
    (hY : ∀ pre x Wi W1, J pre Wi → Between Bn Wi W1 → okI l pre x Wi W1 → YieldAt Fence.wide n Try.prog lp (encI x) W1 fun e W' => (e = .returned (.bool true) ∧ J (pre ++ [x]) W' ∧ KpI w0.heap.size Bn W1 W') ∨ (e = .returned (.bool false) ∧ Jx (pre ++ [x]) W')) (h00 : J [] W) :
    CallsIn Fence.wide (n + 1) Try.prog 102 (#[.func (.yield lp) #[] #[]] ++ #[.pointer (some ⟨Bn, 0, none⟩)]) W fun e W' => (∃ v, e = .returned v) ∧ ((∃ xs, recOk l (posOf xs) = false ∧ J xs W') ∨ (∃ pre, True ∧ Jx pre W')) := by
  have R0 := Aside0.mk h0
  have HC := Aside0.mk hc
  have HR := Aside0.mk hr
  have HL2 := Aside0.mk hl2
  have HB := Aside0.mk (below_step hw hB)
  have HX := Aside0.mk (blk_below hx hB)
  have HY := Aside0.mk hY
  have HJ := Aside0.mk hJ
  have HJX := Aside0.mk hJx
  have HB0 := Aside0.mk hBn
  have H0 := Aside0.mk h00
  clear h0 hc hr hl2 hw hx hB hY hJ hJx h00 hBn
  refine callsIn_of_wp Try.func102 rfl trivial ?_ rfl
  simp only [Try.ntmps102, List.size_toArray, List.length_cons, List.length_nil, Nat.reduceAdd, Nat.reduceSub, Array.replicate_succ, Array.replicate_zero, List.push_toArray, List.append_toArray, List.nil_append, List.cons_append]
  gi_wp2
  gi_loopw [3] (fun v3 wr => ∃ (pre : List (S45 × Value)) (Ap : Option Addr) (cp : Nat), Aside0 (J pre wr) ∧ Aside0 (posOf pre ≤ l.length) ∧ Aside0 (wr.heap[Bn]? = some (.cells #[.slice Ap (l.drop (posOf pre)).length cp] 22 (0, 0))) ∧ Aside0 (Kd.C (Kd.int .u8) w0 Ap (l.drop (posOf pre)).length (l.drop (posOf pre)) ∧ (l.drop (posOf pre)).length ≤ cp) ∧ Aside0 (Below w0.heap.size w0 wr))
    (fun _ wr => leftB_ Bn wr)
  case atStart => exact ⟨[], A, c, H0, ⟨by simp [posOf]⟩, HX, ⟨⟨R0.out, HC.out⟩⟩, HB⟩
  case round =>
    clear HX HB H0
    obtain ⟨pre, Ap, cp, HJ0, HP, HX, HT, HB⟩ := hrel
    have z0 := blk_cell HX.out 0
    have zl := blk_lt HX.out
    have zf := blk_frozen HX.out 0
    simp only [List.getElem?_toArray, List.getElem?_cons_zero] at z0
    have ⟨hp, hl2⟩ : posOf pre ≤ l.length ∧ l.length ≤ 2097152 := ⟨HP.out, HL2.out⟩
    generalize hT : l.drop (posOf pre) = T at *
    have HLW := Aside0.mk (show leftB_ Bn wr = T.length by unfold leftB_; rw [z0])
    have hTl : T.length = l.length - posOf pre := by rw [← hT, List.length_drop]
    have hTr : ∀ x ∈ T, 0 ≤ x ∧ x < 256 := fun x hx => HR.out x (by rw [← hT] at hx; exact List.mem_of_mem_drop hx)
    have hcut : ∀ i j, cutL T i j = cutL l (posOf pre + i) (posOf pre + j) := fun i j => by rw [← hT]; exact cutL_drop l _ i j
    by_cases q1 : 14 ≤ T.length
    case neg =>
      have c1 : decide (14 ≤ (T.length : Int)) = false := decide_eq_false (by omega)
      have c2 : decide (14 ≤ T.length) = false := decide_eq_false q1
      have hno : recOk l (posOf pre) = false := by simp [recOk]; omega
      clear hp hl2 hTl hTr hcut q1
      gi_wp2
      go_end0
      exact ⟨⟨_, rfl⟩, .inl ⟨pre, hno, HJ0.out⟩⟩
    have c1 : decide (14 ≤ (T.length : Int)) = true := decide_eq_true (by omega)
    have c2 : decide (14 ≤ T.length) = true := decide_eq_true q1
    obtain ⟨i0, hi0, _, hsz0, _⟩ := info_parts info5
    obtain ⟨hcut1, hA1, hC1⟩ := print_take_of (P := Try.prog) (Value.int .u8) 0 22 5 .i64 Try.underlying22 hi0 hsz0 Ap cp T 2 (by omega) (by omega) HT.out.2
    have g1e : T.take (2 : Int).toNat = cutL l (posOf pre) (posOf pre + 2) := by
      have := hcut 0 2
      rw [Nat.add_zero] at this
      rw [← this]
      rfl
    rw [g1e] at hcut1 hA1 hC1
    have R1 := Aside0.mk (Kd.C_of_reads (h1 := fun _ => rfl) (hA1 _ (Kd.reads_of_C HT.out.1)))
    have HC1 := Aside0.mk hC1
    clear hA1 hC1 g1e
    have rg := leN_range (cutL l (posOf pre) (posOf pre + 2)) (cutL_range HR.out _ _)
    have l1 : (cutL l (posOf pre) (posOf pre + 2)).length = 2 := by rw [cutL_length l _ _ (by omega)]; omega
    have hN : leN (cutL l (posOf pre) (posOf pre + 2)) = (recN l (posOf pre) : Int) := by unfold recN; omega
    have N1 : Aside0 (impl_numberOf.f (cutL l (posOf pre) (posOf pre + 2)) = some (recN l (posOf pre) : Int)) := ⟨by unfold impl_numberOf.f; rw [if_pos ⟨by omega, cutL_range HR.out _ _⟩, hN]⟩
    rw [l1, hN] at rg
    have SAME0 := Aside0.mk (fun (a1 : recN l (posOf pre) ≤ 1000) (a2 : posOf pre + 14 + recN l (posOf pre) ≤ l.length) => rec_same l (posOf pre) (recN l (posOf pre)) HR.out hN a1 a2)
    have hn : recN l (posOf pre) < 65536 := by have := rg.2; omega
    have W1_ := Aside0.mk (show wrap64 (recN l (posOf pre) : Int) = (recN l (posOf pre) : Int) ∧ wrap64 (14 + (recN l (posOf pre) : Int)) = 14 + (recN l (posOf pre) : Int) ∧ wrap64 (10 + (recN l (posOf pre) : Int)) = 10 + (recN l (posOf pre) : Int) from ⟨wrap_nat _ (by omega) (by omega), wrap_nat _ (by omega) (by omega), wrap_nat _ (by omega) (by omega)⟩)
    have NUM := Aside0.mk (And.intro hp (And.intro hl2 (And.intro hTl (And.intro hTr (And.intro hcut (And.intro q1 hn))))))
    clear rg l1 hN hn hp hl2 hTl hTr hcut q1
    generalize hgn : recN l (posOf pre) = n' at *
    generalize cutL l (posOf pre) (posOf pre + 2) = g1 at *
    have ⟨w1_, w2_, w3_⟩ := W1_.out
    clear w1_ w2_ w3_
    by_cases q2 : n' ≤ 1000
    case neg =>
      have c3 : decide (1000 < (n' : Int)) = true := decide_eq_true (by omega)
      have hno : recOk l (posOf pre) = false := by simp [recOk, hgn, q2]
      clear q2
      have ⟨w1_, w2_, w3_⟩ := W1_.out
      gi_wp2_with (refine ⟨trivial, ?_⟩; gi_at_call 69; refine (callsIn_wide.2 (impl_numberOf.calls Ap _ g1 (n' : Int) _ (Kd.C_below R1.out HB.out) HC1.out N1.out)).mono ?_; rintro e w' ⟨rfl, ⟨nd, rfl⟩⟩)
      refine bodyPost_ret (results_none rfl _ _ _) rfl ?_
      exact ⟨⟨_, rfl⟩, .inl ⟨pre, hno, HJ.out pre _ _ HJ0.out (Between.of_below (by repeat (first | exact Below.refl _ _ | apply pw_below_drewN | apply below_drew1)))⟩⟩
    have c3 : decide (1000 < (n' : Int)) = false := decide_eq_false (by omega)
    by_cases q3 : 14 + n' ≤ T.length
    case neg =>
      have c4 : decide ((T.length : Int) < 14 + (n' : Int)) = true := decide_eq_true (by omega)
      have hno : recOk l (posOf pre) = false := by
        have h1 := NUM.out.2.2.1
        simp only [recOk, hgn]
        rw [decide_eq_false (p := posOf pre + 14 + n' ≤ l.length) (by have := NUM.out.1; omega)]
        simp
      clear q2 q3
      have ⟨w1_, w2_, w3_⟩ := W1_.out
      gi_wp2_with (refine ⟨trivial, ?_⟩; gi_at_call 69; refine (callsIn_wide.2 (impl_numberOf.calls Ap _ g1 (n' : Int) _ (Kd.C_below R1.out HB.out) HC1.out N1.out)).mono ?_; rintro e w' ⟨rfl, ⟨nd, rfl⟩⟩)
      refine bodyPost_ret (results_none rfl _ _ _) rfl ?_
      exact ⟨⟨_, rfl⟩, .inl ⟨pre, hno, HJ.out pre _ _ HJ0.out (Between.of_below (by repeat (first | exact Below.refl _ _ | apply pw_below_drewN | apply below_drew1)))⟩⟩
    have c4 : decide ((T.length : Int) < 14 + (n' : Int)) = false := decide_eq_false (by omega)
    have ⟨hp, hl2, hTl, hTr, hcut, q1, hn⟩ := NUM.out
    obtain ⟨hcut2, hA2, hC2⟩ := print_take_of (P := Try.prog) (Value.int .u8) 0 22 5 .i64 Try.underlying22 hi0 hsz0 Ap cp T (10 + (n' : Int)) (by omega) (by omega) HT.out.2
    have g2e : T.take (10 + (n' : Int)).toNat = cutL l (posOf pre) (posOf pre + 10 + n') := by
      have := hcut 0 (10 + n')
      rw [Nat.add_zero, ← Nat.add_assoc] at this
      rw [← this, show (10 + (n' : Int)).toNat = 10 + n' by omega]
      rfl
    rw [g2e] at hcut2 hA2 hC2
    have R2 := Aside0.mk (Kd.C_of_reads (h1 := fun _ => rfl) (hA2 _ (Kd.reads_of_C HT.out.1)))
    have HC2 := Aside0.mk hC2
    obtain ⟨A3, hcut3, hA3, hC3⟩ := print_mid_of (P := Try.prog) (Value.int .u8) 0 22 5 .i64 .i64 Try.underlying22 hi0 hsz0 Ap cp T (10 + (n' : Int)) (14 + (n' : Int)) (by omega) (by omega) (by omega) HT.out.2
    have g3e : (T.take (14 + (n' : Int)).toNat).drop (10 + (n' : Int)).toNat = cutL l (posOf pre + 10 + n') (posOf pre + 14 + n') := by
      have := hcut (10 + n') (14 + n')
      rw [← Nat.add_assoc, ← Nat.add_assoc] at this
      rw [← this, show (10 + (n' : Int)).toNat = 10 + n' by omega, show (14 + (n' : Int)).toNat = 14 + n' by omega]
      rfl
    rw [g3e] at hcut3 hA3 hC3
    have R3 := Aside0.mk (Kd.C_of_reads (h1 := fun _ => rfl) (hA3 _ (Kd.reads_of_C HT.out.1)))
    have HC3 := Aside0.mk hC3
    clear hA2 hC2 g2e hA3 hC3 g3e
    have l2 : (cutL l (posOf pre) (posOf pre + 10 + n')).length ≤ 2097152 := by rw [cutL_length l _ _ (by omega)]; omega
    have l3 : (cutL l (posOf pre + 10 + n') (posOf pre + 14 + n')).length = 4 := by rw [cutL_length l _ _ (by omega)]; omega
    have sf := sum_f (cutL l (posOf pre) (posOf pre + 10 + n')) (by omega) (cutL_range HR.out _ _) 3000000 (by omega)
    have S2 := Aside0.mk sf.2.1
    have SR := Aside0.mk sf.2.2
    have N3 : Aside0 (impl_numberOf.f (cutL l (posOf pre + 10 + n') (posOf pre + 14 + n')) = some (leN (cutL l (posOf pre + 10 + n') (posOf pre + 14 + n')))) := ⟨by unfold impl_numberOf.f; rw [if_pos ⟨by omega, cutL_range HR.out _ _⟩]⟩
    have SAME := Aside0.mk (SAME0.out q2 (by omega))
    have NU3 := Aside0.mk (And.intro q2 q3)
    clear hp hl2 hTl hTr hcut q1 hn l2 l3 sf q2 q3
    generalize sumB (cutL l (posOf pre) (posOf pre + 10 + n')) = sm at *
    generalize leN (cutL l (posOf pre + 10 + n') (posOf pre + 14 + n')) = sn at *
    generalize cutL l (posOf pre) (posOf pre + 10 + n') = g2 at *
    generalize cutL l (posOf pre + 10 + n') (posOf pre + 14 + n') = g3 at *
    have ⟨w1_, w2_, w3_⟩ := W1_.out
    have w2w := (i64_w _).trans w2_
    have w3w := (i64_w _).trans w3_
    have hsu : IntKind.u64.wrap sm = sm := u64_of _ SR.out.1 (by have := SR.out.2; omega)
    gi_wp2_with (refine ⟨trivial, ?_⟩; gi_at_call 69; refine (callsIn_wide.2 (impl_numberOf.calls Ap _ g1 (n' : Int) _ (Kd.C_below R1.out HB.out) HC1.out N1.out)).mono ?_; rintro e w' ⟨rfl, ⟨nd, rfl⟩⟩)
    have HX2 := Aside0.mk (blk_drewN HX.out nd)
    have HB2 := Aside0.mk (pw_below_drewN HB.out nd)
    have BT := Aside0.mk (pw_below_drewN (Below.refl wr.heap.size wr) nd)
    generalize wr.drewN nd = wq at HX2 HB2 BT ⊢
    clear HX HB z0 zl zf
    have z0 := blk_cell HX2.out 0
    have zl := blk_lt HX2.out
    have zf := blk_frozen HX2.out 0
    simp only [List.getElem?_toArray, List.getElem?_cons_zero] at z0
    refine wpIn_region_quiet_lit rfl (by kernel_rfl) (by kernel_rfl) ?_
    repeat (refine wpQuietIn_step (fun _ _ _ _ => trivial) (fun K hK => ?_); go_simp; first | (refine hK _ ?_; clear hK K) | (apply Exists.intro; refine ⟨fun _ => ?_, hK _ ?_⟩; (first | (gi_at_call 101; refine CallsIn.quiet_of (callsIn_wide.2 ((impl_Checksum.calls 3000000 Ap _ g2 sm (World.drewN wq _) (Kd.C_drewN (Kd.C_below R2.out HB2.out) _) HC2.out S2.out).mono (fun e w' h => ⟨h.1, drawnE h.2⟩)))) | (gi_at_call 69; refine CallsIn.quiet_of (callsIn_wide.2 ((impl_numberOf.calls A3 _ g3 sn (World.drewN wq _) (Kd.C_drewN (Kd.C_below R3.out HB2.out) _) HC3.out N3.out).mono (fun e w' h => ⟨h.1, drawnE h.2⟩))))); clear hK K))
    refine wpQuietIn_nil ?_
    intro _ hw'
    obtain ⟨nq, hw''⟩ := hw'
    subst hw''
    have HX3 := Aside0.mk (blk_drewN HX2.out nq)
    have HB3 := Aside0.mk (pw_below_drewN HB2.out nq)
    have BT3 := Aside0.mk (BT.out.trans ((pw_below_drewN (Below.refl wq.heap.size wq) nq).mono BT.out.size))
    generalize wq.drewN nq = wp at HX3 HB3 BT3 ⊢
    clear HX2 HB2 BT z0 zl zf
    have z0 := blk_cell HX3.out 0
    have zl := blk_lt HX3.out
    have zf := blk_frozen HX3.out 0
    simp only [List.getElem?_toArray, List.getElem?_cons_zero] at z0
    by_cases hs : sm = sn
    case neg =>
      have hs1 : (sm == sn) = false := beq_eq_false_iff_ne.mpr hs
      have hs2 : (sm != sn) = true := bne_iff_ne.mpr hs
      have hno : recOk l (posOf pre) = false := by
        have h1 := fun h => hs (SAME.out.2 h)
        simp only [recOk, recOf, hgn]
        rw [decide_eq_false h1]
        simp
      clear hs
      gi_wp2
      refine bodyPost_ret (results_none rfl _ _ _) rfl ?_
      exact ⟨⟨_, rfl⟩, .inl ⟨pre, hno, HJ.out pre _ _ HJ0.out (Between.of_below BT3.out)⟩⟩
    have hs1 : (sm == sn) = true := beq_iff_eq.mpr hs
    have hs2 : (sm != sn) = false := bne_eq_false_iff_eq.mpr hs
    have hyes : recOk l (posOf pre) = true := by
      have h1 := SAME.out.1 hs
      have h2 := NUM.out.1
      have h3 := NUM.out.2.2.1
      have h4 := NU3.out
      simp only [recOk, recOf, hgn]
      rw [decide_eq_true h1, decide_eq_true h4.1, decide_eq_true (p := posOf pre + 14 ≤ l.length) (by omega), decide_eq_true (p := posOf pre + 14 + n' ≤ l.length) (by omega)]
      rfl
    clear hs
    have ⟨hp, hl2, hTl, hTr, hcut, q1, hn⟩ := NUM.out
    obtain ⟨A4, hcut4, hA4, hC4⟩ := print_mid_of (P := Try.prog) (Value.int .u8) 0 22 5 .i64 .i64 Try.underlying22 hi0 hsz0 Ap cp T 2 10 (by omega) (by omega) (by omega) HT.out.2
    have g4e : (T.take (10 : Int).toNat).drop (2 : Int).toNat = cutL l (posOf pre + 2) (posOf pre + 10) := hcut 2 10
    rw [g4e] at hcut4 hA4 hC4
    obtain ⟨A5, hcut5, hA5, hC5⟩ := print_mid_of (P := Try.prog) (Value.int .u8) 0 22 5 .i64 .i64 Try.underlying22 hi0 hsz0 Ap cp T 10 (10 + (n' : Int)) (by omega) (by omega) (by have := NU3.out; omega) HT.out.2
    have g5e : (T.take (10 + (n' : Int)).toNat).drop (10 : Int).toNat = cutL l (posOf pre + 10) (posOf pre + 10 + n') := by
      have := hcut 10 (10 + n')
      rw [← Nat.add_assoc] at this
      rw [← this, show (10 + (n' : Int)).toNat = 10 + n' by omega]
      rfl
    rw [g5e] at hcut5 hA5 hC5
    have R4 := Aside0.mk (Kd.C_of_reads (h1 := fun _ => rfl) (hA4 _ (Kd.reads_of_C HT.out.1)))
    have R5 := Aside0.mk (Kd.C_of_reads (h1 := fun _ => rfl) (hA5 _ (Kd.reads_of_C HT.out.1)))
    have HC4 := Aside0.mk hC4
    have HC5 := Aside0.mk hC5
    have l4 : (cutL l (posOf pre + 2) (posOf pre + 10)).length = 8 := by rw [cutL_length l _ _ (by omega)]; omega
    have l5 : (cutL l (posOf pre + 10) (posOf pre + 10 + n')).length = n' := by rw [cutL_length l _ _ (by have := NU3.out; omega)]; omega
    have N4 : Aside0 (impl_numberOf.f (cutL l (posOf pre + 2) (posOf pre + 10)) = some (leN (cutL l (posOf pre + 2) (posOf pre + 10)))) := ⟨by unfold impl_numberOf.f; rw [if_pos ⟨by omega, cutL_range HR.out _ _⟩]⟩
    have K5 : Aside0 (bytes_Clone.f (cutL l (posOf pre + 10) (posOf pre + 10 + n')) = some (cutL l (posOf pre + 10) (posOf pre + 10 + n'))) := ⟨by unfold bytes_Clone.f; rw [if_pos (by omega)]⟩
    have L5 := Aside0.mk (show ((14 + (cutL l (posOf pre + 10) (posOf pre + 10 + n')).length : Nat) : Int) = 14 + (n' : Int) by rw [l5]; omega)
    have HREC := Aside0.mk (show (⟨leN (cutL l (posOf pre + 2) (posOf pre + 10)), cutL l (posOf pre + 10) (posOf pre + 10 + n')⟩ : S45) = recOf l (posOf pre) by simp only [recOf, hgn])
    have HNX := Aside0.mk (show posOf pre + (14 + (cutL l (posOf pre + 10) (posOf pre + 10 + n')).length) ≤ l.length by rw [l5]; have := NU3.out; omega)
    clear hp hl2 hTl hTr hcut q1 hn l4 l5 hA4 hC4 g4e hA5 hC5 g5e
    generalize leN (cutL l (posOf pre + 2) (posOf pre + 10)) = s at *
    generalize cutL l (posOf pre + 2) (posOf pre + 10) = g4 at *
    generalize cutL l (posOf pre + 10) (posOf pre + 10 + n') = g5 at *
    gi_wp2
    gi_region_with (first | (refine ⟨trivial, ?_⟩; gi_at_call 69; refine (callsIn_wide.2 (impl_numberOf.calls A4 _ g4 s _ (by repeat (first | exact Kd.C_below R4.out HB3.out | (with_reducible refine Kd.C_drewN ?_ _) | (with_reducible refine Kd.C_drew ?_))) HC4.out N4.out)).mono ?_; rintro e w' ⟨rfl, ⟨nd2, rfl⟩⟩) | (refine ⟨trivial, ?_⟩; gi_at_call 71; refine (callsIn_wide.2 (bytes_Clone.calls A5 _ g5 g5 _ (by repeat (first | exact Kd.C_below R5.out HB3.out | (with_reducible refine Kd.C_drewN ?_ _) | (with_reducible refine Kd.C_drew ?_))) HC5.out K5.out)).mono ?_; rintro e wk ⟨v, rfl, ho, hb⟩; obtain ⟨Bv, dv, rfl⟩ := Kd.R_slice ho; have hb1 : Below wp.heap.size wp wk := below_step (by repeat (first | exact Below.refl _ _ | apply below_drew1 | apply pw_below_drewN)) hb; have HBk := Aside0.mk (below_step HB3.out hb1); have HXk := Aside0.mk (blk_below HX3.out hb1); have BTk := Aside0.mk (below_step BT3.out hb1); have HRk := Aside0.mk (Kd.R_lower ho (base' := wr.heap.size) (below_size (below_step BT3.out (by repeat (first | exact Below.refl _ _ | apply below_drew1 | apply pw_below_drewN))))); obtain ⟨fn, tm, as_, bd, hy, hR⟩ := HY.out pre (⟨s, g5⟩, .slice Bv g5.length dv) wr wk HJ0.out (Between.of_below BTk.out) ⟨hyes, HREC.out, HRk.out⟩; dsimp only [encI] at hy; rw [L5.out] at hy; have HYR := Aside0.mk hR; clear ho hb hb1 hR) | (refine HYR.out.mono ?_; intro e W' hh; obtain ⟨bb, rfl, HBB⟩ : ∃ bb : Bool, e = .returned (.bool bb) ∧ Aside0 ((bb = true ∧ J (pre ++ [(⟨s, g5⟩, .slice Bv g5.length dv)]) W' ∧ KpI w0.heap.size Bn wk W') ∨ (bb = false ∧ Jx (pre ++ [(⟨s, g5⟩, .slice Bv g5.length dv)]) W')) := (by rcases hh with ⟨rfl, h⟩ | ⟨rfl, h⟩; exact ⟨true, rfl, ⟨.inl ⟨rfl, h⟩⟩⟩; exact ⟨false, rfl, ⟨.inr ⟨rfl, h⟩⟩⟩); clear hh))
    all_goals
      rcases HBB.out with ⟨rfl, hj, hkp⟩ | ⟨rfl, hjx⟩
      case inr =>
        gi_wp2
        refine bodyPost_ret (results_none rfl _ _ _) rfl ?_
        first | exact ⟨⟨_, rfl⟩, .inr ⟨_, hjx⟩⟩ | exact ⟨⟨_, rfl⟩, .inr ⟨_, trivial, hjx⟩⟩
      obtain ⟨hkb, hkx⟩ := hkp
      have HX4 := Aside0.mk (hkx.trans HXk.out)
      have HB4 := Aside0.mk (HBk.out.trans hkb)
      have HJ4 := Aside0.mk hj
      clear HBB hj hkb hkx z0 zl zf hy
      have z0 := blk_cell HX4.out 0
      have zl := blk_lt HX4.out
      have zf := blk_frozen HX4.out 0
      simp only [List.getElem?_toArray, List.getElem?_cons_zero] at z0
      have htl : 14 + n' ≤ T.length := NU3.out.2
      obtain ⟨A6, hcut6, hA6, hC6⟩ := print_drop_of (P := Try.prog) (Value.int .u8) 0 22 5 .i64 Try.underlying22 hi0 hsz0 Ap cp T (14 + (n' : Int)) (by omega) (by omega) HT.out.2
      have g6e : T.drop (14 + (n' : Int)).toNat = l.drop (posOf (pre ++ [(⟨s, g5⟩, .slice Bv g5.length dv)])) := by
        have h5 := L5.out
        rw [posOf_snoc, ← hT, List.drop_drop]
        congr 1
        simp only
        omega
      rw [g6e] at hcut6 hA6 hC6
      rw [show (14 + (n' : Int)).toNat = 14 + n' by omega] at hC6
      have HT6 := Aside0.mk (And.intro (Kd.C_of_reads (h1 := fun _ => rfl) (hA6 _ (Kd.reads_of_C HT.out.1))) hC6)
      have HP6 := Aside0.mk (show posOf (pre ++ [(⟨s, g5⟩, .slice Bv g5.length dv)]) ≤ l.length by rw [posOf_snoc]; exact HNX.out)
      have HLT := Aside0.mk (show (l.drop (posOf (pre ++ [(⟨s, g5⟩, .slice Bv g5.length dv)]))).length < T.length by rw [← g6e, List.length_drop]; omega)
      clear htl hA6 hC6 g6e
      generalize hT6 : l.drop (posOf (pre ++ [(⟨s, g5⟩, .slice Bv g5.length dv)])) = T6 at *
      gi_wp2
      go_roundw
      case rel =>
        have FX := blk_put (cs := #[.slice Ap T.length cp]) (cs' := #[.slice A6 T6.length (cp - (14 + n'))]) HX4.out 0 _ rfl
        have FJ := HJ.out _ _ _ HJ4.out (show Between Bn W' (W'.setCell ⟨Bn, 0, none⟩ (.slice A6 T6.length (cp - (14 + n')))) from ⟨⟨some Bn, grownBy_setCell' _ _ _, fun r e => by cases e; rfl⟩, fun cs t fr e => by rw [HX4.out] at e; cases e; exact ⟨_, FX⟩⟩)
        have FC : Kd.C (Kd.int .u8) w0 A6 T6.length T6 ∧ T6.length ≤ cp - (14 + n') := HT6.out
        have FB := below_set (j := 0) (v := .slice A6 T6.length (cp - (14 + n'))) HB4.out HB0.out
        subst hT6
        exact ⟨(pre ++ [((⟨s, g5⟩ : S45), Value.slice Bv g5.length dv)] : List (S45 × Value)), A6, cp - (14 + n'), ⟨FJ⟩, HP6, ⟨FX⟩, ⟨FC⟩, ⟨FB⟩⟩
      case measure =>
        show leftB_ Bn _ < leftB_ Bn _
        rw [HLW.out]
        have h := blk_cell (blk_put (cs := #[.slice Ap T.length cp]) (cs' := #[.slice A6 T6.length (cp - (14 + n'))]) HX4.out 0 _ rfl) 0
        simp only [List.getElem?_toArray, List.getElem?_cons_zero] at h
        unfold leftB_
        rw [h]
        exact HLT.out
end Go.Proofs.Ytbapokpkgonjkaa.Print
namespace Go.Proofs.Ytbapokpkgonjkaa.Print
open Go Go.RowKit Go.Proofs.YtbapokpkgonjkaaW.PrintWords Go.Proofs.YtbapokpkgonjkaaW.PrintLast Go.Proofs.YtbapokpkgonjkaaW.PrintMore
set_option linter.unusedVariables false
set_option linter.unusedSimpArgs false
structure LogB (w : World) (Bo Bs Bn : Nat) (rs : List S45) (m : Nat) (W : World) : Prop where
  bo : ∃ V, W.heap[Bo]? = some (.cells #[V] 53 (0, 0)) ∧ Kd.S k45 45 W w.heap.size (fun _ => True) V rs
  bs : W.heap[Bs]? = some (.cells #[.int .i64 (m : Int)] 3 (0, 0))
  bn : ∃ cs, W.heap[Bn]? = some (.cells cs 22 (0, 0))
  be : Below w.heap.size w W
theorem LogB.step {w : World} {Bo Bs Bn : Nat} {rs : List S45} {m : Nat} {W W' : World} {row : Option Nat} (h : LogB w Bo Bs Bn rs m W) (hg : W.grownBy W' row) (ho : row ≠ some Bo) (hs : row ≠ some Bs) (hw : ∀ r, row = some r → w.heap.size ≤ r) (hn : ∃ cs, W'.heap[Bn]? = some (.cells cs 22 (0, 0)))
    (ht : ∀ r cs t, row = some r → W.heap[r]? = some (.cells cs t (0, 0)) → t = 22) : LogB w Bo Bs Bn rs m W' := by
  obtain ⟨V, hV, hS⟩ := h.bo
  refine ⟨⟨V, blk_grown hV hg (fun e => ho e.symm), ?_⟩, blk_grown h.bs hg (fun e => hs e.symm), hn, h.be.grown hg h.be.size (fun k e => hw k e)⟩
  refine Kd.S_mono (Kd.S_step (Kd.S_bound hS) (fun k hk hlt => hg.block k hlt (fun e => ?_))) (fun _ _ => trivial)
  obtain ⟨_, _, _, q, hq, cells, hc⟩ := hk
  have := ht k cells q e.symm hc
  subst this
  revert hq
  decide
theorem LogB.own {w : World} {Bo Bs Bn B : Nat} {rs : List S45} {m : Nat} {W W' : World} {row : Option Nat} (h : LogB w Bo Bs Bn rs m W) (hB : w.heap.size ≤ B) (hg : W.grownBy W' row) (hr : ∀ r, row = some r → B ≤ r ∧ ∃ o : Obj, W.heap[r]? = some o ∧ o.isCells = false) : LogB w Bo Bs Bn rs m W' := by
  have key : ∀ {r : Nat} {cs : Array Value} {t : TypeId}, row = some r → W.heap[r]? = some (.cells cs t (0, 0)) → False := fun e hc => by
    obtain ⟨_, o, h1, h2⟩ := hr _ e
    rw [hc] at h1
    cases h1
    cases h2
  obtain ⟨V, hV, _⟩ := h.bo
  obtain ⟨cs, hc⟩ := h.bn
  exact h.step hg (fun e => key e hV) (fun e => key e h.bs) (fun r e => Nat.le_trans hB (hr r e).1) ⟨cs, blk_grown hc hg (fun e => key e.symm hc)⟩ (fun r cs t e hc => (key e hc).elim)
theorem LogB.stays {w : World} {Bo Bs Bn : Nat} {rs : List S45} {m : Nat} {W W' : World} (h : LogB w Bo Bs Bn rs m W) (hb : Between Bn W W') (ho : Bn ≠ Bo) (hs : Bn ≠ Bs) (hw : w.heap.size ≤ Bn) : LogB w Bo Bs Bn rs m W' := by
  obtain ⟨⟨row, hg, hr⟩, hk⟩ := hb
  obtain ⟨cs, hc⟩ := h.bn
  refine h.step hg (fun e => ho (hr _ e).symm) (fun e => hs (hr _ e).symm) (fun r e => by rw [hr r e]; exact hw) (hk cs _ _ hc) (fun r cs' t e hc' => ?_)
  rw [hr r e, hc] at hc'
  cases hc'
  rfl
theorem LogB.cellsAt {w : World} {Bo Bs Bn : Nat} {rs : List S45} {m : Nat} {W : World} (h : LogB w Bo Bs Bn rs m W) : CellsAt Bn W := by
  obtain ⟨cs, hc⟩ := h.bn
  exact ⟨_, hc, rfl⟩
def Goes (l : List Int) (pre : List (S45 × Value)) : Prop := ∃ k, logL k l (posOf pre) (pre.map (·.1)) = logF l ∧ l.length + 1 ≤ posOf pre + k ∧ posOf pre ≤ l.length ∧ ∀ y ∈ pre, 0 ≤ y.1.f0 ∧ y.1.f0 < 18446744073709551616
theorem posOf_le (xs : List (S45 × Value)) : 14 * xs.length ≤ posOf xs := by
  induction xs with
  | nil => simp
  | cons x r ih => simp only [posOf, List.map_cons, List.sum_cons, List.length_cons] at *; omega
theorem goes_nil (l : List Int) : Goes l [] := ⟨l.length + 1, rfl, by simp [posOf], by simp [posOf], by simp⟩
theorem goes_done {l : List Int} {pre : List (S45 × Value)} (h : Goes l pre) (hn : recOk l (posOf pre) = false) : logF l = (pre.map (·.1), posOf pre) := by
  obtain ⟨k, h1, h2, h3, h4⟩ := h
  obtain ⟨k, rfl⟩ : ∃ j, k = j + 1 := ⟨k - 1, by omega⟩
  rw [← h1]
  simp only [logL]
  rw [hn]
  rfl
theorem goes_stop {l : List Int} {pre : List (S45 × Value)} {x : S45} (h : Goes l pre) (hx : x = recOf l (posOf pre)) (hn : goesOn (pre.map (·.1)) x = false) : logF l = (pre.map (·.1), posOf pre) := by
  obtain ⟨k, h1, h2, h3, h4⟩ := h
  obtain ⟨k, rfl⟩ : ∃ j, k = j + 1 := ⟨k - 1, by omega⟩
  rw [← h1]
  simp only [logL]
  rw [← hx, hn, Bool.and_false]
  rfl
theorem goes_more {l : List Int} {pre : List (S45 × Value)} {x : S45 × Value} (h : Goes l pre) (hr : recOk l (posOf pre) = true) (hx : x.1 = recOf l (posOf pre)) (hn : goesOn (pre.map (·.1)) x.1 = true) (hu : 0 ≤ x.1.f0 ∧ x.1.f0 < 18446744073709551616) : Goes l (pre ++ [x]) := by
  obtain ⟨k, h1, h2, h3, h4⟩ := h
  obtain ⟨k, rfl⟩ : ∃ j, k = j + 1 := ⟨k - 1, by omega⟩
  have hroom := recOk_room hr
  have hlen : x.1.f1.length = recN l (posOf pre) := by
    rw [hx]
    simp only [recOf]
    rw [cutL_length _ _ _ (by omega)]
    omega
  refine ⟨k, ?_, by rw [posOf_snoc]; omega, by rw [posOf_snoc, hlen]; omega, fun y hy => by
    rcases List.mem_append.1 hy with hy | hy
    · exact h4 y hy
    · rw [List.mem_singleton.1 hy]; exact hu⟩
  rw [← h1, posOf_snoc, hlen, List.map_append, List.map_singleton]
  conv => rhs; unfold logL
  rw [← hx, hr, hn]
  rfl
end Go.Proofs.Ytbapokpkgonjkaa.Print
namespace Go.Proofs.Ytbapokpkgonjkaa.Print
open Go Go.RowKit Go.Proofs.YtbapokpkgonjkaaW.PrintWords Go.Proofs.YtbapokpkgonjkaaW.PrintLast Go.Proofs.YtbapokpkgonjkaaW.PrintMore
set_option linter.unusedVariables false
section
variable {F : Fence} {nF : Nat} {P : Program} {ops : Array Oper} {rest : List Oper} {o : Oper} {a : Act} {Q : Exit → Act → World → Prop}
theorem append_cells_in {w0 W : World} (base : Nat) (hgd : o.guard = none) (s x : Operand) (t e : TypeId) (z : Value) (size bytes : Nat)
    (ho : o.op = .call { callee := .builtin .append, args := #[s, x], argTypes := #[t, t] })
    (ht : P.underlying t = some (.slice e)) (hinfo : (P.info? e).map (fun i => (i.zero, i.size, i.bytes)) = some (some z, size, bytes)) (hz : z.cells.size = size) (hs0 : 0 < size) (hb0 : 0 < bytes)
    (v : Value) (n : Nat) (xs ys : List Value) (hs : a.eval s = v) (hx : a.eval x = .slice (some ⟨W.heap.size, 0, none⟩) 1 1) (hys : ys.length = size) (h1 : ∀ u ∈ ys, u.oneCell' = true)
    (HO : W.ownsRow base e size v n xs) (HB : Below base w0 W) (hbase : base ≤ W.heap.size) (hl : (n + 1) * bytes ≤ 140737488355328)
    (h : ∀ v1 w1, w1.ownsRow base e size v1 (n + 1) (xs ++ ys) → Below base w0 w1 → W.grownBy w1 v.ownBlock → (v1.ownBlock = v.ownBlock ∨ ∃ b, v1.ownBlock = some b ∧ W.heap.size ≤ b) → wpListIn F nF P ops Q rest (a.put o.dst v1) w1) :
    wpListIn F nF P ops Q (o :: rest) a (W.alloc (.cells ys.toArray e)) := by
  obtain ⟨i0, hi, hzz⟩ := Option.map_eq_some_iff.1 hinfo
  simp only [Prod.mk.injEq] at hzz
  obtain ⟨hz0, hz1, hz2⟩ := hzz
  have hlen : n + 1 ≤ 140737488355328 := Nat.le_trans (Nat.le_mul_of_pos_right _ hb0) hl
  refine wpListIn_append_own_at (w := W.alloc (.cells ys.toArray e)) hgd s x t ho base e i0 z size bytes ht hi hz0 hz1 hz2 hz hs0 v n xs hs (HO.alloc _) ⟨W.heap.size, 0, none⟩ 1 1 ys hx (by rw [hys]; simp)
    (by simpa using World.news_of_block (cs := ys.toArray) (t := e) (fr := (0, 0)) (heap_alloc_new W (.cells ys.toArray e))) h1 (by simp only [maxLen]; omega) hl (by simp; omega) ?_
  intro v1 w1 hown hg _ hat
  refine h v1 w1 hown ((HB.alloc hbase _).grown hg (by simp; omega) (own_base HO)) (World.grownBy.trans (World.grownBy_alloc W _ _) hg) ?_
  rcases hat with hat | hat
  · exact .inl hat
  · exact .inr ⟨_, hat, by simp⟩
theorem S_append_in {α : Type} (d : Kd α) {w0 W : World} (base : Nat) (hgd : o.guard = none) (s x : Operand) (t e : TypeId) (z : Value) (bytes : Nat)
    (ho : o.op = .call { callee := .builtin .append, args := #[s, x], argTypes := #[t, t] })
    (ht : P.underlying t = some (.slice e)) (hinfo : (P.info? e).map (fun i => (i.zero, i.size, i.bytes)) = some (some z, d.sz, bytes)) (hz : z.cells.size = d.sz) (hs0 : 0 < d.sz) (hb0 : 0 < bytes)
    (v : Value) (xs : List α) (p : α) (cs : List Value) (ok okp : Nat → Prop) (hs : a.eval s = v) (hx : a.eval x = .slice (some ⟨W.heap.size, 0, none⟩) 1 1) (hp : d.M W base okp p cs) (hokp : ∀ k, okp k → ok k ∧ some k ≠ v.ownBlock) (hfresh : ∀ k, W.heap.size ≤ k → ok k)
    (HO : Kd.S d e W base (fun k => ok k ∧ ¬ okp k) v xs) (HB : Below base w0 W) (hbase : base ≤ W.heap.size) (hl : (xs.length + 1) * bytes ≤ 140737488355328)
    (h : ∀ v1 w1, Kd.S d e w1 base ok v1 (xs ++ [p]) → Below base w0 w1 → W.grownBy w1 v.ownBlock → (v1.ownBlock = v.ownBlock ∨ ∃ b, v1.ownBlock = some b ∧ W.heap.size ≤ b) → wpListIn F nF P ops Q rest (a.put o.dst v1) w1) :
    wpListIn F nF P ops Q (o :: rest) a (W.alloc (.cells cs.toArray e)) := by
  obtain ⟨f, hf, hR⟩ := Kd.S_tag HO xs.length okp (fun _ hk h2 => h2.2 hk)
  obtain ⟨h0, inner, hown, hr⟩ := Kd.R_mono hR (fun _ hk => hk.1)
  have hp' : (Kd.tag f d).M W base okp (p, xs.length) cs := d.M_mono (fun k hk => ⟨hk, hf k hk⟩) hp
  refine append_cells_in base hgd s x t e z d.sz bytes ho ht hinfo hz hs0 hb0 v xs.length inner cs hs hx (d.K_len (d.K_of_M hp)) (d.K_one (d.K_of_M hp)) (by rw [List.length_zipIdx] at hown; exact hown) HB hbase hl ?_
  intro v1 w1 hown1 hb1 hg1 hat1
  have := Kd.R_appended h0 hr hp' hokp hfresh (by rw [List.length_zipIdx]; exact hown1) hg1 hat1
  rw [← Kd.zip_snoc] at this
  exact h v1 w1 ⟨f, this⟩ hb1 hg1 hat1
end
end Go.Proofs.Ytbapokpkgonjkaa.Print
namespace Go.Proofs.Ytbapokpkgonjkaa.Print
open Go Go.RowKit Go.Proofs.YtbapokpkgonjkaaW.PrintWords Go.Proofs.YtbapokpkgonjkaaW.PrintLast Go.Proofs.YtbapokpkgonjkaaW.PrintMore
set_option linter.unusedVariables false
set_option linter.unusedSimpArgs false
attribute [local go_sem] Oper.semAt_some
theorem S_own_ {α : Type} {d : Kd α} {e base : Nat} {W W' : World} {ok : Nat → Prop} {v : Value} {xs : List α} {row : Option Nat} (h : Kd.S d e W base ok v xs) (hg : W.grownBy W' row) (hr : ∀ r, row = some r → ∃ o : Obj, W.heap[r]? = some o ∧ o.isCells = false) : Kd.S d e W' base ok v xs := by
  refine Kd.S_mono (Kd.S_step (Kd.S_bound h) (fun k hk hlt => hg.block k hlt (fun e => ?_))) (fun _ hk => hk.1)
  obtain ⟨_, _, _, q, hq, cells, hc⟩ := hk
  obtain ⟨o, h1, h2⟩ := hr k e.symm
  rw [hc] at h1
  cases h1
  cases h2
theorem R_own_ {α : Type} {d : Kd α} {e base : Nat} {W W' : World} {ok : Nat → Prop} {v : Value} {xs : List α} {row : Option Nat} (h : Kd.R d e W base ok v xs) (hg : W.grownBy W' row) (hr : ∀ r, row = some r → ∃ o : Obj, W.heap[r]? = some o ∧ o.isCells = false) : Kd.R d e W' base ok v xs := by
  refine Kd.R_mono (Kd.R_step (Kd.R_bound h) (fun k hk hlt => hg.block k hlt (fun e => ?_))) (fun _ hk => hk.1)
  obtain ⟨_, _, _, q, hq, cells, hc⟩ := hk
  obtain ⟨o, h1, h2⟩ := hr k e.symm
  rw [hc] at h1
  cases h1
  cases h2
theorem blk_own_ {W W' : World} {row : Option Nat} {g t : Nat} {cs : Array Value} (h : W.heap[g]? = some (.cells cs t (0, 0))) (hg : W.grownBy W' row) (hr : ∀ r, row = some r → ∃ o : Obj, W.heap[r]? = some o ∧ o.isCells = false) : W'.heap[g]? = some (.cells cs t (0, 0)) :=
  blk_grown h hg (fun e => by
    obtain ⟨o, h1, h2⟩ := hr g e.symm
    rw [h] at h1
    cases h1
    cases h2)
def actI (h0 : Nat) (A : Option Addr) (n c : Nat) (t6 t7 t12 t13 : Value) : Act :=
  { tmps := #[.slice A n c, undef, .slice none 0 0, .int .i64 0, .pointer (some ⟨h0 + 1, 0, none⟩), .pointer (some ⟨h0 + 1 + 1, 0, none⟩), t6, t7, undef, .slice (some ⟨h0, 0, none⟩) 0 0, .slice A n c, .func (.func 102) #[] #[.pointer (some ⟨h0 + 1 + 1 + 1, 0, none⟩)], t12, t13,
      undef, undef, undef, undef, undef, undef, undef, undef, undef, undef, undef, undef, undef, undef, undef, undef, undef, undef, undef, undef, undef, undef, undef, undef, undef, undef, undef, undef, undef], defers := [] }
structure AxI (w : World) (A : Option Addr) (c : Nat) (l : List Int) (pre : List (S45 × Value)) (x : S45 × Value) (a' : Act) (W : World) : Prop where
  ex : ∃ (N Bx : Nat) (V : Value), a' = actI w.heap.size A l.length c (.pointer (some ⟨Bx, 0, none⟩)) (.int .i64 ((14 + x.1.f1.length : Nat) : Int)) (.agg #[.int .u64 x.1.f0, x.2]) (.int .i64 ((14 + x.1.f1.length : Nat) : Int)) ∧ N ≤ Bx ∧ w.heap.size + 4 ≤ N ∧ N ≤ W.heap.size ∧
    W.heap[Bx]? = some (.cells #[.int .u64 x.1.f0, x.2] 45 (0, 0)) ∧ Kd.R (Kd.int .u8) 5 W N (fun k => k ≠ Bx) x.2 x.1.f1 ∧
    W.heap[w.heap.size + 1]? = some (.cells #[V] 53 (0, 0)) ∧ Kd.S k45 45 W w.heap.size (fun k => k < N) V (pre.map (·.1))
  lb : LogB w (w.heap.size + 1) (w.heap.size + 1 + 1) (w.heap.size + 1 + 1 + 1) (pre.map (·.1)) (posOf pre) W
  ok : recOk l (posOf pre) = true ∧ x.1 = recOf l (posOf pre)
  go : Goes l pre
theorem AxI.own {w : World} {A : Option Addr} {c : Nat} {l : List Int} {pre : List (S45 × Value)} {x : S45 × Value} {a' : Act} (B : Nat) (hB : w.heap.size ≤ B) : OwnFrom B (fun (_ : Unit) W => AxI w A c l pre x a' W) := by
  intro s W W' row h hg hr
  have hr' : ∀ r, row = some r → ∃ o : Obj, W.heap[r]? = some o ∧ o.isCells = false := fun r e => (hr r e).2
  obtain ⟨⟨N, Bx, V, h1, h2, h3, h3', h4, h5, h6, h7⟩, hl, ho, hgo⟩ := h
  exact ⟨⟨N, Bx, V, h1, h2, h3, Nat.le_trans h3' hg.size, blk_own_ h4 hg hr', R_own_ h5 hg hr', blk_own_ h6 hg hr', S_own_ h7 hg hr'⟩, hl.own hB hg hr, ho, hgo⟩
set_option maxHeartbeats 2000000 in
set_option maxRecDepth 100000 in
theorem readLog_assign (w : World) (A : Option Addr) (c : Nat) (l : List Int) (lp : Nat) (pre : List (S45 × Value)) (x : S45 × Value) (Wi W : World) (K : Act → World → Prop)
    (hi : LogB w (w.heap.size + 1) (w.heap.size + 1 + 1) (w.heap.size + 1 + 1 + 1) (pre.map (·.1)) (posOf pre) Wi) (hgo : Goes l pre) (hbt : Between (w.heap.size + 1 + 1 + 1) Wi W)
    (hi' : LogB w (w.heap.size + 1) (w.heap.size + 1 + 1) (w.heap.size + 1 + 1 + 1) (pre.map (·.1)) (posOf pre) W) (hok : okI l pre x Wi W)
    (hK : ∀ a' W', KeepsOthers W W' → KpI w.heap.size (w.heap.size + 1 + 1 + 1) W W' → AxI w A c l pre x a' W' → K a' W') :
    Code.wpIn (Fence.wide.inRound lp) 3 Try.prog ((Code.region 4 #[{ dst := some 6, op := Op.alloc 45, type := 0, pos := "l2_journal.go:81", after := #[], guard := none },
        { dst := none, op := Op.store 45 (Operand.tmp 6) (Operand.tmp 12), type := 0, pos := "l2_journal.go:81", after := #[{ on := 0, ground := Ground.data }, { on := 0, ground := Ground.phase }], guard := none }] false).seq
      (Code.region 5 #[{ dst := some 7, op := Op.assign (Operand.tmp 13), type := 3, pos := "l2_journal.go:81", after := #[], guard := none }] false))
      (Exit.then K fun _ _ _ => False) (actI w.heap.size A l.length c undef undef (.agg #[.int .u64 x.1.f0, x.2]) (.int .i64 ((14 + x.1.f1.length : Nat) : Int))) W := by
  obtain ⟨x1, x2⟩ := x
  obtain ⟨hrok, hx1, hR⟩ := hok
  simp only at hx1 hR hK ⊢
  obtain ⟨Ab, cb, rfl⟩ := Kd.R_slice hR
  have HRr := Aside0.mk hR
  obtain ⟨V, hV, hS⟩ := hi.bo
  obtain ⟨⟨row, hg, hrow⟩, hkeep⟩ := hbt
  have hrr : ∀ r, row = some r → r = w.heap.size + 1 + 1 + 1 := hrow
  obtain ⟨csn, hcn⟩ := hi.bn
  have hV' : W.heap[w.heap.size + 1]? = some (.cells #[V] 53 (0, 0)) := blk_grown hV hg (fun e => by have := hrr _ e.symm; omega)
  have hS' : Kd.S k45 45 W w.heap.size (fun k => k < Wi.heap.size) V (pre.map (·.1)) := by
    refine Kd.S_mono (Kd.S_step (Kd.S_bound hS) (fun k hk hlt => hg.block k hlt (fun e => ?_))) (fun _ hk => hk.2.2.1)
    obtain ⟨_, _, _, q, hq, cells, hc⟩ := hk
    rw [hrr k e.symm, hcn] at hc
    cases hc
    revert hq
    decide
  have hsz := hg.size
  have hn4 : w.heap.size + 4 ≤ Wi.heap.size := by have := blk_lt hcn; omega
  have P0 := Aside0.mk (And.intro hV' (And.intro hS' (And.intro hsz (And.intro hn4 (And.intro hrok (And.intro hx1 (And.intro hi' hgo)))))))
  have HK := Aside0.mk hK
  clear hV' hS' hsz hn4 hrok hx1 hi' hgo hK hcn hg hrow hrr hkeep hV hS hi hR
  unfold actI
  gi_wp2
  obtain ⟨hV, hS, hsz, hn4, hrok, hx1, hi, hgo⟩ := P0.out
  have hall := grown_of_below (Below.alloc (Below.refl W.heap.size W) (Nat.le_refl _) (.cells #[.int .u64 x1.f0, .slice Ab x1.f1.length cb] 45)) none
  obtain ⟨csn, hcn⟩ := hi.bn
  refine HK.out _ _ ?_ ?_ ?_
  · exact KeepsOthers.of_grownBy hall (fun j o hj _ => by cases hj)
  · exact ⟨(Below.refl w.heap.size W).alloc (by omega) _, blk_alloc hcn _ |>.trans hcn.symm⟩
  · refine ⟨⟨Wi.heap.size, W.heap.size, V, by unfold actI; rw [Int.natCast_add]; rfl, hsz, hn4, by rw [World.size_alloc]; omega, blk_new W _, ?_, blk_alloc hV _, Kd.S_alloc hS _⟩, hi.own (Nat.le_refl _) hall (fun r e => by cases e), ⟨hrok, hx1⟩, hgo⟩
    exact Kd.R_alloc (Kd.R_mono (Kd.R_elderB HRr.out W.heap.size (Nat.le_refl _)) (fun _ hk => hk.2)) _
theorem wrapU_ (n : Int) : IntKind.u64.wrap n = n % 18446744073709551616 := by
  simp [IntKind.wrap, IntKind.signed, IntKind.bits]
theorem goesOn_wrap {rs : List S45} {y x : S45} (h : rs.getLast? = some y) (h0 : 0 ≤ y.f0) (h1 : y.f0 < 18446744073709551616) : goesOn rs x = (!decide (IntKind.u64.wrap (y.f0 + 1) = 0) && decide (x.f0 = IntKind.u64.wrap (y.f0 + 1))) := by
  unfold goesOn
  rw [h, wrapU_]
  by_cases e : y.f0 = 18446744073709551615
  · simp [e]
  · have e2 : (y.f0 + 1) % 18446744073709551616 = y.f0 + 1 := by omega
    have e3 : ¬ y.f0 + 1 = 0 := by omega
    simp [e, e2, e3]
theorem last_of {rs : List S45} {y0 : S45} {r0 : List S45} {yl : S45} (h : rs = y0 :: r0) (hy : (y0 :: r0).getD r0.length z45 = yl) : rs.getLast? = some yl := by
  subst h
  rw [List.getLast?_eq_getElem?, ← hy]
  simp [List.getD_eq_getElem?_getD]
theorem last_in {pre : List (S45 × Value)} {y0 : S45} {r0 : List S45} {yl : S45} (h : pre.map (·.1) = y0 :: r0) (hy : (y0 :: r0).getD r0.length z45 = yl) : ∃ y ∈ pre, y.1 = yl := by
  have : yl ∈ pre.map (·.1) := List.mem_of_getLast? (last_of h hy)
  obtain ⟨y, h1, h2⟩ := List.mem_map.1 this
  exact ⟨y, h1, h2⟩
theorem round_end {w W w6 : World} {l : List Int} {pre : List (S45 × Value)} {x1 : S45} {x2 V v1 : Value} {rs : List S45} {m : Nat} (hrs : pre.map (·.1) = rs) (hm : posOf pre = m)
    (hlb : LogB w (w.heap.size + 1) (w.heap.size + 1 + 1) (w.heap.size + 1 + 1 + 1) rs m W) (hV : W.heap[w.heap.size + 1]? = some (.cells #[V] 53 (0, 0))) (hty : ∀ k, V.ownBlock = some k → ∃ cells, W.heap[k]? = some (.cells cells 45 (0, 0))) (hba : ∀ k, V.ownBlock = some k → w.heap.size ≤ k)
    (hS : Kd.S k45 45 w6 w.heap.size (fun _ => True) v1 (rs ++ [x1])) (hg : W.grownBy w6 V.ownBlock) (hgo : Goes l pre) (hok : recOk l m = true) (hx : x1 = recOf l m) (hon : goesOn rs x1 = true) (hr : ∀ x ∈ l, 0 ≤ x ∧ x < 256) (hl2 : l.length ≤ 2097152) :
    KeepsOthers W ((w6.setCell ⟨w.heap.size + 1, 0, none⟩ v1).setCell ⟨w.heap.size + 1 + 1, 0, none⟩ (.int .i64 ((m : Int) + (14 + (x1.f1.length : Int))))) ∧
    KpI w.heap.size (w.heap.size + 1 + 1 + 1) W ((w6.setCell ⟨w.heap.size + 1, 0, none⟩ v1).setCell ⟨w.heap.size + 1 + 1, 0, none⟩ (.int .i64 ((m : Int) + (14 + (x1.f1.length : Int))))) ∧
    LogB w (w.heap.size + 1) (w.heap.size + 1 + 1) (w.heap.size + 1 + 1 + 1) (pre.map (·.1) ++ [x1]) (posOf (pre ++ [(x1, x2)])) ((w6.setCell ⟨w.heap.size + 1, 0, none⟩ v1).setCell ⟨w.heap.size + 1 + 1, 0, none⟩ (.int .i64 ((m : Int) + (14 + (x1.f1.length : Int))))) ∧ Goes l (pre ++ [(x1, x2)]) := by
  subst hrs
  subst hm
  have ne : ∀ {g t : Nat} {cs : Array Value}, W.heap[g]? = some (.cells cs t (0, 0)) → t ≠ 45 → some g ≠ V.ownBlock := fun hb ht e => by
    obtain ⟨cells, hc⟩ := hty _ e.symm
    rw [hb] at hc
    cases hc
    exact ht rfl
  obtain ⟨csn, hn⟩ := hlb.bn
  have hV6 := blk_grown hV hg (ne hV (by decide))
  have hs6 := blk_grown hlb.bs hg (ne hlb.bs (by decide))
  have hn6 := blk_grown hn hg (ne hn (by decide))
  have hso : Kd.S k45 45 ((w6.setCell ⟨w.heap.size + 1, 0, none⟩ v1).setCell ⟨w.heap.size + 1 + 1, 0, none⟩ (.int .i64 ((posOf pre : Int) + (14 + (x1.f1.length : Int))))) w.heap.size (fun _ => True) v1 (pre.map (·.1) ++ [x1]) := by
    refine Kd.S_set (cells := #[.int .i64 (posOf pre : Int)]) (t := 3) (Kd.S_set hS hV6 (by decide) 0 v1) ?_ (by decide) 0 _
    exact blk_far hs6 (p := ⟨w.heap.size + 1, 0, none⟩) (by show w.heap.size + 1 + 1 ≠ w.heap.size + 1; omega) v1
  have hz := hg.size
  have hb6 : Below w.heap.size W w6 := (Below.refl w.heap.size W).grown hg (by have := blk_lt hV; omega) hba
  refine ⟨?_, ⟨?_, ?_⟩, ⟨⟨v1, ?_, ?_⟩, ?_, ⟨csn, ?_⟩, ?_⟩, goes_more hgo hok hx hon ?_⟩
  · refine ((KeepsOthers.of_grownBy hg (fun j o hj ho => ?_)).trans (KeepsOthers.setCell _ _ _)).trans (KeepsOthers.setCell _ _ _)
    obtain ⟨cells, hc⟩ := hty j hj
    rw [hc] at ho
    cases ho
    rfl
  · exact (hb6.setCell (by show w.heap.size ≤ w.heap.size + 1; omega) _).setCell (by show w.heap.size ≤ w.heap.size + 1 + 1; omega) _
  · rw [hn]
    exact blk_far (blk_far hn6 (p := ⟨w.heap.size + 1, 0, none⟩) (by show w.heap.size + 1 + 1 + 1 ≠ w.heap.size + 1; omega) v1) (p := ⟨w.heap.size + 1 + 1, 0, none⟩) (by show w.heap.size + 1 + 1 + 1 ≠ w.heap.size + 1 + 1; omega) _
  · exact blk_far (blk_put hV6 0 v1 rfl) (p := ⟨w.heap.size + 1 + 1, 0, none⟩) (by show w.heap.size + 1 ≠ w.heap.size + 1 + 1; omega) _
  · exact hso
  · rw [posOf_snoc]
    refine blk_put (blk_far hs6 (p := ⟨w.heap.size + 1, 0, none⟩) (by show w.heap.size + 1 + 1 ≠ w.heap.size + 1; omega) v1) 0 _ ?_
    simp
  · exact blk_far (blk_far hn6 (p := ⟨w.heap.size + 1, 0, none⟩) (by show w.heap.size + 1 + 1 + 1 ≠ w.heap.size + 1; omega) v1) (p := ⟨w.heap.size + 1 + 1, 0, none⟩) (by show w.heap.size + 1 + 1 + 1 ≠ w.heap.size + 1 + 1; omega) _
  · exact hlb.be.trans ((hb6.setCell (by show w.heap.size ≤ w.heap.size + 1; omega) _).setCell (by show w.heap.size ≤ w.heap.size + 1 + 1; omega) _)
  · show 0 ≤ x1.f0 ∧ x1.f0 < 18446744073709551616
    have rg := leN_range (cutL l (posOf pre + 2) (posOf pre + 10)) (cutL_range hr _ _)
    have h8 : (cutL l (posOf pre + 2) (posOf pre + 10)).length = 8 := by rw [cutL_length l _ _ (by have := recOk_room hok; omega)]; omega
    rw [h8] at rg
    rw [hx]
    have h9 := rg.2
    simp only [Nat.reducePow, Int.reducePow] at h9
    exact ⟨rg.1, h9⟩
end Go.Proofs.Ytbapokpkgonjkaa.Print
namespace Go.Proofs.Ytbapokpkgonjkaa.Print
open Go Go.RowKit Go.Proofs.YtbapokpkgonjkaaW.PrintWords Go.Proofs.YtbapokpkgonjkaaW.PrintLast Go.Proofs.YtbapokpkgonjkaaW.PrintMore
set_option linter.unusedVariables false
set_option linter.unusedSimpArgs false
attribute [local go_sem] Oper.semAt_some
set_option maxRecDepth 100000 in
theorem impl_whole_calls (A : Option Addr) (n c : Nat) (w : World) :
    Calls Try.prog 72 #[.slice A n c] w fun e w' => e = .returned (.func (.func 102) #[] #[.pointer (some ⟨w.heap.size, 0, none⟩)]) ∧ w' = w.alloc (.cells #[.slice A n c] 22) := by
  go_enter Try.func72, Try.ntmps72
  go_wp2_with fail
  go_ret
  exact ⟨rfl, rfl⟩
set_option maxHeartbeats 2000000 in
set_option maxRecDepth 100000 in
theorem impl_ReadLog_calls (A : Option Addr) (c : Nat) (l : List Int) (w : World) (h0 : Kd.C (Kd.int .u8) w A l.length l) (hc : l.length ≤ c) (hr : ∀ x ∈ l, 0 ≤ x ∧ x < 256) (hl2 : l.length ≤ 2097152) :
    Calls Try.prog 35 #[.slice A l.length c] w fun e w' => ∃ v1 : Value, e = .returned (.tuple #[v1, .int .i64 ((logF l).2 : Int)]) ∧ Kd.S k45 45 w' w.heap.size (fun _ => True) v1 (logF l).1 ∧ Below w.heap.size w w' := by
  have R0 := Aside0.mk h0
  have HC := Aside0.mk hc
  have HR := Aside0.mk hr
  have HL2 := Aside0.mk hl2
  clear h0 hc hr hl2
  refine (callsIn_wide (n := 5)).1 ?_
  refine callsIn_of_wp_marks Try.func35 rfl trivial ?_ rfl
  simp only [Try.ntmps35, List.size_toArray, List.length_cons, List.length_nil, Nat.reduceAdd, Nat.reduceSub, Array.replicate_succ, Array.replicate_zero, List.push_toArray, List.append_toArray, List.nil_append, List.cons_append]
  refine wpIn_wide.2 ?_
  go_wp2_with fail
  go_step3
  go_wp2_with fail
  go_step3
  go_wp2_with fail
  refine (impl_whole_calls A l.length c _).mono ?_
  rintro e w' ⟨rfl, rfl⟩
  go_wp2_with fail
  generalize hW0 : ((((w.alloc (.cells #[] 45)).alloc (.cells #[.slice (some ⟨w.heap.size, 0, none⟩) 0 0] 53)).alloc (.cells #[.int .i64 0] 3)).alloc (.cells #[.slice A l.length c] 22)) = W0
  have hsz : W0.heap.size = w.heap.size + 4 := by rw [← hW0]; simp only [World.size_alloc]
  have hWb : Below w.heap.size w W0 := by rw [← hW0]; repeat (first | exact Below.refl _ _ | apply below_alloc)
  have hWx : W0.heap[w.heap.size + 1 + 1 + 1]? = some (.cells #[.slice A l.length c] 22 (0, 0)) := by
    rw [← hW0]
    have := blk_new (((w.alloc (.cells #[] 45)).alloc (.cells #[.slice (some ⟨w.heap.size, 0, none⟩) 0 0] 53)).alloc (.cells #[.int .i64 0] 3)) (.cells #[.slice A l.length c] 22)
    simp only [World.size_alloc] at this
    exact this
  have hWl : LogB w (w.heap.size + 1) (w.heap.size + 1 + 1) (w.heap.size + 1 + 1 + 1) [] 0 W0 := by
    refine ⟨⟨.slice (some ⟨w.heap.size, 0, none⟩) 0 0, ?_, fun _ => 0, ?_⟩, ?_, ⟨_, hWx⟩, hWb⟩
    · rw [← hW0]
      have := blk_new (w.alloc (.cells #[] 45)) (.cells #[.slice (some ⟨w.heap.size, 0, none⟩) 0 0] 53)
      simp only [World.size_alloc] at this
      exact blk_alloc (blk_alloc this _) _
    · rw [← hW0]
      have h2 := World.ownsRow_lit (base := w.heap.size) (e := 45) (size := 2) w #[] 0 (Nat.le_refl _) (by decide) rfl
      refine Kd.R_alloc (Kd.R_alloc (Kd.R_alloc ⟨fun k hk => trivial, [], h2, Reps.none _ _⟩ _) _) _
    · rw [← hW0]
      have := blk_new ((w.alloc (.cells #[] 45)).alloc (.cells #[.slice (some ⟨w.heap.size, 0, none⟩) 0 0] 53)) (.cells #[.int .i64 0] 3)
      simp only [World.size_alloc] at this
      exact blk_alloc this _
  refine (wpIn_wide (n := 5)).1 ?_
  refine rangeFunc_boxed (α := S45 × Value) rfl (by omega) (gf := 102) (lb := #[.pointer (some ⟨w.heap.size + 1 + 1 + 1, 0, none⟩)]) rfl trivial (enters_of Try.func102 (by kernel_rfl) rfl) (encs := encI) (w.heap.size + 1 + 1 + 1) (KpI w.heap.size (w.heap.size + 1 + 1 + 1)) (okI l) (fun xs => recOk l (posOf xs) = false) (fun _ => True) (fun _ => rfl) (by omega) ?kt ?kb (fun pre W => LogB w (w.heap.size + 1) (w.heap.size + 1 + 1) (w.heap.size + 1 + 1 + 1) (pre.map (·.1)) (posOf pre) W ∧ Goes l pre) (fun pre W => ∃ q x, pre = q ++ [x] ∧ LogB w (w.heap.size + 1) (w.heap.size + 1 + 1) (w.heap.size + 1 + 1 + 1) (q.map (·.1)) (posOf q) W ∧ logF l = (q.map (·.1), posOf q)) ?i1 ?i2 ?i3 ?i4 ?i5 ?i6 ?i7 ?seq (AxI w A c l) ?ax 0 ?assign ?body ?done ?stop
  case kt => exact fun h k => ⟨h.1.trans k.1, k.2.trans h.2⟩
  case kb => exact fun W q o' h1 h2 => ⟨(Below.refl w.heap.size W).grown (grownBy_putObj' W q o') (by omega) (fun k e => by cases e; omega), World.putObj_heap_other (by omega)⟩
  case seq => exact fun lp J Jx W hB hJ hJx hY h0 => whole1_seq 3 w (w.heap.size + 1 + 1 + 1) (by omega) A c l R0.out HC.out HR.out HL2.out W0 hWb hWx lp J Jx W hB hJ hJx hY h0
  case i1 => exact fun s A B row hs hg hr => ⟨hs.1.own (by omega) hg hr, hs.2⟩
  case i2 =>
    rintro s A B row ⟨q, x, rfl, hs, hf⟩ hg hr
    exact ⟨q, x, rfl, hs.own (by omega) hg hr, hf⟩
  case i3 => exact fun s A B hs hb => ⟨hs.1.stays hb (by omega) (by omega) (by omega), hs.2⟩
  case i4 =>
    rintro s A B ⟨q, x, rfl, hs, hf⟩ hb
    exact ⟨q, x, rfl, hs.stays hb (by omega) (by omega) (by omega), hf⟩
  case i5 => exact fun s W hs => hs.1.cellsAt
  case i6 =>
    rintro s W ⟨q, x, rfl, hs, hf⟩
    exact hs.cellsAt
  case i7 => exact ⟨hWl, goes_nil l⟩
  case done =>
    rintro D xs W hD hno ⟨hb, hgo⟩ hK
    have hf := goes_done hgo hno
    obtain ⟨V, hV, hS⟩ := hb.bo
    have z0 := blk_cell hV 0
    have z1 := blk_cell hb.bs 0
    simp only [List.getElem?_toArray, List.getElem?_cons_zero] at z0 z1
    go_wp2_with fail
    go_region
    all_goals
      go_wp2_with fail
      refine ⟨by simp, .inl ⟨_, _, rfl, run_takeDeferred hK, ?_⟩⟩
      have hbd := hb.own (B := W0.heap.size) (by omega) (grown_of_below (below_drew1 (Below.refl W.heap.size W)) none) (fun r e => by cases e)
      have hb' := hbd.own (B := W0.heap.size) (by omega) (grownBy_putObj' W.drew D (.deferred none)) (fun r e => by cases e; exact ⟨hD, _, hK, rfl⟩)
      obtain ⟨V', hV', hS'⟩ := hb'.bo
      have hVV : V' = V := by
        have e1 : (W.drew.putObj D (.deferred none)).heap[w.heap.size + 1]? = W.heap[w.heap.size + 1]? := World.putObj_heap_other (by omega)
        rw [e1, hV] at hV'
        cases hV'
        rfl
      subst hVV
      refine ⟨.tuple #[V', .int .i64 (posOf xs : Int)], by simp [results, Try.results35, go_sem], ?_⟩
      rw [hf]
      exact ⟨V', rfl, hS', hb'.be⟩
  case stop =>
    rintro D pre W hD _ ⟨xs, x, rfl, hb, hf⟩ hK
    refine wpIn_wide.2 ?_
    obtain ⟨V, hV, hS⟩ := hb.bo
    have z0 := blk_cell hV 0
    have z1 := blk_cell hb.bs 0
    simp only [List.getElem?_toArray, List.getElem?_cons_zero] at z0 z1
    go_wp2_with fail
    go_region
    all_goals
      go_wp2_with fail
      refine ⟨by simp, .inl ⟨_, _, rfl, run_takeDeferred hK, ?_⟩⟩
      have hbd := hb.own (B := W0.heap.size) (by omega) (grown_of_below (below_drew1 (Below.refl W.heap.size W)) none) (fun r e => by cases e)
      have hb' := hbd.own (B := W0.heap.size) (by omega) (grownBy_putObj' W.drew D (.deferred none)) (fun r e => by cases e; exact ⟨hD, _, hK, rfl⟩)
      obtain ⟨V', hV', hS'⟩ := hb'.bo
      have hVV : V' = V := by
        have e1 : (W.drew.putObj D (.deferred none)).heap[w.heap.size + 1]? = W.heap[w.heap.size + 1]? := World.putObj_heap_other (by omega)
        rw [e1, hV] at hV'
        cases hV'
        rfl
      subst hVV
      refine ⟨.tuple #[V', .int .i64 (posOf xs : Int)], by simp [results, Try.results35, go_sem], ?_⟩
      rw [hf]
      exact ⟨V', rfl, hS', hb'.be⟩
  case ax => exact fun pre x a' => AxI.own W0.heap.size (by omega)
  case assign =>
    intro lp pre x Wi W K hi hbt hi' hok hK
    have h := readLog_assign w A c l lp pre x Wi W K hi.1 hi.2 hbt hi'.1 hok hK
    unfold actI at h
    simp only [encI, List.zip_toArray, List.zip_cons_cons, List.zip_nil_right, List.zipWith_cons_cons, List.foldl_toArray, List.size_toArray, List.length_cons, List.length_nil, List.foldl_toArray', List.foldl_cons, List.foldl_nil, List.setIfInBounds_toArray, List.set_cons_succ, List.set_cons_zero]
    exact h
  case body =>
    clear hWl hWx hWb hsz hW0
    rintro lp pre ⟨x1, x2⟩ a' W ⟨⟨N, Bx, V, rfl, hNB, hN4, hNW, hbx, hR, hV, hS⟩, hlb, ⟨hrok, hx1⟩, hgo⟩
    simp only at hbx hR hx1 ⊢
    obtain ⟨Ab, cb, rfl⟩ := Kd.R_slice hR
    obtain ⟨Av, cv, rfl⟩ := Kd.S_slice hS
    have hbs := hlb.bs
    have z0 := blk_cell hV 0
    have z1 := blk_cell hbs 0
    have z2 := blk_cell hbx 0
    have z3 := blk_cell hbx 1
    have f0 := blk_frozen hV 0
    have f1 := blk_frozen hbs 0
    simp only [List.getElem?_toArray, List.getElem?_cons_zero, List.getElem?_cons_succ] at z0 z1 z2 z3
    generalize hrs : pre.map (·.1) = rs at *
    generalize hmm : posOf pre = m at *
    have P0 := Aside0.mk (And.intro hNB (And.intro hN4 (And.intro hNW (And.intro hbx (And.intro hR (And.intro hV (And.intro hS (And.intro hlb (And.intro hrok (And.intro hx1 hgo))))))))))
    clear hNB hN4 hNW hbx hR hV hS hlb hrok hx1 hgo hbs
    unfold actI
    cases rs with
    | nil =>
      simp only [List.length_nil] at *
      have hP := P0.out
      have HA1 := Aside0.mk (show k45.M W w.heap.size (fun k => N ≤ k) x1 [.int .u64 x1.f0, .slice Ab x1.f1.length cb] from k45_mkM _ _ _ x1 (Kd.R_lower (Kd.R_mono (Kd.R_bound hP.2.2.2.2.1) (fun k hk => hk.2.1)) (by have := hP.2.1; omega)))
      have HA2 := Aside0.mk (show ∀ k, N ≤ k → True ∧ some k ≠ (Value.slice Av 0 cv).ownBlock from fun k hk => ⟨trivial, fun e => by have := (Kd.S_R hP.2.2.2.2.2.2.1).1 k e.symm; omega⟩)
      have HA3 := Aside0.mk (show Kd.S k45 45 W w.heap.size (fun k => True ∧ ¬ N ≤ k) (.slice Av 0 cv) (([] : List S45)) from Kd.S_mono hP.2.2.2.2.2.2.1 (fun k hk => ⟨trivial, by omega⟩))
      have HA4 := Aside0.mk hP.2.2.2.2.2.2.2.1.be
      have HA5 := Aside0.mk hP.2.2.2.2.2.2.2.1.be.size
      have HTY := Aside0.mk (Kd.S_typed hP.2.2.2.2.2.2.1)
      have HBA := Aside0.mk (Kd.S_base hP.2.2.2.2.2.2.1)
      have HZ := Aside0.mk (show (∀ w6, W.grownBy w6 (Value.slice Av 0 cv).ownBlock → w6.cell? ⟨w.heap.size + 1, 0, none⟩ = some (.slice Av 0 cv)) ∧ (∀ w6, W.grownBy w6 (Value.slice Av 0 cv).ownBlock → w6.frozen? ⟨w.heap.size + 1, 0, none⟩ = false) ∧ (∀ w6, W.grownBy w6 (Value.slice Av 0 cv).ownBlock → w6.cell? ⟨w.heap.size + 1 + 1, 0, none⟩ = some (.int .i64 (m : Int))) ∧ (∀ w6, W.grownBy w6 (Value.slice Av 0 cv).ownBlock → w6.frozen? ⟨w.heap.size + 1 + 1, 0, none⟩ = false) from
        ⟨fun w6 hg => (blk_cell (blk_grown hP.2.2.2.2.2.1 hg (Kd.S_ne hP.2.2.2.2.2.2.1 hP.2.2.2.2.2.1 (by decide))) 0).trans rfl, fun w6 hg => blk_frozen (blk_grown hP.2.2.2.2.2.1 hg (Kd.S_ne hP.2.2.2.2.2.2.1 hP.2.2.2.2.2.1 (by decide))) 0,
          fun w6 hg => (blk_cell (blk_grown hP.2.2.2.2.2.2.2.1.bs hg (Kd.S_ne hP.2.2.2.2.2.2.1 hP.2.2.2.2.2.2.2.1.bs (by decide))) 0).trans rfl, fun w6 hg => blk_frozen (blk_grown hP.2.2.2.2.2.2.2.1.bs hg (Kd.S_ne hP.2.2.2.2.2.2.1 hP.2.2.2.2.2.2.2.1.bs (by decide))) 0⟩)
      have hwm : wrap64 ((m : Int) + (14 + (x1.f1.length : Int))) = (m : Int) + (14 + (x1.f1.length : Int)) := by
        have g1 := recOk_room hP.2.2.2.2.2.2.2.2.1
        have g2 : x1.f1.length = recN l m := by
          rw [hP.2.2.2.2.2.2.2.2.2.1]
          simp only [recOf]
          rw [cutL_length _ _ _ (by omega)]
          omega
        have := HL2.out
        rw [show (m : Int) + (14 + (x1.f1.length : Int)) = ((m + 14 + x1.f1.length : Nat) : Int) by omega]
        exact wrap_nat _ (by omega) (by omega)
      clear hP
      have HA6 := Aside0.mk (show (([] : List S45).length + 1) * 32 ≤ 140737488355328 by decide)
      have HRS := Aside0.mk (And.intro hrs hmm)
      have HON := Aside0.mk (show goesOn [] x1 = true from rfl)
      clear hrs hmm
      gi_wp2_with (gi_at_builtin; refine S_append_in k45 (w0 := w) w.heap.size rfl (.tmp 34) (.tmp 36) 53 45 (.agg #[(.int .u64 0), (.slice none 0 0)]) 32 rfl Try.underlying53 info45 rfl (by decide) (by omega) (.slice Av 0 cv) (([] : List S45)) x1 [.int .u64 x1.f0, .slice Ab x1.f1.length cb] (fun _ => True) (fun k => N ≤ k) ?eS ?eX HA1.out HA2.out (fun _ _ => trivial) HA3.out HA4.out HA5.out HA6.out ?_; (case eS => first | rfl | simp [Act.eval, Act.put]); (case eX => first | rfl | simp [Act.eval, Act.put]); intro v1 w6 ho hb hg_ hat_; obtain ⟨Av1, cv1, rfl⟩ := Kd.S_slice ho; have HO6 := Aside0.mk ho; have HB6 := Aside0.mk hb; have HG6 := Aside0.mk hg_; have y0_ := HZ.out.1 w6 hg_; have y1_ := HZ.out.2.1 w6 hg_; have y2_ := HZ.out.2.2.1 w6 hg_; have y3_ := HZ.out.2.2.2 w6 hg_; clear ho hb hg_ hat_)
      exact round_end (x2 := .slice Ab x1.f1.length cb) HRS.out.1 HRS.out.2 P0.out.2.2.2.2.2.2.2.1 P0.out.2.2.2.2.2.1 HTY.out HBA.out HO6.out HG6.out P0.out.2.2.2.2.2.2.2.2.2.2 P0.out.2.2.2.2.2.2.2.2.1 P0.out.2.2.2.2.2.2.2.2.2.1 HON.out HR.out HL2.out
    | cons y0 r0 =>
      have hS1 := P0.out.2.2.2.2.2.2.1
      have hlen := Kd.S_lt hS1
      obtain ⟨gO, capO, eA, gb, gl, _⟩ := Kd.S_form hS1 (by simp)
      injection eA with eA _ eC
      subst eA
      subst eC
      obtain ⟨oki, cc, hcl, hM, hcc, hfr, hoki, hH⟩ := Kd.S_elem hS1 z45 ((r0.length : Nat) : Int) (Int.natCast_nonneg _) (by simp; omega)
      rw [Int.toNat_natCast] at hM
      obtain ⟨vl, rfl, _⟩ := k45_openM hM
      have x0 := hcc 0 _ rfl
      rw [show ((r0.length : Nat) : Int).toNat * k45.sz + 0 = r0.length * 2 by rw [Int.toNat_natCast]; rfl] at x0
      generalize hyl : (y0 :: r0).getD r0.length z45 = yl at *
      have hnr : r0.length + 1 ≤ 2097152 := by
        obtain ⟨k, g1, g2, g3, g4⟩ := P0.out.2.2.2.2.2.2.2.2.2.2
        have g5 := posOf_le pre
        have g6 : pre.length = r0.length + 1 := by rw [← List.length_map (f := (·.1)), hrs]; rfl
        have := HL2.out
        omega
      have hwl : wrap64 ((r0.length : Nat) : Int) = (r0.length : Int) := wrap_nat _ (by omega) (by omega)
      have hc1 : decide ((r0.length : Int) < (r0.length : Int) + 1) = true := decide_eq_true (by omega)
      have hc2 : decide (r0.length < r0.length + 1) = true := decide_eq_true (by omega)
      have hc3 : decide ((0 : Int) < (r0.length : Int) + 1) = true := decide_eq_true (by omega)
      have P1 := Aside0.mk (And.intro hcl (And.intro hM (And.intro hcc (And.intro hoki (And.intro hH (And.intro hyl (And.intro hnr (And.intro hrs hmm))))))))
      clear hcl hM hcc hfr hoki hH hyl hnr hrs hmm gb gl hlen
      have hP := P0.out
      have HA1 := Aside0.mk (show k45.M W w.heap.size (fun k => N ≤ k) x1 [.int .u64 x1.f0, .slice Ab x1.f1.length cb] from k45_mkM _ _ _ x1 (Kd.R_lower (Kd.R_mono (Kd.R_bound hP.2.2.2.2.1) (fun k hk => hk.2.1)) (by have := hP.2.1; omega)))
      have HA2 := Aside0.mk (show ∀ k, N ≤ k → True ∧ some k ≠ (Value.slice (some ⟨gO, 0, none⟩) (r0.length + 1) cv).ownBlock from fun k hk => ⟨trivial, fun e => by have := (Kd.S_R hP.2.2.2.2.2.2.1).1 k e.symm; omega⟩)
      have HA3 := Aside0.mk (show Kd.S k45 45 W w.heap.size (fun k => True ∧ ¬ N ≤ k) (.slice (some ⟨gO, 0, none⟩) (r0.length + 1) cv) ((y0 :: r0)) from Kd.S_mono hP.2.2.2.2.2.2.1 (fun k hk => ⟨trivial, by omega⟩))
      have HA4 := Aside0.mk hP.2.2.2.2.2.2.2.1.be
      have HA5 := Aside0.mk hP.2.2.2.2.2.2.2.1.be.size
      have HTY := Aside0.mk (Kd.S_typed hP.2.2.2.2.2.2.1)
      have HBA := Aside0.mk (Kd.S_base hP.2.2.2.2.2.2.1)
      have HZ := Aside0.mk (show (∀ w6, W.grownBy w6 (Value.slice (some ⟨gO, 0, none⟩) (r0.length + 1) cv).ownBlock → w6.cell? ⟨w.heap.size + 1, 0, none⟩ = some (.slice (some ⟨gO, 0, none⟩) (r0.length + 1) cv)) ∧ (∀ w6, W.grownBy w6 (Value.slice (some ⟨gO, 0, none⟩) (r0.length + 1) cv).ownBlock → w6.frozen? ⟨w.heap.size + 1, 0, none⟩ = false) ∧ (∀ w6, W.grownBy w6 (Value.slice (some ⟨gO, 0, none⟩) (r0.length + 1) cv).ownBlock → w6.cell? ⟨w.heap.size + 1 + 1, 0, none⟩ = some (.int .i64 (m : Int))) ∧ (∀ w6, W.grownBy w6 (Value.slice (some ⟨gO, 0, none⟩) (r0.length + 1) cv).ownBlock → w6.frozen? ⟨w.heap.size + 1 + 1, 0, none⟩ = false) from
        ⟨fun w6 hg => (blk_cell (blk_grown hP.2.2.2.2.2.1 hg (Kd.S_ne hP.2.2.2.2.2.2.1 hP.2.2.2.2.2.1 (by decide))) 0).trans rfl, fun w6 hg => blk_frozen (blk_grown hP.2.2.2.2.2.1 hg (Kd.S_ne hP.2.2.2.2.2.2.1 hP.2.2.2.2.2.1 (by decide))) 0,
          fun w6 hg => (blk_cell (blk_grown hP.2.2.2.2.2.2.2.1.bs hg (Kd.S_ne hP.2.2.2.2.2.2.1 hP.2.2.2.2.2.2.2.1.bs (by decide))) 0).trans rfl, fun w6 hg => blk_frozen (blk_grown hP.2.2.2.2.2.2.2.1.bs hg (Kd.S_ne hP.2.2.2.2.2.2.1 hP.2.2.2.2.2.2.2.1.bs (by decide))) 0⟩)
      have hwm : wrap64 ((m : Int) + (14 + (x1.f1.length : Int))) = (m : Int) + (14 + (x1.f1.length : Int)) := by
        have g1 := recOk_room hP.2.2.2.2.2.2.2.2.1
        have g2 : x1.f1.length = recN l m := by
          rw [hP.2.2.2.2.2.2.2.2.2.1]
          simp only [recOf]
          rw [cutL_length _ _ _ (by omega)]
          omega
        have := HL2.out
        rw [show (m : Int) + (14 + (x1.f1.length : Int)) = ((m + 14 + x1.f1.length : Nat) : Int) by omega]
        exact wrap_nat _ (by omega) (by omega)
      clear hP
      have HA6 := Aside0.mk (show ((y0 :: r0).length + 1) * 32 ≤ 140737488355328 by have := P1.out.2.2.2.2.2.2.1; simp only [List.length_cons]; omega)
      have HRS := Aside0.mk P1.out.2.2.2.2.2.2.2
      have hyr : 0 ≤ yl.f0 ∧ yl.f0 < 18446744073709551616 := by
        obtain ⟨k, g1, g2, g3, g4⟩ := P0.out.2.2.2.2.2.2.2.2.2.2
        obtain ⟨y, h1, h2⟩ := last_in P1.out.2.2.2.2.2.2.2.1 P1.out.2.2.2.2.2.1
        rw [← h2]
        exact g4 y h1
      have HGW := Aside0.mk (goesOn_wrap (x := x1) (last_of rfl P1.out.2.2.2.2.2.1) hyr.1 hyr.2)
      clear hyr
      by_cases e1 : IntKind.u64.wrap (yl.f0 + 1) = 0
      · have HE := Aside0.mk (show goesOn (y0 :: r0) x1 = false by rw [HGW.out, decide_eq_true e1]; rfl)
        have b1 : (IntKind.u64.wrap (yl.f0 + 1) == 0) = true := beq_iff_eq.2 e1
        clear e1
        gi_wp2_with fail
        refine ⟨KeepsOthers.refl _, ?_, goes_stop (x := x1) P0.out.2.2.2.2.2.2.2.2.2.2 (by rw [HRS.out.2]; exact P0.out.2.2.2.2.2.2.2.2.2.1) (by rw [HRS.out.1]; exact HE.out)⟩
        rw [HRS.out.1, HRS.out.2]
        exact P0.out.2.2.2.2.2.2.2.1
      · have b1 : (IntKind.u64.wrap (yl.f0 + 1) == 0) = false := beq_eq_false_iff_ne.2 e1
        by_cases e2 : x1.f0 = IntKind.u64.wrap (yl.f0 + 1)
        · have HON := Aside0.mk (show goesOn (y0 :: r0) x1 = true by rw [HGW.out, decide_eq_false e1, decide_eq_true e2]; rfl)
          have b2 : (x1.f0 != IntKind.u64.wrap (yl.f0 + 1)) = false := by rw [← e2]; simp
          clear e1 e2
          gi_wp2_with (gi_at_builtin; refine S_append_in k45 (w0 := w) w.heap.size rfl (.tmp 34) (.tmp 36) 53 45 (.agg #[(.int .u64 0), (.slice none 0 0)]) 32 rfl Try.underlying53 info45 rfl (by decide) (by omega) (.slice (some ⟨gO, 0, none⟩) (r0.length + 1) cv) ((y0 :: r0)) x1 [.int .u64 x1.f0, .slice Ab x1.f1.length cb] (fun _ => True) (fun k => N ≤ k) ?eS ?eX HA1.out HA2.out (fun _ _ => trivial) HA3.out HA4.out HA5.out HA6.out ?_; (case eS => first | rfl | simp [Act.eval, Act.put]); (case eX => first | rfl | simp [Act.eval, Act.put]); intro v1 w6 ho hb hg_ hat_; obtain ⟨Av1, cv1, rfl⟩ := Kd.S_slice ho; have HO6 := Aside0.mk ho; have HB6 := Aside0.mk hb; have HG6 := Aside0.mk hg_; have y0_ := HZ.out.1 w6 hg_; have y1_ := HZ.out.2.1 w6 hg_; have y2_ := HZ.out.2.2.1 w6 hg_; have y3_ := HZ.out.2.2.2 w6 hg_; clear ho hb hg_ hat_)
          exact round_end (x2 := .slice Ab x1.f1.length cb) HRS.out.1 HRS.out.2 P0.out.2.2.2.2.2.2.2.1 P0.out.2.2.2.2.2.1 HTY.out HBA.out (by have h := HO6.out; simp only [List.length_cons, List.length_append, List.length_nil, List.cons_append, Nat.zero_add] at h ⊢; exact h) HG6.out P0.out.2.2.2.2.2.2.2.2.2.2 P0.out.2.2.2.2.2.2.2.2.1 P0.out.2.2.2.2.2.2.2.2.2.1 HON.out HR.out HL2.out
        · have HE := Aside0.mk (show goesOn (y0 :: r0) x1 = false by rw [HGW.out, decide_eq_false e1, decide_eq_false e2]; rfl)
          have b2 : (x1.f0 != IntKind.u64.wrap (yl.f0 + 1)) = true := bne_iff_ne.2 e2
          clear e1 e2
          gi_wp2_with fail
          refine ⟨KeepsOthers.refl _, ?_, goes_stop (x := x1) P0.out.2.2.2.2.2.2.2.2.2.2 (by rw [HRS.out.2]; exact P0.out.2.2.2.2.2.2.2.2.2.1) (by rw [HRS.out.1]; exact HE.out)⟩
          rw [HRS.out.1, HRS.out.2]
          exact P0.out.2.2.2.2.2.2.2.1
end Go.Proofs.Ytbapokpkgonjkaa.Print
namespace Go.Proofs.Ytbapokpkgonjkaa.Print
open Go.RowKit Go.Proofs.YtbapokpkgonjkaaW.PrintWords Go.Proofs.YtbapokpkgonjkaaW.PrintLast Go.Proofs.YtbapokpkgonjkaaW.PrintMore
set_option linter.unusedVariables false
def logO (l : List Int) : Option (List S45 × Int) := if (∀ x ∈ l, 0 ≤ x ∧ x < 256) ∧ l.length ≤ 2097152 then some ((logF l).1, ((logF l).2 : Int)) else none
theorem logO_some {l : List Int} {r : List S45 × Int} (h : logO l = some r) : (∀ x ∈ l, 0 ≤ x ∧ x < 256) ∧ l.length ≤ 2097152 ∧ r = ((logF l).1, ((logF l).2 : Int)) := by
  unfold logO at h
  split at h
  · rename_i hh
    exact ⟨hh.1, hh.2, (Option.some.inj h).symm⟩
  · cases h
def spec_ReadLog.f (l : List Int) : Option (List S45 × Int) := logO l
def impl_ReadLog.f (l : List Int) : Option (List S45 × Int) := logO l
theorem spec_ReadLog.calls (A0 : Option Addr) (c0 : Nat) (l0 : List Int) (r1 : List S45) (r2 : Int) (w : World) (hr0 : Kd.C (Kd.int .u8) w A0 l0.length l0) (hc0 : l0.length ≤ c0) (h : spec_ReadLog.f l0 = some (r1, r2)) :
    Calls Try.prog 34 #[.slice A0 l0.length c0] w fun e w' => ∃ v0_ : Value, e = .returned (.tuple #[v0_, .int .i64 r2]) ∧ Kd.S k45 45 w' w.heap.size (fun _ => True) v0_ r1 ∧ Below w.heap.size w w' := by
  obtain ⟨h1, h2, h3⟩ := logO_some h
  cases h3
  exact spec_ReadLog_calls A0 c0 l0 w hr0 hc0 h1 h2
theorem impl_ReadLog.calls (A0 : Option Addr) (c0 : Nat) (l0 : List Int) (r1 : List S45) (r2 : Int) (w : World) (hr0 : Kd.C (Kd.int .u8) w A0 l0.length l0) (hc0 : l0.length ≤ c0) (h : impl_ReadLog.f l0 = some (r1, r2)) :
    Calls Try.prog 35 #[.slice A0 l0.length c0] w fun e w' => ∃ v0_ : Value, e = .returned (.tuple #[v0_, .int .i64 r2]) ∧ Kd.S k45 45 w' w.heap.size (fun _ => True) v0_ r1 ∧ Below w.heap.size w w' := by
  obtain ⟨h1, h2, h3⟩ := logO_some h
  cases h3
  exact impl_ReadLog_calls A0 c0 l0 w hr0 hc0 h1 h2
end Go.Proofs.Ytbapokpkgonjkaa.Print
