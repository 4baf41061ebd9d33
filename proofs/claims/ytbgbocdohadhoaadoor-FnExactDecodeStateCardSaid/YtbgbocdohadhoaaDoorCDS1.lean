/- Texts of this session, joined by its own program. -/
import Derived.WalkSpells
import Derived.Laws.CopyRow
import Derived.ProofKit
import Derived.Lib.SplitLaws
import Derived.Lib.Bytes
import Derived.Lib.Bytealg
import Derived.Laws.BytesArg
import Derived.Test.YtbgbocdohadhoaaDoorCDS0
namespace Go.Proofs.YtbgbocdohadhoaaDoor.Print
open Go Go.RowKit Go.Proofs.YtbgbocdohadhoaaDoorW.PrintWords Go.Proofs.YtbgbocdohadhoaaDoorW.PrintLast Go.Proofs.YtbgbocdohadhoaaDoorW.PrintMore
set_option linter.unusedVariables false
set_option linter.unusedSimpArgs false
def spec_l3readText.f (k : Nat) (l0 : List Int) (a1 : Int) : Option (List Int × Int) := (spec_l3readVar.f k l0 a1).bind fun bt498 => (if bt498.2 < 0 then (some (([] : List Int), (-1))) else (if bt498.1 > (IntKind.u64.wrap (wrap64 ((l0.length : Int) - bt498.2))) then (some (([] : List Int), (-1))) else (if 0 ≤ bt498.2 then (if bt498.2 ≤ (wrap64 (bt498.2 + (wrap64 (bt498.1)))) then (if (wrap64 (bt498.2 + (wrap64 (bt498.1)))) ≤ (l0.length : Int) then ((spec_l1copy.f ((l0.take ((wrap64 (bt498.2 + (wrap64 (bt498.1)))) : Int).toNat).drop (bt498.2 : Int).toNat)).bind fun t501 => (some (t501, wrap64 (bt498.2 + (wrap64 (bt498.1)))))) else (none)) else (none)) else (none))))
set_option maxHeartbeats 8000000 in
set_option maxRecDepth 100000 in
theorem spec_l3readText.calls (k : Nat) (A0 : Option Addr) (c0 : Nat) (l0 : List Int) (a1 : Int) (r1 : List Int) (r2 : Int) (w : World) (hr0 : Kd.C (Kd.int .u8) w A0 l0.length l0) (hc0 : l0.length ≤ c0) (h : spec_l3readText.f k l0 a1 = some (r1, r2)) :
  Calls Tryd.prog 66 #[.slice A0 l0.length c0, .int .i64 a1] w fun e w' => ∃ v0_ : Value, e = .returned (.tuple #[v0_, .int .i64 r2]) ∧ Kd.R (Kd.int .u8) 5 w' w.heap.size (fun _ => True) v0_ r1 ∧ Below w.heap.size w w' := by
 have HR0 := Aside0.mk hr0
 have HC0 := Aside0.mk hc0
 clear hr0 hc0
 have HB := Aside0.mk (Below.refl w.heap.size w)
 have H : ((spec_l3readVar.f k l0 a1).bind fun bt498 => (if bt498.2 < 0 then (some (([] : List Int), (-1))) else (if bt498.1 > (IntKind.u64.wrap (wrap64 ((l0.length : Int) - bt498.2))) then (some (([] : List Int), (-1))) else (if 0 ≤ bt498.2 then (if bt498.2 ≤ (wrap64 (bt498.2 + (wrap64 (bt498.1)))) then (if (wrap64 (bt498.2 + (wrap64 (bt498.1)))) ≤ (l0.length : Int) then ((spec_l1copy.f ((l0.take ((wrap64 (bt498.2 + (wrap64 (bt498.1)))) : Int).toNat).drop (bt498.2 : Int).toNat)).bind fun t501 => (some (t501, wrap64 (bt498.2 + (wrap64 (bt498.1)))))) else (none)) else (none)) else (none))))) = some (r1, r2) := h
 clear h
 replace H := Option.bind_eq_some_iff.mp H
 obtain ⟨⟨t498, t499⟩, A30, H⟩ := H
 replace H : (if t499 < 0 then (some (([] : List Int), (-1))) else (if t498 > (IntKind.u64.wrap (wrap64 ((l0.length : Int) - t499))) then (some (([] : List Int), (-1))) else (if 0 ≤ t499 then (if t499 ≤ (wrap64 (t499 + (wrap64 (t498)))) then (if (wrap64 (t499 + (wrap64 (t498)))) ≤ (l0.length : Int) then ((spec_l1copy.f ((l0.take ((wrap64 (t499 + (wrap64 (t498)))) : Int).toNat).drop (t499 : Int).toNat)).bind fun t501 => (some (t501, wrap64 (t499 + (wrap64 (t498)))))) else (none)) else (none)) else (none)))) = some (r1, r2) := H
 have A3 := Aside0.mk A30
 clear A30
 by_cases c4 : t499 < 0
 ·
  rw [if_pos c4] at H
  have c4b0 : decide (t499 < 0) = true := decide_eq_true c4
  clear c4
  simp only [Option.some.injEq, Prod.mk.injEq] at H
  obtain ⟨rfl, rfl⟩ := H
  go_enter Tryd.func66, Tryd.ntmps66
  go_wp2_with (first | ((with_reducible refine gate_callee (f := 65) rfl ?_); refine goesL_ (some 11) rfl rfl Tryd.func65 (by kernel_rfl) rfl #[.slice A0 l0.length c0, .int .i64 a1] rfl (by (try simp only [List.map_toArray, List.map_cons, List.map_nil]); first | done | rfl | (simp only [List.length_drop, List.length_take]; rfl)) ?_; (with_reducible refine (spec_l3readVar.calls k _ _ l0 a1 t498 t499 _ ?side1 ?side2 A3.out).mono ?_); (case side1 => repeat (first | exact HR0.out | (with_reducible refine Kd.C_alloc ?_ _) | (with_reducible refine Kd.C_drewN ?_ _) | (with_reducible refine Kd.C_drew ?_))); (case side2 => exact HC0.out); rintro e w' ⟨rfl, ⟨nd, rfl⟩⟩; refine ⟨_, rfl, ?_⟩))
  go_ret2
  exact ⟨_, by first | rfl | (simp [errW_none, errW_some] <;> rfl) | (simp [*, errW_none, errW_some] <;> rfl), by first | exact Kd.R_nil _ _ _ _ _ | exact Kd.N_nil _ _ _ _ _ | exact Kd.V_nil _ _ _ _ _ | exact Kd.Q_nil _ _ _ _ _ | exact Kd.S_nil _ _ _ _ _, by repeat (first | (with_reducible first | exact HB.out | apply below_alloc | apply pw_below_drewN | apply below_drew1) | exact HB.out)⟩
 ·
  rw [if_neg c4] at H
  have c4b0 : decide (t499 < 0) = false := decide_eq_false c4
  clear c4
  by_cases c5 : t498 > (IntKind.u64.wrap (wrap64 ((l0.length : Int) - t499)))
  ·
   rw [if_pos c5] at H
   have c5b0 : decide ((IntKind.u64.wrap (wrap64 ((l0.length : Int) - t499))) < t498) = true := decide_eq_true c5
   clear c5
   simp only [Option.some.injEq, Prod.mk.injEq] at H
   obtain ⟨rfl, rfl⟩ := H
   go_enter Tryd.func66, Tryd.ntmps66
   go_wp2_with (first | ((with_reducible refine gate_callee (f := 65) rfl ?_); refine goesL_ (some 11) rfl rfl Tryd.func65 (by kernel_rfl) rfl #[.slice A0 l0.length c0, .int .i64 a1] rfl (by (try simp only [List.map_toArray, List.map_cons, List.map_nil]); first | done | rfl | (simp only [List.length_drop, List.length_take]; rfl)) ?_; (with_reducible refine (spec_l3readVar.calls k _ _ l0 a1 t498 t499 _ ?side1 ?side2 A3.out).mono ?_); (case side1 => repeat (first | exact HR0.out | (with_reducible refine Kd.C_alloc ?_ _) | (with_reducible refine Kd.C_drewN ?_ _) | (with_reducible refine Kd.C_drew ?_))); (case side2 => exact HC0.out); rintro e w' ⟨rfl, ⟨nd, rfl⟩⟩; refine ⟨_, rfl, ?_⟩))
   go_ret2
   exact ⟨_, by first | rfl | (simp [errW_none, errW_some] <;> rfl) | (simp [*, errW_none, errW_some] <;> rfl), by first | exact Kd.R_nil _ _ _ _ _ | exact Kd.N_nil _ _ _ _ _ | exact Kd.V_nil _ _ _ _ _ | exact Kd.Q_nil _ _ _ _ _ | exact Kd.S_nil _ _ _ _ _, by repeat (first | (with_reducible first | exact HB.out | apply below_alloc | apply pw_below_drewN | apply below_drew1) | exact HB.out)⟩
  ·
   rw [if_neg c5] at H
   have c5b0 : decide ((IntKind.u64.wrap (wrap64 ((l0.length : Int) - t499))) < t498) = false := decide_eq_false c5
   clear c5
   by_cases c6 : 0 ≤ t499
   ·
    rw [if_pos c6] at H
    have c6b0 := eq_true c6
    have c6b1 : decide (0 ≤ t499) = true := decide_eq_true c6
    clear c6
    by_cases c7 : t499 ≤ (wrap64 (t499 + (wrap64 (t498))))
    ·
     rw [if_pos c7] at H
     have c7b0 := eq_true c7
     have c7b1 : decide (t499 ≤ (wrap64 (t499 + (wrap64 (t498))))) = true := decide_eq_true c7
     by_cases c8 : (wrap64 (t499 + (wrap64 (t498)))) ≤ (l0.length : Int)
     ·
      rw [if_pos c8] at H
      have c8b0 := eq_true c8
      have c8b1 : decide ((wrap64 (t499 + (wrap64 (t498)))) ≤ (l0.length : Int)) = true := decide_eq_true c8
      replace H := Option.bind_eq_some_iff.mp H
      obtain ⟨t501, A90, H⟩ := H
      replace H : (some (t501, wrap64 (t499 + (wrap64 (t498))))) = some (r1, r2) := H
      have A9 := Aside0.mk A90
      clear A90
      simp only [Option.some.injEq, Prod.mk.injEq] at H
      obtain ⟨rfl, rfl⟩ := H
      go_enter Tryd.func66, Tryd.ntmps66
      go_wp2_with (first | ((with_reducible refine gate_callee (f := 65) rfl ?_); refine goesL_ (some 11) rfl rfl Tryd.func65 (by kernel_rfl) rfl #[.slice A0 l0.length c0, .int .i64 a1] rfl (by (try simp only [List.map_toArray, List.map_cons, List.map_nil]); first | done | rfl | (simp only [List.length_drop, List.length_take]; rfl)) ?_; (with_reducible refine (spec_l3readVar.calls k _ _ l0 a1 t498 t499 _ ?side1 ?side2 A3.out).mono ?_); (case side1 => repeat (first | exact HR0.out | (with_reducible refine Kd.C_alloc ?_ _) | (with_reducible refine Kd.C_drewN ?_ _) | (with_reducible refine Kd.C_drew ?_))); (case side2 => exact HC0.out); rintro e w' ⟨rfl, ⟨nd, rfl⟩⟩; refine ⟨_, rfl, ?_⟩; obtain ⟨i010, hi010, _, hsz10, _⟩ := info_parts info5; obtain ⟨A10, hcut10, hA10, hC10⟩ := print_mid_of (P := Tryd.prog) (Value.int .u8) 0 22 5 .i64 .i64 Tryd.underlying22 hi010 hsz10 A0 c0 l0 t499 (wrap64 (t499 + (wrap64 (t498)))) (of_decide_eq_true (by first | (with_reducible assumption) | assumption)) (by first | omega | exact of_decide_eq_true (by first | (with_reducible assumption) | assumption)) (of_decide_eq_true (by first | (with_reducible assumption) | assumption)) HC0.out; have HR500 := Aside0.mk (Kd.C_of_reads (h1 := fun _ => rfl) (hA10 _ (Kd.reads_of_C HR0.out))); have HC500 := Aside0.mk hC10; clear hA10 hC10 hi010 hsz10) | ((with_reducible refine gate_callee (f := 108) rfl ?_); refine goesL_ (some 32) rfl rfl Tryd.func108 (by kernel_rfl) rfl #[.slice A10 ((l0.take ((wrap64 (t499 + (wrap64 (t498)))) : Int).toNat).drop (t499 : Int).toNat).length (c0 - t499.toNat)] rfl (by (try simp only [List.map_toArray, List.map_cons, List.map_nil]); first | done | (rw [show ((l0.take ((wrap64 (t499 + (wrap64 (t498)))) : Int).toNat).drop (t499 : Int).toNat).length = ((wrap64 (t499 + (wrap64 (t498)))).toNat - t499.toNat) from (by rw [List.length_drop, List.length_take]; have h_ : ((wrap64 (t499 + (wrap64 (t498)))) : Int) ≤ (l0.length : Int) := of_decide_eq_true (by first | (with_reducible assumption) | assumption); omega)] <;> rfl) | rfl | (simp only [List.length_drop, List.length_take]; rfl)) ?_; (with_reducible refine (spec_l1copy.calls _ _ ((l0.take ((wrap64 (t499 + (wrap64 (t498)))) : Int).toNat).drop (t499 : Int).toNat) t501 _ ?side1 ?side2 A9.out).mono ?_); (case side1 => repeat (first | exact HR500.out | (with_reducible refine Kd.C_alloc ?_ _) | (with_reducible refine Kd.C_drewN ?_ _) | (with_reducible refine Kd.C_drew ?_))); (case side2 => exact HC500.out); rintro e w11 ⟨v502, rfl, ho0, hb⟩; refine ⟨_, rfl, ?_⟩; have n0_ := Aside0.mk (Kd.R_lower ho0 (below_size (by repeat (first | (with_reducible first | exact HB.out | apply below_alloc | apply pw_below_drewN | apply below_drew1) | exact HB.out)))); have n1_ := Aside0.mk (below_step (by repeat (first | (with_reducible first | exact HB.out | apply below_alloc | apply pw_below_drewN | apply below_drew1) | exact HB.out)) hb); clear HB; have HO503 := n0_; have HB := n1_; clear n0_ n1_; (try clear hb); (try clear hb2); (try clear hk); (try clear hi); (try clear ho0)))
      go_ret2
      exact ⟨_, by first | rfl | (simp [errW_none, errW_some] <;> rfl) | (simp [*, errW_none, errW_some] <;> rfl), by (with_reducible repeat (first | apply Kd.R_alloc | apply Kd.R_drewN | apply Kd.R_drew)); exact HO503.out, by repeat (first | (with_reducible first | exact HB.out | apply below_alloc | apply pw_below_drewN | apply below_drew1) | exact HB.out)⟩
     ·
      rw [if_neg c8] at H
      exact absurd H (by simp)
    ·
     rw [if_neg c7] at H
     exact absurd H (by simp)
   ·
    rw [if_neg c6] at H
    exact absurd H (by simp)
theorem and_byte (y : Int) (h : 0 ≤ y) (h1 : y < 256) : Go.bits .and .u8 y 127 = y % 128 := by
 have : ∀ n : Fin 256, Go.bits .and .u8 ((n.1 : Nat) : Int) 127 = ((n.1 : Nat) : Int) % 128 := by decide +kernel
 have := this ⟨y.toNat, by omega⟩
 rwa [show ((y.toNat : Nat) : Int) = y by omega] at this
def rv : Nat → Nat → Int → List Int → Option (Int × List Int)
 | 0, _, _, _ => none
 | _ + 1, _, _, [] => none
 | d + 1, i, v, c :: l => if c < 128 then some (Go.bits .or .u64 v (IntKind.u64.wrap (c % 128 * 2 ^ (7 * i))), l) else rv d (i + 1) (Go.bits .or .u64 v (IntKind.u64.wrap (c % 128 * 2 ^ (7 * i)))) l
theorem numL_bad : ∀ (d i : Nat) (v : Int) (l : List Int), (numL d i v l true).2.2 = true
 | 0, _, _, _ => rfl
 | d + 1, i, v, l => by
  unfold numL
  split
  ·
   rfl
  ·
   exact numL_bad d _ _ _
theorem numL_rv : ∀ (d i : Nat) (v : Int) (l : List Int), (∀ x ∈ l, 0 ≤ x ∧ x < 256) → (∀ n r, rv d i v l = some (n, r) → numL d i v l false = (n, r, false)) ∧ (rv d i v l = none → (numL d i v l false).2.2 = true)
 | 0, _, _, _, _ => ⟨by intro n r h; simp [rv] at h, fun _ => rfl⟩
 | d + 1, i, v, [], _ => ⟨by intro n r h; simp [rv] at h, fun _ => by simp [numL]⟩
 | d + 1, i, v, c :: l, hr => by
  have hc := hr c (by simp)
  have ih := numL_rv d (i + 1) (Go.bits .or .u64 v (IntKind.u64.wrap (c % 128 * 2 ^ (7 * i)))) l (fun x hx => hr x (by simp [hx]))
  unfold numL rv
  simp only [List.headD_cons, List.tail_cons, List.isEmpty_cons, Bool.or_false]
  rw [and_byte c hc.1 hc.2, u64_idI (c % 128) (by omega) (by omega)]
  split
  ·
   refine ⟨fun n r h => ?_, fun h => by cases h⟩
   have := Option.some.inj h
   rw [Prod.mk.injEq] at this
   rw [← this.1, ← this.2]
  ·
   exact ih
theorem cntL_bad (l : List Int) : (cntL l true).2.2 = true := by
 unfold cntL
 split
 ·
  rfl
 ·
  exact numL_bad _ _ _ _
theorem txtL_bad (l : List Int) : (txtL l true).2.2 = true := cntL_bad l
def rdT (l : List Int) : Option (List Int × List Int) := (rv 10 0 0 l).bind fun x => if (x.2.length : Int) < x.1 then none else some (x.2.take x.1.toNat, x.2.drop x.1.toNat)
def rdB : List Int → Option (Int × List Int)
 | [] => none
 | c :: r => some (c, r)
theorem rv_sub : ∀ (d i : Nat) (v : Int) (l : List Int) (n : Int) (r : List Int), rv d i v l = some (n, r) → ∃ k, r = l.drop k ∧ 0 < k ∧ k ≤ l.length
 | 0, _, _, _, _, _, h => by simp [rv] at h
 | d + 1, i, v, [], _, _, h => by simp [rv] at h
 | d + 1, i, v, c :: l, n, r, h => by
  unfold rv at h
  split at h
  ·
   have := Option.some.inj h
   rw [Prod.mk.injEq] at this
   exact ⟨1, this.2.symm, by omega, by simp⟩
  ·
   obtain ⟨k, rfl, h0, h1⟩ := rv_sub d _ _ _ _ _ h
   exact ⟨k + 1, rfl, by omega, by simp; omega⟩
theorem drop_bytes {l : List Int} (hr : ∀ x ∈ l, 0 ≤ x ∧ x < 256) (k : Nat) : ∀ x ∈ l.drop k, 0 ≤ x ∧ x < 256 := fun x hx => hr x (List.mem_of_mem_drop hx)
theorem rv_bytes {d i : Nat} {v : Int} {l : List Int} {n : Int} {r : List Int} (hr : ∀ x ∈ l, 0 ≤ x ∧ x < 256) (h : rv d i v l = some (n, r)) : ∀ x ∈ r, 0 ≤ x ∧ x < 256 := by
 obtain ⟨k, rfl, _⟩ := rv_sub _ _ _ _ _ _ h
 exact drop_bytes hr k
theorem rdT_bytes {l p r : List Int} (hr : ∀ x ∈ l, 0 ≤ x ∧ x < 256) (h : rdT l = some (p, r)) : ∀ x ∈ r, 0 ≤ x ∧ x < 256 := by
 unfold rdT at h
 rcases hq : rv 10 0 0 l with _ | ⟨n, r1⟩
 ·
  rw [hq] at h; cases h
 ·
  rw [hq, Option.bind_some] at h
  simp only at h
  split at h
  ·
   cases h
  ·
   have := Option.some.inj h
   rw [Prod.mk.injEq] at this
   rw [← this.2]
   exact drop_bytes (rv_bytes hr hq) _
theorem txtL_rd (l : List Int) (hr : ∀ x ∈ l, 0 ≤ x ∧ x < 256) : (∀ p r, rdT l = some (p, r) → txtL l false = (p, r, false)) ∧ (rdT l = none → (txtL l false).2.2 = true) := by
 obtain ⟨h1, h2⟩ := numL_rv 10 0 0 l hr
 unfold rdT
 rcases hq : rv 10 0 0 l with _ | ⟨n, r1⟩
 ·
  refine ⟨fun p r h => by simp at h, fun _ => ?_⟩
  have := h2 hq
  unfold txtL cntL
  split
  ·
   rfl
  ·
   exact this
 ·
  have hN := h1 n r1 hq
  simp only [Option.bind_some]
  unfold txtL cntL
  rw [hN]
  by_cases hlt : (r1.length : Int) < n
  ·
   rw [if_pos hlt]
   exact ⟨fun p r h => by simp [if_pos hlt] at h, fun _ => by simp [if_pos hlt]⟩
  ·
   rw [if_neg hlt]
   refine ⟨fun p r h => ?_, fun h => by cases h⟩
   have := Option.some.inj h
   rw [Prod.mk.injEq] at this
   rw [if_neg hlt, ← this.1, ← this.2]
theorem shl_seven (x : Int) (i : Nat) (h : i < 10) : shl .u64 x (IntKind.u64.wrap (wrap64 (7 * (i : Int)))) = IntKind.u64.wrap (x * 2 ^ (7 * i)) := by
 have e : IntKind.u64.wrap (wrap64 (7 * (i : Int))) = ((7 * i : Nat) : Int) := by
  have e1 : wrap64 (7 * (i : Int)) = 7 * (i : Int) := by unfold wrap64; omega
  rw [e1, u64_idI _ (by omega) (by omega)]
  omega
 rw [e]
 unfold shl
 rw [Int.toNat_natCast, Nat.min_eq_left (by show 7 * i ≤ 64; omega)]
theorem wrap_two (a i : Nat) (h : a + i ≤ 140737488355328) : wrap64 ((a : Int) + (i : Int)) = ((a + i : Nat) : Int) := by unfold wrap64; omega
theorem readVar_loop (b : List Int) (hr : ∀ x ∈ b, 0 ≤ x ∧ x < 256) (hb : b.length ≤ 2097152) (a : Nat) : ∀ (d i k : Nat) (v : Int), i + d = 10 → a ≤ b.length → 2 * d + 1 ≤ k →
  spec_l3readVar.l0 k b (a : Int) v (i : Int) = match rv d i v (b.drop (a + i)) with | none => some (0, -1) | some (n, r) => some (n, ((b.length - r.length : Nat) : Int))
 | 0, i, k, v, hd, _, hk => by
  obtain ⟨k, rfl⟩ : ∃ m, k = m + 1 := ⟨k - 1, by omega⟩
  rw [spec_l3readVar.l0, if_neg (by omega)]
  rfl
 | d + 1, i, k, v, hd, ha, hk => by
  obtain ⟨k, rfl⟩ : ∃ m, k = m + 2 := ⟨k - 2, by omega⟩
  have n1 : (i : Int) < 10 := by omega
  have n2 : ¬ (a : Int) < 0 := by omega
  have n3 : (0 : Int) ≤ ((a + i : Nat) : Int) := by omega
  have n4 : i < 10 := by omega
  rw [spec_l3readVar.l0, if_pos n1, if_neg n2, spec_l3readVar.j1, wrap_two a i (by omega)]
  by_cases hlt : a + i < b.length
  ·
   have hx := hr b[a + i] (List.getElem_mem hlt)
   have m1 : ((a + i : Nat) : Int) < (b.length : Int) := by omega
   have m2 : ¬ (decide (((a + i : Nat) : Int) ≥ (b.length : Int)) = true) := by rw [decide_eq_true_eq]; omega
   have x1 : 0 ≤ b[a + i] % 128 := by omega
   have x2 : b[a + i] % 128 < 18446744073709551616 := by omega
   have y1 : a + i ≤ 140737488355328 := by omega
   have y2 : i ≤ 140737488355328 := by omega
   have ih := readVar_loop b hr hb a d (i + 1) k (Go.bits .or .u64 v (IntKind.u64.wrap (b[a + i] % 128 * 2 ^ (7 * i)))) (by omega) ha (by omega)
   have z1 : b.length - (b.length - (a + i + 1)) = a + i + 1 := by omega
   rw [if_neg m2, if_pos n3, if_pos m1, if_pos (wrap_u64_nonneg _), rd_nat, getD_at b _ hlt, Int.tmod_eq_emod_of_nonneg hx.1, wrap_up (a + i) y1, wrap_up i y2, shl_seven _ i n4, u64_idI _ x1 x2]
   rw [List.drop_eq_getElem_cons hlt, rv]
   by_cases hc : b[a + i] < 128
   ·
    rw [if_pos hc, if_pos hc]
    simp only [List.length_drop]
    rw [z1]
   ·
    rw [if_neg hc, if_neg hc, ih, Nat.add_assoc]
  ·
   have m2 : decide (((a + i : Nat) : Int) ≥ (b.length : Int)) = true := by rw [decide_eq_true_eq]; omega
   rw [if_pos m2, List.drop_eq_nil_of_le (by omega), rv]
theorem readVar_f (b : List Int) (hr : ∀ x ∈ b, 0 ≤ x ∧ x < 256) (hb : b.length ≤ 2097152) (k : Nat) (hk : 21 ≤ k) (a : Nat) (ha : a ≤ b.length) :
  spec_l3readVar.f k b (a : Int) = match rv 10 0 0 (b.drop a) with | none => some (0, -1) | some (n, r) => some (n, ((b.length - r.length : Nat) : Int)) := by
 unfold spec_l3readVar.f
 have := readVar_loop b hr hb a 10 0 k 0 (by omega) ha (by omega)
 rw [Nat.add_zero] at this
 exact this
theorem readVar_bad (b : List Int) (k : Nat) (hk : 2 ≤ k) : spec_l3readVar.f k b (-1) = some (0, -1) := by
 obtain ⟨k, rfl⟩ : ∃ m, k = m + 2 := ⟨k - 2, by omega⟩
 unfold spec_l3readVar.f
 rw [spec_l3readVar.l0, if_pos (by omega), if_pos (by omega), spec_l3readVar.j1, if_pos rfl]
theorem rv_back {d i : Nat} {v : Int} {b : List Int} {a : Nat} {n : Int} {r : List Int} (ha : a ≤ b.length) (h : rv d i v (b.drop a) = some (n, r)) : r = b.drop (b.length - r.length) ∧ r.length ≤ b.length := by
 obtain ⟨k, e, h0, h1⟩ := rv_sub _ _ _ _ _ _ h
 rw [List.length_drop] at h1
 rw [List.drop_drop] at e
 have : r.length = b.length - (a + k) := by rw [e, List.length_drop]
 exact ⟨by rw [this, show b.length - (b.length - (a + k)) = a + k by omega]; exact e, by omega⟩
theorem rv_nonneg : ∀ (d i : Nat) (v : Int) (l : List Int) (n : Int) (r : List Int), rv d i v l = some (n, r) → 0 ≤ n ∧ n < 18446744073709551616
 | 0, _, _, _, _, _, h => by simp [rv] at h
 | _ + 1, _, _, [], _, _, h => by simp [rv] at h
 | d + 1, i, v, c :: l, n, r, h => by
  unfold rv at h
  split at h
  ·
   have := Option.some.inj h
   rw [Prod.mk.injEq] at this
   rw [← this.1]
   exact ⟨or_nonneg _ _, by show IntKind.u64.wrap _ < _; simp [IntKind.wrap, IntKind.bits, IntKind.signed]; omega⟩
  ·
   exact rv_nonneg d _ _ _ _ _ h
def plc (b : List Int) : Option (List Int) → Int
 | none => -1
 | some r => ((b.length - r.length : Nat) : Int)
theorem readText_f (b : List Int) (hr : ∀ x ∈ b, 0 ≤ x ∧ x < 256) (hb : b.length ≤ 2097152) (k : Nat) (hk : 21 ≤ k) (a : Nat) (ha : a ≤ b.length) :
  spec_l3readText.f k b (a : Int) = match rdT (b.drop a) with | none => some ([], -1) | some (p, r) => some (p, ((b.length - r.length : Nat) : Int)) := by
 unfold spec_l3readText.f rdT
 rw [readVar_f b hr hb k hk a ha]
 rcases hq : rv 10 0 0 (b.drop a) with _ | ⟨n, r⟩
 ·
  simp
 ·
  obtain ⟨hrb, hle⟩ := rv_back ha hq
  obtain ⟨hn0, hn1⟩ := rv_nonneg _ _ _ _ _ _ hq
  simp only [Option.bind_some]
  have e0 : wrap64 ((b.length : Int) - ((b.length - r.length : Nat) : Int)) = (r.length : Int) := by unfold wrap64; omega
  rw [if_neg (by omega), e0, u64_idI (r.length : Int) (by omega) (by omega)]
  by_cases hlt : (r.length : Int) < n
  ·
   rw [if_pos hlt, if_pos hlt]
  ·
   have e1 : wrap64 n = n := by unfold wrap64; omega
   have e2 : wrap64 (((b.length - r.length : Nat) : Int) + n) = ((b.length - r.length + n.toNat : Nat) : Int) := by unfold wrap64; omega
   rw [if_neg hlt, if_neg hlt, if_pos (by omega), e1, e2, if_pos (by omega), if_pos (by omega)]
   unfold spec_l1copy.f
   simp only [Int.toNat_natCast]
   have e3 : (b.take (b.length - r.length + n.toNat)).drop (b.length - r.length) = r.take n.toNat := by
    rw [List.drop_take, show b.length - r.length + n.toNat - (b.length - r.length) = n.toNat by omega, ← hrb]
   rw [e3, if_pos (by simp; omega), Option.bind_some]
   simp only [List.nil_append, List.length_drop]
   rw [show b.length - (r.length - n.toNat) = b.length - r.length + n.toNat by omega]
theorem readText_bad (b : List Int) (k : Nat) (hk : 2 ≤ k) : spec_l3readText.f k b (-1) = some ([], -1) := by
 unfold spec_l3readText.f
 rw [readVar_bad b k hk, Option.bind_some, if_pos (by decide)]
theorem readByte_f (b : List Int) (hr : ∀ x ∈ b, 0 ≤ x ∧ x < 256) (hb : b.length ≤ 2097152) (a : Nat) (ha : a ≤ b.length) :
  spec_l3readByte.f b (a : Int) = match rdB (b.drop a) with | none => some (0, -1) | some (c, r) => some (c, ((b.length - r.length : Nat) : Int)) := by
 unfold spec_l3readByte.f
 by_cases hlt : a < b.length
 ·
  have hx := hr b[a] (List.getElem_mem hlt)
  have e1 : rd b (a : Int) = b[a] := by rw [rd_nat, getD_at b _ hlt]
  have e2 : wrap64 b[a] = b[a] := by unfold wrap64; omega
  have e4 : wrap64 ((a : Int) + 1) = ((a + 1 : Nat) : Int) := by unfold wrap64; omega
  rw [if_neg (by omega), if_neg (by omega), if_pos (by omega), if_pos (by omega), e1, e2, e4, List.drop_eq_getElem_cons hlt, rdB]
  simp only [List.length_drop]
  rw [show b.length - (b.length - (a + 1)) = a + 1 by omega]
 ·
  rw [if_neg (by omega), if_pos (by omega), List.drop_eq_nil_of_le (by omega), rdB]
theorem readByte_bad (b : List Int) : spec_l3readByte.f b (-1) = some (0, -1) := by
 unfold spec_l3readByte.f
 rw [if_pos (by omega)]
theorem rdB_back {b : List Int} {a : Nat} {c : Int} {r : List Int} (ha : a ≤ b.length) (h : rdB (b.drop a) = some (c, r)) : r = b.drop (b.length - r.length) ∧ r.length ≤ b.length := by
 cases hq : b.drop a with
 | nil => rw [hq] at h; cases h
 | cons x l =>
  rw [hq, rdB] at h
  have := Option.some.inj h
  rw [Prod.mk.injEq] at this
  have e := congrArg List.tail hq
  rw [List.tail_drop, List.tail_cons, this.2] at e
  have hl := congrArg List.length hq
  rw [List.length_drop, List.length_cons, this.2] at hl
  exact ⟨by rw [show b.length - r.length = a + 1 by omega]; exact e.symm, by omega⟩
theorem rdT_back {b : List Int} {a : Nat} {p r : List Int} (ha : a ≤ b.length) (h : rdT (b.drop a) = some (p, r)) : r = b.drop (b.length - r.length) ∧ r.length ≤ b.length := by
 unfold rdT at h
 rcases hq : rv 10 0 0 (b.drop a) with _ | ⟨n, r1⟩
 ·
  rw [hq] at h; cases h
 ·
  obtain ⟨e1, h1⟩ := rv_back ha hq
  obtain ⟨hn0, _⟩ := rv_nonneg _ _ _ _ _ _ hq
  rw [hq, Option.bind_some] at h
  simp only at h
  split at h
  ·
   cases h
  ·
   rename_i hlt
   have := Option.some.inj h
   rw [Prod.mk.injEq] at this
   have e2 : r1.length - r.length = n.toNat := by rw [← this.2, List.length_drop]; omega
   have e3 : r.length ≤ r1.length := by rw [← this.2, List.length_drop]; omega
   refine ⟨?_, by omega⟩
   rw [← this.2, List.length_drop]
   conv => lhs; rw [e1]
   rw [List.drop_drop]
   congr 1
   omega
section
def ss {α : Type} (e : Nat) (d : Kd α) : Kd (List α) where
 sz := 1
 E := e :: d.E
 K := fun w xs cs => ∃ A c, cs = [.slice A xs.length c] ∧ xs.length ≤ c ∧ d.C w A xs.length xs
 M := fun w base ok xs cs => ∃ v, cs = [v] ∧ Kd.S d e w base ok v xs
 K_len := by
  rintro w x cs ⟨A, c, rfl, _⟩
  rfl
 K_one := by
  rintro w x cs ⟨A, c, rfl, _⟩ u hu
  rw [List.mem_singleton.1 hu]
  rfl
 K_below := by
  rintro w w1 x cs hb ⟨A, c, rfl, hl, hr⟩
  exact ⟨A, c, rfl, hl, Kd.C_below hr hb⟩
 K_of_M := by
  rintro w base ok x cs ⟨v, rfl, h⟩
  obtain ⟨A, c, rfl, hl, hr⟩ := Kd.S_reads h
  exact ⟨A, c, rfl, hl, hr⟩
 M_mono := by
  rintro w base ok ok' x cs hok ⟨v, rfl, h⟩
  exact ⟨v, rfl, Kd.S_mono h hok⟩
 M_bound := by
  rintro w base ok x cs ⟨v, rfl, h⟩
  exact ⟨v, rfl, Kd.S_bound h⟩
 M_move := by
  rintro w w1 base ok x cs hm ⟨v, rfl, h⟩
  exact ⟨v, rfl, Kd.S_move h hm⟩
 M_lower := by
  rintro w base base' ok x cs hb ⟨v, rfl, h⟩
  exact ⟨v, rfl, Kd.S_lower h hb⟩
def ap {α β : Type} (a : Kd α) (b : Kd β) : Kd (α × β) where
 sz := a.sz + b.sz
 E := a.E ++ b.E
 K := fun w x cs => ∃ c0 c1, cs = c0 ++ c1 ∧ a.K w x.1 c0 ∧ b.K w x.2 c1
 M := fun w base ok x cs => ∃ (p : Nat → Prop) (c0 c1 : List Value), cs = c0 ++ c1 ∧ a.M w base (fun k => ok k ∧ p k) x.1 c0 ∧ b.M w base (fun k => ok k ∧ ¬ p k) x.2 c1
 K_len := by
  rintro w x cs ⟨c0, c1, rfl, h0, h1⟩
  rw [List.length_append, a.K_len h0, b.K_len h1]
 K_one := by
  rintro w x cs ⟨c0, c1, rfl, h0, h1⟩ u hu
  rcases List.mem_append.1 hu with hu | hu
  ·
   exact a.K_one h0 u hu
  ·
   exact b.K_one h1 u hu
 K_below := by
  rintro w w1 x cs hb ⟨c0, c1, rfl, h0, h1⟩
  exact ⟨c0, c1, rfl, a.K_below hb h0, b.K_below hb h1⟩
 K_of_M := by
  rintro w base ok x cs ⟨p, c0, c1, rfl, h0, h1⟩
  exact ⟨c0, c1, rfl, a.K_of_M h0, b.K_of_M h1⟩
 M_mono := by
  rintro w base ok ok' x cs hok ⟨p, c0, c1, rfl, h0, h1⟩
  exact ⟨p, c0, c1, rfl, a.M_mono (fun k hk => ⟨hok k hk.1, hk.2⟩) h0, b.M_mono (fun k hk => ⟨hok k hk.1, hk.2⟩) h1⟩
 M_bound := by
  rintro w base ok x cs ⟨p, c0, c1, rfl, h0, h1⟩
  refine ⟨p, c0, c1, rfl, a.M_mono ?_ (a.M_bound h0), b.M_mono ?_ (b.M_bound h1)⟩
  ·
   rintro k ⟨h2, h3, h4, q, hq, hc⟩
   exact ⟨⟨h2.1, h3, h4, q, List.mem_append_left _ hq, hc⟩, h2.2⟩
  ·
   rintro k ⟨h2, h3, h4, q, hq, hc⟩
   exact ⟨⟨h2.1, h3, h4, q, List.mem_append_right _ hq, hc⟩, h2.2⟩
 M_move := by
  rintro w w1 base ok x cs hm ⟨p, c0, c1, rfl, h0, h1⟩
  exact ⟨p, c0, c1, rfl, a.M_move (fun k hk => hm k hk.1) h0, b.M_move (fun k hk => hm k hk.1) h1⟩
 M_lower := by
  rintro w base base' ok x cs hb ⟨p, c0, c1, rfl, h0, h1⟩
  exact ⟨p, c0, c1, rfl, a.M_lower hb h0, b.M_lower hb h1⟩
abbrev Ev := S138
abbrev Se := S70
abbrev No := S76
abbrev kEv : Kd Ev := k138
abbrev kSe : Kd Se := k70
abbrev kNo : Kd No := k76
abbrev tEv : Nat := 138
abbrev tSe : Nat := 70
abbrev tNo : Nat := 76
def aSe : Kd Se := Kd.iso (Kd.pair (Kd.int .u64) (Kd.pair (Kd.int .i64) (ss 138 kEv))) (fun x : Se => (x.f0, x.f1, x.f2))
def aNo : Kd No := Kd.iso (ap (Kd.slice 5 (Kd.int .u8)) (ap (Kd.slice 5 (Kd.int .u8)) (Kd.pair (Kd.int .u64) (Kd.pair (Kd.int .i64) (ap (Kd.slice 26 (Kd.int .u64)) (Kd.pair (Kd.int .u64) (Kd.pair (Kd.int .u64) (Kd.slice 26 (Kd.int .u64))))))))) (fun x : No => (x.f0, x.f1, x.f2, x.f3, x.f4, x.f5, x.f6, x.f7))
theorem aSe_C {w : World} {A : Option Addr} {n : Nat} {xs : List Se} (h : Kd.C aSe w A n xs) : Kd.C kSe w A n xs := h
theorem aNo_C {w : World} {A : Option Addr} {n : Nat} {xs : List No} (h : Kd.C aNo w A n xs) : Kd.C kNo w A n xs := h
theorem aSe_open {w : World} {base : Nat} {ok : Nat → Prop} {x : Se} {cs : List Value} (h : aSe.M w base ok x cs) : ∃ v2, cs = [.int .u64 x.f0, .int .i64 x.f1, v2] ∧ Kd.S kEv tEv w base ok v2 x.f2 := by
 obtain ⟨_, _, rfl, rfl, _, _, rfl, rfl, v2, rfl, g2⟩ := h
 exact ⟨v2, rfl, g2⟩
theorem aSe_mk (w : World) (base : Nat) (ok : Nat → Prop) (x : Se) {v2 : Value} (g2 : Kd.S kEv tEv w base ok v2 x.f2) : aSe.M w base ok x [.int .u64 x.f0, .int .i64 x.f1, v2] :=
 ⟨[.int .u64 x.f0], [.int .i64 x.f1, v2], rfl, rfl, [.int .i64 x.f1], [v2], rfl, rfl, v2, rfl, g2⟩
theorem aNo_open {w : World} {base : Nat} {ok : Nat → Prop} {x : No} {cs : List Value} (h : aNo.M w base ok x cs) : ∃ (p0 p1 p4 : Nat → Prop) (v0 v1 v4 v7 : Value), cs = [v0, v1, .int .u64 x.f2, .int .i64 x.f3, v4, .int .u64 x.f5, .int .u64 x.f6, v7] ∧
  (Kd.int .u8).R 5 w base (fun k => ok k ∧ p0 k) v0 x.f0 ∧ (Kd.int .u8).R 5 w base (fun k => (ok k ∧ ¬ p0 k) ∧ p1 k) v1 x.f1 ∧ (Kd.int .u64).R 26 w base (fun k => ((ok k ∧ ¬ p0 k) ∧ ¬ p1 k) ∧ p4 k) v4 x.f4 ∧ (Kd.int .u64).R 26 w base (fun k => ((ok k ∧ ¬ p0 k) ∧ ¬ p1 k) ∧ ¬ p4 k) v7 x.f7 := by
 obtain ⟨p0, _, _, rfl, ⟨v0, rfl, g0⟩, p1, _, _, rfl, ⟨v1, rfl, g1⟩, _, _, rfl, rfl, _, _, rfl, rfl, p4, _, _, rfl, ⟨v4, rfl, g4⟩, _, _, rfl, rfl, _, _, rfl, rfl, v7, rfl, g7⟩ := h
 exact ⟨p0, p1, p4, v0, v1, v4, v7, rfl, g0, g1, g4, g7⟩
theorem aNo_mkp (w : World) (base : Nat) (ok : Nat → Prop) (x : No) (p0 p1 p4 : Nat → Prop) {v0 v1 v4 v7 : Value}
  (g0 : (Kd.int .u8).R 5 w base (fun k => ok k ∧ p0 k) v0 x.f0) (g1 : (Kd.int .u8).R 5 w base (fun k => (ok k ∧ ¬ p0 k) ∧ p1 k) v1 x.f1) (g4 : (Kd.int .u64).R 26 w base (fun k => ((ok k ∧ ¬ p0 k) ∧ ¬ p1 k) ∧ p4 k) v4 x.f4) (g7 : (Kd.int .u64).R 26 w base (fun k => ((ok k ∧ ¬ p0 k) ∧ ¬ p1 k) ∧ ¬ p4 k) v7 x.f7) :
  aNo.M w base ok x [v0, v1, .int .u64 x.f2, .int .i64 x.f3, v4, .int .u64 x.f5, .int .u64 x.f6, v7] :=
 ⟨p0, [v0], [v1, .int .u64 x.f2, .int .i64 x.f3, v4, .int .u64 x.f5, .int .u64 x.f6, v7], rfl, ⟨v0, rfl, g0⟩, p1, [v1], [.int .u64 x.f2, .int .i64 x.f3, v4, .int .u64 x.f5, .int .u64 x.f6, v7], rfl, ⟨v1, rfl, g1⟩, [.int .u64 x.f2], [.int .i64 x.f3, v4, .int .u64 x.f5, .int .u64 x.f6, v7], rfl, rfl, [.int .i64 x.f3], [v4, .int .u64 x.f5, .int .u64 x.f6, v7], rfl, rfl, p4, [v4], [.int .u64 x.f5, .int .u64 x.f6, v7], rfl, ⟨v4, rfl, g4⟩, [.int .u64 x.f5], [.int .u64 x.f6, v7], rfl, rfl, [.int .u64 x.f6], [v7], rfl, rfl, v7, rfl, g7⟩
theorem cells3 {w : World} {g t : Nat} {v0 v1 v2 : Value} (h : w.heap[g]? = some (.cells #[v0, v1, v2] t (0, 0))) : w.cell? ⟨g, 0, none⟩ = some v0 ∧ w.cell? ⟨g, 1, none⟩ = some v1 ∧ w.cell? ⟨g, 2, none⟩ = some v2 := ⟨(blk_cell h 0).trans rfl, (blk_cell h 1).trans rfl, (blk_cell h 2).trans rfl⟩
theorem cells6 {w : World} {g t : Nat} {v0 v1 v2 v3 v4 v5 : Value} (h : w.heap[g]? = some (.cells #[v0, v1, v2, v3, v4, v5] t (0, 0))) : w.cell? ⟨g, 0, none⟩ = some v0 ∧ w.cell? ⟨g, 1, none⟩ = some v1 ∧ w.cell? ⟨g, 2, none⟩ = some v2 ∧ w.cell? ⟨g, 3, none⟩ = some v3 ∧ w.cell? ⟨g, 4, none⟩ = some v4 ∧ w.cell? ⟨g, 5, none⟩ = some v5 :=
 ⟨(blk_cell h 0).trans rfl, (blk_cell h 1).trans rfl, (blk_cell h 2).trans rfl, (blk_cell h 3).trans rfl, (blk_cell h 4).trans rfl, (blk_cell h 5).trans rfl⟩
theorem cells8 {w : World} {g t : Nat} {v0 v1 v2 v3 v4 v5 v6 v7 : Value} (h : w.heap[g]? = some (.cells #[v0, v1, v2, v3, v4, v5, v6, v7] t (0, 0))) : w.cell? ⟨g, 0, none⟩ = some v0 ∧ w.cell? ⟨g, 1, none⟩ = some v1 ∧ w.cell? ⟨g, 2, none⟩ = some v2 ∧ w.cell? ⟨g, 3, none⟩ = some v3 ∧ w.cell? ⟨g, 4, none⟩ = some v4 ∧ w.cell? ⟨g, 5, none⟩ = some v5 ∧ w.cell? ⟨g, 6, none⟩ = some v6 ∧ w.cell? ⟨g, 7, none⟩ = some v7 :=
 ⟨(blk_cell h 0).trans rfl, (blk_cell h 1).trans rfl, (blk_cell h 2).trans rfl, (blk_cell h 3).trans rfl, (blk_cell h 4).trans rfl, (blk_cell h 5).trans rfl, (blk_cell h 6).trans rfl, (blk_cell h 7).trans rfl⟩
structure SK (w0 W : World) (lo hi : Nat) (As : Option Addr) (cs : Nat) (xs : List Se) (An : Option Addr) (cn : Nat) (ns : List No) : Prop where
 ex : ∃ p : Nat → Prop, Kd.S aSe tSe W w0.heap.size (fun k => (lo ≤ k ∧ k < hi) ∧ p k) (.slice As xs.length cs) xs ∧ Kd.S aNo tNo W w0.heap.size (fun k => (lo ≤ k ∧ k < hi) ∧ ¬ p k) (.slice An ns.length cn) ns
section
variable {w0 W W' : World} {lo hi : Nat} {As An : Option Addr} {cs cn : Nat} {xs : List Se} {ns : List No}
theorem SK.reads (h : SK w0 W lo hi As cs xs An cn ns) : (Kd.C kSe W As xs.length xs ∧ xs.length ≤ cs) ∧ (Kd.C kNo W An ns.length ns ∧ ns.length ≤ cn) := by
 obtain ⟨p, h1, h2⟩ := h.ex
 exact ⟨⟨aSe_C (Kd.S_reads' h1).2.2, (Kd.S_reads' h1).2.1⟩, ⟨aNo_C (Kd.S_reads' h2).2.2, (Kd.S_reads' h2).2.1⟩⟩
theorem SK.below (h : SK w0 W lo hi As cs xs An cn ns) (hb : Below W.heap.size W W') : SK w0 W' lo hi As cs xs An cn ns := by
 obtain ⟨p, h1, h2⟩ := h.ex
 exact ⟨p, Kd.S_below h1 hb, Kd.S_below h2 hb⟩
theorem SK.kept {S : Nat → Prop} (h : SK w0 W lo hi As cs xs An cn ns) (hk : Kept W W' S) (hS : ∀ k, lo ≤ k → k < hi → ¬ S k) : SK w0 W' lo hi As cs xs An cn ns := by
 obtain ⟨p, h1, h2⟩ := h.ex
 exact ⟨p, Kd.S_step h1 (fun k ho hlt => hk.2 k hlt (hS k ho.1.1 ho.1.2)), Kd.S_step h2 (fun k ho hlt => hk.2 k hlt (hS k ho.1.1 ho.1.2))⟩
theorem SK.rebase {w1 : World} (h : SK w0 W lo hi As cs xs An cn ns) (hw : w1.heap.size ≤ w0.heap.size) : SK w1 W lo hi As cs xs An cn ns := by
 obtain ⟨p, h1, h2⟩ := h.ex
 exact ⟨p, Kd.S_lower h1 hw, Kd.S_lower h2 hw⟩
end
end
def laws_eqUint64S.l0 : Nat → List Int → List Int → Int → Option (Bool)
 | 0, _, _, _ => none
 | k + 1, x0, x1, x5 => if x5 < (x0.length : Int) then (if 0 ≤ x5 then (if x5 < (x1.length : Int) then (if (rd x0 x5) = (rd x1 x5) then (laws_eqUint64S.l0 k x0 x1 (wrap64 (x5 + 1))) else (some false)) else (none)) else (none)) else (some true)
def laws_eqUint64S.f (k : Nat) (l0 : List Int) (l1 : List Int) : Option (Bool) := if (l0.length : Int) = (l1.length : Int) then (laws_eqUint64S.l0 k l0 l1 0) else (some false)
set_option maxHeartbeats 8000000 in
set_option maxRecDepth 100000 in
theorem laws_eqUint64S.calls (k : Nat) (A0 : Option Addr) (c0 : Nat) (l0 : List Int) (A1 : Option Addr) (c1 : Nat) (l1 : List Int) (r : Bool) (w : World) (hr0 : Kd.C (Kd.int .u64) w A0 l0.length l0) (hc0 : l0.length ≤ c0) (hr1 : Kd.C (Kd.int .u64) w A1 l1.length l1) (hc1 : l1.length ≤ c1) (h : laws_eqUint64S.f k l0 l1 = some r) :
  Calls Tryd.prog 20 #[.slice A0 l0.length c0, .slice A1 l1.length c1] w fun e w' => e = .returned (.bool r) ∧ Drawn0 w w' := by
 have HR0 := Aside0.mk hr0
 have HC0 := Aside0.mk hc0
 clear hr0 hc0
 have HR1 := Aside0.mk hr1
 have HC1 := Aside0.mk hc1
 clear hr1 hc1
 have H : (if (l0.length : Int) = (l1.length : Int) then (laws_eqUint64S.l0 k l0 l1 0) else (some false)) = some r := h
 clear h
 by_cases c3 : (l0.length : Int) = (l1.length : Int)
 ·
  rw [if_pos c3] at H
  have c3b0 : ((l0.length : Int) == (l1.length : Int)) = true := beq_iff_eq.mpr c3
  have c3b1 : ((l0.length : Int) != (l1.length : Int)) = false := bne_eq_false_iff_eq.mpr c3
  have c3b2 : (l0.length == l1.length) = true := by first | simpa using c3 | (simp at c3 ⊢; omega)
  clear c3
  have H' := Aside0.mk H
  clear H
  go_enter Tryd.func20, Tryd.ntmps20
  go_wp2
  repeat (go_quiet (fail); try go_wp2)
  go_loopg [5] k (fun kq v5 w' => ∃ (x5_1 : Int), v5 = .int .i64 x5_1 ∧ Aside0 (laws_eqUint64S.l0 kq l0 l1 x5_1 = some r) ∧ Aside0 (kq ≤ k) ∧ Drawn0 w w')
  case atStart => exact ⟨(0), (by first | rfl | (simp; done) | (simp [*]; done)), H', ⟨Nat.le_refl _⟩, by repeat (first | exact Drawn0.refl _ | apply Drawn0.step)⟩
  case round =>
   clear H'
   try clear c1
   try clear c2
   try clear p2
   try clear c3
   try clear c3b0
   try clear c3b1
   try clear c3b2
   obtain ⟨x5_1, rfl, HA, HK1, ⟨m1, rfl⟩⟩ := hrel
   cases gk with
   | zero => exact absurd HA.out (by simp [laws_eqUint64S.l0])
   | succ k1 =>
    have H := HA.out
    clear HA
    simp only [laws_eqUint64S.l0] at H
    by_cases c4 : x5_1 < (l0.length : Int)
    ·
     rw [if_pos c4] at H
     have c4b0 : decide (x5_1 < (l0.length : Int)) = true := decide_eq_true c4
     clear c4
     by_cases c5 : 0 ≤ x5_1
     ·
      rw [if_pos c5] at H
      have c5b0 : decide (0 ≤ x5_1) = true := decide_eq_true c5
      clear c5
      by_cases c6 : x5_1 < (l1.length : Int)
      ·
       rw [if_pos c6] at H
       have c6b0 : decide (x5_1 < (l1.length : Int)) = true := decide_eq_true c6
       clear c6
       by_cases c7 : (rd l0 x5_1) = (rd l1 x5_1)
       ·
        rw [if_pos c7] at H
        have c7b0 : ((rd l0 x5_1) == (rd l1 x5_1)) = true := beq_iff_eq.mpr c7
        have c7b1 : ((rd l0 x5_1) != (rd l1 x5_1)) = false := bne_eq_false_iff_eq.mpr c7
        clear c7
        have H' := Aside0.mk H
        clear H
        have p266 : 0 ≤ (x5_1 : Int) := of_decide_eq_true (by first | (with_reducible assumption) | assumption)
        have q266 : x5_1 < (l0.length : Int) := of_decide_eq_true (by first | (with_reducible assumption) | assumption)
        obtain ⟨ad266, e266, hx266_0⟩ := Kd.at_int HR0.out x5_1 p266 q266
        cases e266
        replace p266 := eq_true p266
        replace q266 := eq_true q266
        have p267 : 0 ≤ (x5_1 : Int) := of_decide_eq_true (by first | (with_reducible assumption) | assumption)
        have q267 : x5_1 < (l1.length : Int) := of_decide_eq_true (by first | (with_reducible assumption) | assumption)
        obtain ⟨ad267, e267, hx267_0⟩ := Kd.at_int HR1.out x5_1 p267 q267
        cases e267
        replace p267 := eq_true p267
        replace q267 := eq_true q267
        go_wp2
        repeat (go_quiet (fail); try go_wp2)
        go_roundg k1
        case measure => have := HK1.out; omega
        case rel => exact ⟨(wrap64 (x5_1 + 1)), (by first | rfl | (simp; done) | (simp [*]; done)), H', ⟨by have := HK1.out; omega⟩, by repeat (first | exact Drawn0.refl _ | apply Drawn0.step)⟩
       ·
        rw [if_neg c7] at H
        have c7b0 : ((rd l0 x5_1) == (rd l1 x5_1)) = false := beq_eq_false_iff_ne.mpr c7
        have c7b1 : ((rd l0 x5_1) != (rd l1 x5_1)) = true := bne_iff_ne.mpr c7
        obtain rfl := Option.some.inj H
        have p266 : 0 ≤ (x5_1 : Int) := of_decide_eq_true (by first | (with_reducible assumption) | assumption)
        have q266 : x5_1 < (l0.length : Int) := of_decide_eq_true (by first | (with_reducible assumption) | assumption)
        obtain ⟨ad266, e266, hx266_0⟩ := Kd.at_int HR0.out x5_1 p266 q266
        cases e266
        replace p266 := eq_true p266
        replace q266 := eq_true q266
        have p267 : 0 ≤ (x5_1 : Int) := of_decide_eq_true (by first | (with_reducible assumption) | assumption)
        have q267 : x5_1 < (l1.length : Int) := of_decide_eq_true (by first | (with_reducible assumption) | assumption)
        obtain ⟨ad267, e267, hx267_0⟩ := Kd.at_int HR1.out x5_1 p267 q267
        cases e267
        replace p267 := eq_true p267
        replace q267 := eq_true q267
        go_wp2
        repeat (go_quiet (fail); try go_wp2)
        go_ret
        exact ⟨by first | rfl | (simp; done) | (simp [*]; done), by repeat (first | exact Drawn0.refl _ | apply Drawn0.step)⟩
      ·
       rw [if_neg c6] at H
       exact absurd H (by simp)
     ·
      rw [if_neg c5] at H
      exact absurd H (by simp)
    ·
     rw [if_neg c4] at H
     have c4b0 : decide (x5_1 < (l0.length : Int)) = false := decide_eq_false c4
     clear c4
     obtain rfl := Option.some.inj H
     go_wp2
     repeat (go_quiet (fail); try go_wp2)
     go_ret
     exact ⟨by first | rfl | (simp; done) | (simp [*]; done), by repeat (first | exact Drawn0.refl _ | apply Drawn0.step)⟩
 ·
  rw [if_neg c3] at H
  have c3b0 : ((l0.length : Int) == (l1.length : Int)) = false := beq_eq_false_iff_ne.mpr c3
  have c3b1 : ((l0.length : Int) != (l1.length : Int)) = true := bne_iff_ne.mpr c3
  have c3b2 : (l0.length == l1.length) = false := by first | simpa using c3 | (simp at c3 ⊢; omega)
  obtain rfl := Option.some.inj H
  go_enter Tryd.func20, Tryd.ntmps20
  go_wp2
  repeat (go_quiet (fail); try go_wp2)
  go_ret
  exact ⟨by first | rfl | (simp; done) | (simp [*]; done), by repeat (first | exact Drawn0.refl _ | apply Drawn0.step)⟩
theorem cells2 {w : World} {g t : Nat} {v0 v1 : Value} (h : w.heap[g]? = some (.cells #[v0, v1] t (0, 0))) : w.cell? ⟨g, 0, none⟩ = some v0 ∧ w.cell? ⟨g, 1, none⟩ = some v1 := ⟨(blk_cell h 0).trans rfl, (blk_cell h 1).trans rfl⟩
theorem eqU_loop (l : List Int) (hl : l.length ≤ 2097152) : ∀ (d k i : Nat), i + d = l.length → d < k → laws_eqUint64S.l0 k l l (i : Int) = some true := by
 intro d
 induction d with
 | zero =>
  intro k i hi hk
  obtain ⟨k, rfl⟩ : ∃ m, k = m + 1 := ⟨k - 1, by omega⟩
  rw [laws_eqUint64S.l0, if_neg (by omega)]
 | succ d ih =>
  intro k i hi hk
  obtain ⟨k, rfl⟩ : ∃ m, k = m + 1 := ⟨k - 1, by omega⟩
  rw [laws_eqUint64S.l0, if_pos (by omega), if_pos (by omega), if_pos (by omega), if_pos rfl, wrap_up i (by omega)]
  exact ih k (i + 1) (by omega) (by omega)
theorem eqU_self (l : List Int) (hl : l.length ≤ 2097152) (k : Nat) (hk : 2097152 < k) : laws_eqUint64S.f k l l = some true := by
 unfold laws_eqUint64S.f
 rw [if_pos rfl]
 exact eqU_loop l hl l.length k 0 (by omega) (by omega)
theorem eqByteS_same (A : Option Addr) (c : Nat) (B : Option Addr) (d : Nat) (l : List Int) (w : World) (h1 : Kd.C (Kd.int .u8) w A l.length l) (k1 : l.length ≤ c) (h2 : Kd.C (Kd.int .u8) w B l.length l) (k2 : l.length ≤ d) (hl : l.length ≤ 2097152) :
  Calls Tryd.prog 12 #[.slice A l.length c, .slice B l.length d] w fun r w' => r = .returned (.bool true) ∧ Below w.heap.size w w' := by
 refine (laws_eqByteS.calls 3000000 A c l B d l true w h1 k1 h2 k2 (eqByteS_self l (by omega) 3000000 (by omega))).mono ?_
 rintro e w' ⟨rfl, hb⟩
 exact ⟨rfl, hb.below⟩
theorem eqUint64S_same (A : Option Addr) (c : Nat) (B : Option Addr) (d : Nat) (l : List Int) (w : World) (h1 : Kd.C (Kd.int .u64) w A l.length l) (k1 : l.length ≤ c) (h2 : Kd.C (Kd.int .u64) w B l.length l) (k2 : l.length ≤ d) (hl : l.length ≤ 2097152) :
  Calls Tryd.prog 20 #[.slice A l.length c, .slice B l.length d] w fun r w' => r = .returned (.bool true) ∧ Below w.heap.size w w' := by
 refine (laws_eqUint64S.calls 3000000 A c l B d l true w h1 k1 h2 k2 (eqU_self l hl 3000000 (by omega))).mono ?_
 rintro e w' ⟨rfl, hb⟩
 exact ⟨rfl, hb.below⟩
set_option maxHeartbeats 4000000 in
set_option maxRecDepth 100000 in
theorem eqEvent_same (l0 : Int) (l1 : List Int) (A1 : Option Addr) (a1 : Nat) (B1 : Option Addr) (b1 : Nat) (w : World) (h1 : Kd.C (Kd.int .u8) w A1 l1.length l1) (k1 : l1.length ≤ a1) (g1 : Kd.C (Kd.int .u8) w B1 l1.length l1) (j1 : l1.length ≤ b1) (z1 : l1.length ≤ 2097152) :
  Calls Tryd.prog 148 #[.agg #[.int .i64 l0, .slice A1 l1.length a1], .agg #[.int .i64 l0, .slice B1 l1.length b1]] w fun r w' => r = .returned (.bool true) ∧ Below w.heap.size w w' := by
 have K1 := Aside0.mk (fun (W : World) (hW : Below w.heap.size w W) => eqByteS_same A1 a1 B1 b1 l1 W (Kd.C_below h1 hW) k1 (Kd.C_below g1 hW) j1 z1)
 clear h1 k1 g1 j1 z1
 go_enter Tryd.func148, Tryd.ntmps148
 go_upto_region 1 with (fail)
 have bx0 := blk_alloc (blk_new w (.cells #[.int .i64 l0, .slice A1 l1.length a1] 138)) (.cells #[.int .i64 l0, .slice B1 l1.length b1] 138)
 have bx1 := blk_new (w.alloc (.cells #[.int .i64 l0, .slice A1 l1.length a1] 138)) (.cells #[.int .i64 l0, .slice B1 l1.length b1] 138)
 simp only [World.size_alloc] at bx1
 have hB := below_alloc (below_alloc (Below.refl w.heap.size w) (.cells #[.int .i64 l0, .slice A1 l1.length a1] 138)) (.cells #[.int .i64 l0, .slice B1 l1.length b1] 138)
 generalize (w.alloc (.cells #[.int .i64 l0, .slice A1 l1.length a1] 138)).alloc (.cells #[.int .i64 l0, .slice B1 l1.length b1] 138) = W0 at *
 have BA := Aside0.mk bx0
 have BB := Aside0.mk bx1
 have HB := Aside0.mk hB
 clear bx0 bx1 hB
 have q0 : (l0 != l0) = false := by simp
 have p0 : (l0 == l0) = true := by simp
 obtain ⟨x0, x1⟩ := cells2 BA.out
 obtain ⟨y0, y1⟩ := cells2 BB.out
 go_wp2_with fail
 refine (K1.out _ HB.out).mono ?_
 rintro r W1 ⟨rfl, hb⟩
 clear x0 y0 x1 y1
 replace BA := Aside0.mk (blk_below BA.out hb)
 replace BB := Aside0.mk (blk_below BB.out hb)
 replace HB := Aside0.mk (below_step HB.out hb)
 clear hb
 obtain ⟨x0, x1⟩ := cells2 BA.out
 obtain ⟨y0, y1⟩ := cells2 BB.out
 go_wp2_with fail
 go_ret
 exact ⟨rfl, HB.out⟩
set_option maxHeartbeats 4000000 in
set_option maxRecDepth 100000 in
theorem eqEventS_same (A : Option Addr) (c : Nat) (B : Option Addr) (d : Nat) (xs : List Ev) (w : World) (h1 : Kd.C kEv w A xs.length xs) (k1 : xs.length ≤ c) (h2 : Kd.C kEv w B xs.length xs) (k2 : xs.length ≤ d) (hl : xs.length ≤ 2097152 ∧ ∀ y ∈ xs, y.f1.length ≤ 2097152) :
  Calls Tryd.prog 129 #[.slice A xs.length c, .slice B xs.length d] w fun r w' => r = .returned (.bool true) ∧ Below w.heap.size w w' := by
 have H1 := Aside0.mk h1
 have H2 := Aside0.mk h2
 have HL := Aside0.mk hl
 have hxl := hl.1
 have q0 : ((xs.length : Int) != (xs.length : Int)) = false := by simp
 clear h1 h2 k1 k2 hl
 go_enter Tryd.func129, Tryd.ntmps129
 go_wp2
 go_loopg [5] (xs.length + 1) (fun kq v5 w' => ∃ i : Nat, v5 = .int .i64 i ∧ Aside0 (kq + i = xs.length + 1 ∧ i ≤ xs.length) ∧ Aside0 (Below w.heap.size w w'))
 case atStart => exact ⟨0, rfl, ⟨⟨by omega, by omega⟩⟩, ⟨Below.refl _ _⟩⟩
 case round =>
  obtain ⟨i, rfl, HJ, HB⟩ := hrel
  have hj0 := HJ.out
  by_cases hj : i < xs.length
  ·
   have c1 : decide ((i : Int) < (xs.length : Int)) = true := decide_eq_true (by omega)
   have c2 : decide (i < xs.length) = true := decide_eq_true hj
   have ci : (0 : Int) ≤ (i : Int) := by omega
   have ci2 : (i : Int) < (xs.length : Int) := by omega
   obtain ⟨adA, A1, a1, eA, x0, x1, hlA1, hiA1⟩ := at_T138 H1.out (i : Int) ci ci2
   obtain ⟨adB, B1, b1, eB, y0, y1, hlB1, hiB1⟩ := at_T138 H2.out (i : Int) ci ci2
   have ex : rd_T138 xs (i : Int) = xs[i] := by unfold rd_T138; rw [Int.toNat_natCast, List.getD_eq_getElem?_getD, List.getElem?_eq_getElem hj]; rfl
   rw [ex, Int.toNat_natCast] at x0 y0
   rw [ex] at hlA1 hiA1 hlB1 hiB1 x1 y1
   cases eA
   cases eB
   have hz := HL.out.2 xs[i] (List.getElem_mem hj)
   have KK := Aside0.mk (fun (W : World) (hW : Below w.heap.size w W) => eqEvent_same xs[i].f0 xs[i].f1 A1 a1 B1 b1 W (Kd.C_below hiA1 hW) hlA1 (Kd.C_below hiB1 hW) hlB1 hz)
   have hal : ∀ {a : Addr} {z : Value}, w.cell? a = some z → wr.cell? a = some z := fun hz => (HB.out.cell (World.block_lt_of_cell? w _ hz)).trans hz
   rw [Int.toNat_natCast] at x1 y1
   replace x0 := hal x0
   replace y0 := hal y0
   replace x1 := hal x1
   replace y1 := hal y1
   clear hal ex hz hlA1 hiA1 hlB1 hiB1
   obtain ⟨y, hy⟩ : ∃ y, xs[i] = y := ⟨_, rfl⟩
   rw [hy] at KK x0 y0 x1 y1
   clear hy
   go_wp2_with fail
   first | go_region_held3 (fun w' => w'.cell? (adA.add (i * 2)) = some (.int .i64 y.f0) ∧ w'.cell? ⟨(adA.add (i * 2)).block, (adA.add (i * 2)).off + 1, none⟩ = some (.slice A1 y.f1.length a1) ∧ w'.cell? (adB.add (i * 2)) = some (.int .i64 y.f0) ∧ w'.cell? ⟨(adB.add (i * 2)).block, (adB.add (i * 2)).off + 1, none⟩ = some (.slice B1 y.f1.length b1)) (first | exact ⟨x0, x1, y0, y1⟩) (first | (go_at_call 148; refine (KK.out _ (by with_reducible repeat (first | exact HB.out | apply below_drew1))).mono ?_; rintro r W1 ⟨rfl, hb0⟩; have hb : Below wr.heap.size wr W1 := (by first | exact hb0 | exact (below_drew1 (Below.refl wr.heap.size wr)).trans hb0); clear hb0; replace HB := Aside0.mk (below_step HB.out hb); replace x0 := (hb.cell (World.block_lt_of_cell? _ _ x0)).trans x0; replace x1 := (hb.cell (World.block_lt_of_cell? _ _ x1)).trans x1; replace y0 := (hb.cell (World.block_lt_of_cell? _ _ y0)).trans y0; replace y1 := (hb.cell (World.block_lt_of_cell? _ _ y1)).trans y1; clear hb)) | fail
   have hj2 := HJ.out
   obtain ⟨k1, rfl⟩ : ∃ k1, gk = k1 + 1 := ⟨gk - 1, by omega⟩
   go_wp2_with fail
   go_roundg k1
   case measure => omega
   case rel => exact ⟨i + 1, by go_num, ⟨⟨by omega, by omega⟩⟩, HB⟩
  ·
   have c1 : decide ((i : Int) < (xs.length : Int)) = false := decide_eq_false (by omega)
   have c2 : decide (i < xs.length) = false := decide_eq_false hj
   go_wp2_with fail
   go_ret
   exact ⟨rfl, HB.out⟩
set_option maxHeartbeats 4000000 in
set_option maxRecDepth 100000 in
theorem eqSession_same (l0 : Int) (l1 : Int) (l2 : List Ev) (A2 : Option Addr) (a2 : Nat) (B2 : Option Addr) (b2 : Nat) (w : World) (h2 : Kd.C (kEv) w A2 l2.length l2) (k2 : l2.length ≤ a2) (g2 : Kd.C (kEv) w B2 l2.length l2) (j2 : l2.length ≤ b2) (z2 : l2.length ≤ 2097152 ∧ ∀ y ∈ l2, y.f1.length ≤ 2097152) :
  Calls Tryd.prog 102 #[.agg #[.int .u64 l0, .int .i64 l1, .slice A2 l2.length a2], .agg #[.int .u64 l0, .int .i64 l1, .slice B2 l2.length b2]] w fun r w' => r = .returned (.bool true) ∧ Below w.heap.size w w' := by
 have K2 := Aside0.mk (fun (W : World) (hW : Below w.heap.size w W) => eqEventS_same A2 a2 B2 b2 l2 W (Kd.C_below h2 hW) k2 (Kd.C_below g2 hW) j2 z2)
 clear h2 k2 g2 j2 z2
 go_enter Tryd.func102, Tryd.ntmps102
 go_upto_region 1 with (fail)
 have bx0 := blk_alloc (blk_new w (.cells #[.int .u64 l0, .int .i64 l1, .slice A2 l2.length a2] 70)) (.cells #[.int .u64 l0, .int .i64 l1, .slice B2 l2.length b2] 70)
 have bx1 := blk_new (w.alloc (.cells #[.int .u64 l0, .int .i64 l1, .slice A2 l2.length a2] 70)) (.cells #[.int .u64 l0, .int .i64 l1, .slice B2 l2.length b2] 70)
 simp only [World.size_alloc] at bx1
 have hB := below_alloc (below_alloc (Below.refl w.heap.size w) (.cells #[.int .u64 l0, .int .i64 l1, .slice A2 l2.length a2] 70)) (.cells #[.int .u64 l0, .int .i64 l1, .slice B2 l2.length b2] 70)
 generalize (w.alloc (.cells #[.int .u64 l0, .int .i64 l1, .slice A2 l2.length a2] 70)).alloc (.cells #[.int .u64 l0, .int .i64 l1, .slice B2 l2.length b2] 70) = W0 at *
 have BA := Aside0.mk bx0
 have BB := Aside0.mk bx1
 have HB := Aside0.mk hB
 clear bx0 bx1 hB
 have q0 : (l0 != l0) = false := by simp
 have p0 : (l0 == l0) = true := by simp
 have q1 : (l1 != l1) = false := by simp
 have p1 : (l1 == l1) = true := by simp
 obtain ⟨x0, x1, x2⟩ := cells3 BA.out
 obtain ⟨y0, y1, y2⟩ := cells3 BB.out
 go_wp2_with fail
 refine (K2.out _ HB.out).mono ?_
 rintro r W1 ⟨rfl, hb⟩
 clear x0 y0 x1 y1 x2 y2
 replace BA := Aside0.mk (blk_below BA.out hb)
 replace BB := Aside0.mk (blk_below BB.out hb)
 replace HB := Aside0.mk (below_step HB.out hb)
 clear hb
 obtain ⟨x0, x1, x2⟩ := cells3 BA.out
 obtain ⟨y0, y1, y2⟩ := cells3 BB.out
 go_wp2_with fail
 go_ret
 exact ⟨rfl, HB.out⟩
set_option maxHeartbeats 4000000 in
set_option maxRecDepth 100000 in
theorem eqSessionS_same (A : Option Addr) (c : Nat) (B : Option Addr) (d : Nat) (xs : List Se) (w : World) (h1 : Kd.C kSe w A xs.length xs) (k1 : xs.length ≤ c) (h2 : Kd.C kSe w B xs.length xs) (k2 : xs.length ≤ d) (hl : xs.length ≤ 2097152 ∧ ∀ x ∈ xs, x.f2.length ≤ 2097152 ∧ ∀ y ∈ x.f2, y.f1.length ≤ 2097152) :
  Calls Tryd.prog 55 #[.slice A xs.length c, .slice B xs.length d] w fun r w' => r = .returned (.bool true) ∧ Below w.heap.size w w' := by
 have H1 := Aside0.mk h1
 have H2 := Aside0.mk h2
 have HL := Aside0.mk hl
 have hxl := hl.1
 have q0 : ((xs.length : Int) != (xs.length : Int)) = false := by simp
 clear h1 h2 k1 k2 hl
 go_enter Tryd.func55, Tryd.ntmps55
 go_wp2
 go_loopg [5] (xs.length + 1) (fun kq v5 w' => ∃ i : Nat, v5 = .int .i64 i ∧ Aside0 (kq + i = xs.length + 1 ∧ i ≤ xs.length) ∧ Aside0 (Below w.heap.size w w'))
 case atStart => exact ⟨0, rfl, ⟨⟨by omega, by omega⟩⟩, ⟨Below.refl _ _⟩⟩
 case round =>
  obtain ⟨i, rfl, HJ, HB⟩ := hrel
  have hj0 := HJ.out
  by_cases hj : i < xs.length
  ·
   have c1 : decide ((i : Int) < (xs.length : Int)) = true := decide_eq_true (by omega)
   have c2 : decide (i < xs.length) = true := decide_eq_true hj
   have ci : (0 : Int) ≤ (i : Int) := by omega
   have ci2 : (i : Int) < (xs.length : Int) := by omega
   obtain ⟨adA, A2, a2, eA, x0, x1, x2, hlA2, hiA2⟩ := at_T70 H1.out (i : Int) ci ci2
   obtain ⟨adB, B2, b2, eB, y0, y1, y2, hlB2, hiB2⟩ := at_T70 H2.out (i : Int) ci ci2
   have ex : rd_T70 xs (i : Int) = xs[i] := by unfold rd_T70; rw [Int.toNat_natCast, List.getD_eq_getElem?_getD, List.getElem?_eq_getElem hj]; rfl
   rw [ex, Int.toNat_natCast] at x0 x1 y0 y1
   rw [ex] at hlA2 hiA2 hlB2 hiB2 x2 y2
   cases eA
   cases eB
   have hz := HL.out.2 xs[i] (List.getElem_mem hj)
   have KK := Aside0.mk (fun (W : World) (hW : Below w.heap.size w W) => eqSession_same xs[i].f0 xs[i].f1 xs[i].f2 A2 a2 B2 b2 W (Kd.C_below hiA2 hW) hlA2 (Kd.C_below hiB2 hW) hlB2 hz)
   have hal : ∀ {a : Addr} {z : Value}, w.cell? a = some z → wr.cell? a = some z := fun hz => (HB.out.cell (World.block_lt_of_cell? w _ hz)).trans hz
   rw [Int.toNat_natCast] at x2 y2
   replace x0 := hal x0
   replace y0 := hal y0
   replace x1 := hal x1
   replace y1 := hal y1
   replace x2 := hal x2
   replace y2 := hal y2
   clear hal ex hz hlA2 hiA2 hlB2 hiB2
   obtain ⟨y, hy⟩ : ∃ y, xs[i] = y := ⟨_, rfl⟩
   rw [hy] at KK x0 y0 x1 y1 x2 y2
   clear hy
   go_wp2_with fail
   first | go_region_held3 (fun w' => w'.cell? (adA.add (i * 3)) = some (.int .u64 y.f0) ∧ w'.cell? ⟨(adA.add (i * 3)).block, (adA.add (i * 3)).off + 1, none⟩ = some (.int .i64 y.f1) ∧ w'.cell? ⟨(adA.add (i * 3)).block, (adA.add (i * 3)).off + 2, none⟩ = some (.slice A2 y.f2.length a2) ∧ w'.cell? (adB.add (i * 3)) = some (.int .u64 y.f0) ∧ w'.cell? ⟨(adB.add (i * 3)).block, (adB.add (i * 3)).off + 1, none⟩ = some (.int .i64 y.f1) ∧ w'.cell? ⟨(adB.add (i * 3)).block, (adB.add (i * 3)).off + 2, none⟩ = some (.slice B2 y.f2.length b2)) (first | exact ⟨x0, x1, x2, y0, y1, y2⟩) (first | (go_at_call 102; refine (KK.out _ (by with_reducible repeat (first | exact HB.out | apply below_drew1))).mono ?_; rintro r W1 ⟨rfl, hb0⟩; have hb : Below wr.heap.size wr W1 := (by first | exact hb0 | exact (below_drew1 (Below.refl wr.heap.size wr)).trans hb0); clear hb0; replace HB := Aside0.mk (below_step HB.out hb); replace x0 := (hb.cell (World.block_lt_of_cell? _ _ x0)).trans x0; replace x1 := (hb.cell (World.block_lt_of_cell? _ _ x1)).trans x1; replace x2 := (hb.cell (World.block_lt_of_cell? _ _ x2)).trans x2; replace y0 := (hb.cell (World.block_lt_of_cell? _ _ y0)).trans y0; replace y1 := (hb.cell (World.block_lt_of_cell? _ _ y1)).trans y1; replace y2 := (hb.cell (World.block_lt_of_cell? _ _ y2)).trans y2; clear hb)) | fail
   have hj2 := HJ.out
   obtain ⟨k1, rfl⟩ : ∃ k1, gk = k1 + 1 := ⟨gk - 1, by omega⟩
   go_wp2_with fail
   go_roundg k1
   case measure => omega
   case rel => exact ⟨i + 1, by go_num, ⟨⟨by omega, by omega⟩⟩, HB⟩
  ·
   have c1 : decide ((i : Int) < (xs.length : Int)) = false := decide_eq_false (by omega)
   have c2 : decide (i < xs.length) = false := decide_eq_false hj
   go_wp2_with fail
   go_ret
   exact ⟨rfl, HB.out⟩
set_option maxHeartbeats 4000000 in
set_option maxRecDepth 100000 in
theorem eqNode_same (l0 : List Int) (l1 : List Int) (l2 : Int) (l3 : Int) (l4 : List Int) (l5 : Int) (l6 : Int) (l7 : List Int) (A0 : Option Addr) (a0 : Nat) (B0 : Option Addr) (b0 : Nat) (A1 : Option Addr) (a1 : Nat) (B1 : Option Addr) (b1 : Nat) (A4 : Option Addr) (a4 : Nat) (B4 : Option Addr) (b4 : Nat) (A7 : Option Addr) (a7 : Nat) (B7 : Option Addr) (b7 : Nat) (w : World) (h0 : Kd.C (Kd.int .u8) w A0 l0.length l0) (k0 : l0.length ≤ a0) (g0 : Kd.C (Kd.int .u8) w B0 l0.length l0) (j0 : l0.length ≤ b0) (z0 : l0.length ≤ 2097152) (h1 : Kd.C (Kd.int .u8) w A1 l1.length l1) (k1 : l1.length ≤ a1) (g1 : Kd.C (Kd.int .u8) w B1 l1.length l1) (j1 : l1.length ≤ b1) (z1 : l1.length ≤ 2097152) (h4 : Kd.C (Kd.int .u64) w A4 l4.length l4) (k4 : l4.length ≤ a4) (g4 : Kd.C (Kd.int .u64) w B4 l4.length l4) (j4 : l4.length ≤ b4) (z4 : l4.length ≤ 2097152) (h7 : Kd.C (Kd.int .u64) w A7 l7.length l7) (k7 : l7.length ≤ a7) (g7 : Kd.C (Kd.int .u64) w B7 l7.length l7) (j7 : l7.length ≤ b7) (z7 : l7.length ≤ 2097152) :
  Calls Tryd.prog 103 #[.agg #[.slice A0 l0.length a0, .slice A1 l1.length a1, .int .u64 l2, .int .i64 l3, .slice A4 l4.length a4, .int .u64 l5, .int .u64 l6, .slice A7 l7.length a7], .agg #[.slice B0 l0.length b0, .slice B1 l1.length b1, .int .u64 l2, .int .i64 l3, .slice B4 l4.length b4, .int .u64 l5, .int .u64 l6, .slice B7 l7.length b7]] w fun r w' => r = .returned (.bool true) ∧ Below w.heap.size w w' := by
 have K0 := Aside0.mk (fun (W : World) (hW : Below w.heap.size w W) => eqByteS_same A0 a0 B0 b0 l0 W (Kd.C_below h0 hW) k0 (Kd.C_below g0 hW) j0 z0)
 have K1 := Aside0.mk (fun (W : World) (hW : Below w.heap.size w W) => eqByteS_same A1 a1 B1 b1 l1 W (Kd.C_below h1 hW) k1 (Kd.C_below g1 hW) j1 z1)
 have K4 := Aside0.mk (fun (W : World) (hW : Below w.heap.size w W) => eqUint64S_same A4 a4 B4 b4 l4 W (Kd.C_below h4 hW) k4 (Kd.C_below g4 hW) j4 z4)
 have K7 := Aside0.mk (fun (W : World) (hW : Below w.heap.size w W) => eqUint64S_same A7 a7 B7 b7 l7 W (Kd.C_below h7 hW) k7 (Kd.C_below g7 hW) j7 z7)
 clear h0 k0 g0 j0 z0 h1 k1 g1 j1 z1 h4 k4 g4 j4 z4 h7 k7 g7 j7 z7
 go_enter Tryd.func103, Tryd.ntmps103
 go_upto_region 1 with (fail)
 have bx0 := blk_alloc (blk_new w (.cells #[.slice A0 l0.length a0, .slice A1 l1.length a1, .int .u64 l2, .int .i64 l3, .slice A4 l4.length a4, .int .u64 l5, .int .u64 l6, .slice A7 l7.length a7] 76)) (.cells #[.slice B0 l0.length b0, .slice B1 l1.length b1, .int .u64 l2, .int .i64 l3, .slice B4 l4.length b4, .int .u64 l5, .int .u64 l6, .slice B7 l7.length b7] 76)
 have bx1 := blk_new (w.alloc (.cells #[.slice A0 l0.length a0, .slice A1 l1.length a1, .int .u64 l2, .int .i64 l3, .slice A4 l4.length a4, .int .u64 l5, .int .u64 l6, .slice A7 l7.length a7] 76)) (.cells #[.slice B0 l0.length b0, .slice B1 l1.length b1, .int .u64 l2, .int .i64 l3, .slice B4 l4.length b4, .int .u64 l5, .int .u64 l6, .slice B7 l7.length b7] 76)
 simp only [World.size_alloc] at bx1
 have hB := below_alloc (below_alloc (Below.refl w.heap.size w) (.cells #[.slice A0 l0.length a0, .slice A1 l1.length a1, .int .u64 l2, .int .i64 l3, .slice A4 l4.length a4, .int .u64 l5, .int .u64 l6, .slice A7 l7.length a7] 76)) (.cells #[.slice B0 l0.length b0, .slice B1 l1.length b1, .int .u64 l2, .int .i64 l3, .slice B4 l4.length b4, .int .u64 l5, .int .u64 l6, .slice B7 l7.length b7] 76)
 generalize (w.alloc (.cells #[.slice A0 l0.length a0, .slice A1 l1.length a1, .int .u64 l2, .int .i64 l3, .slice A4 l4.length a4, .int .u64 l5, .int .u64 l6, .slice A7 l7.length a7] 76)).alloc (.cells #[.slice B0 l0.length b0, .slice B1 l1.length b1, .int .u64 l2, .int .i64 l3, .slice B4 l4.length b4, .int .u64 l5, .int .u64 l6, .slice B7 l7.length b7] 76) = W0 at *
 have BA := Aside0.mk bx0
 have BB := Aside0.mk bx1
 have HB := Aside0.mk hB
 clear bx0 bx1 hB
 have q2 : (l2 != l2) = false := by simp
 have p2 : (l2 == l2) = true := by simp
 have q3 : (l3 != l3) = false := by simp
 have p3 : (l3 == l3) = true := by simp
 have q5 : (l5 != l5) = false := by simp
 have p5 : (l5 == l5) = true := by simp
 have q6 : (l6 != l6) = false := by simp
 have p6 : (l6 == l6) = true := by simp
 obtain ⟨x0, x1, x2, x3, x4, x5, x6, x7⟩ := cells8 BA.out
 obtain ⟨y0, y1, y2, y3, y4, y5, y6, y7⟩ := cells8 BB.out
 go_wp2_with fail
 refine (K0.out _ HB.out).mono ?_
 rintro r W1 ⟨rfl, hb⟩
 clear x0 y0 x1 y1 x2 y2 x3 y3 x4 y4 x5 y5 x6 y6 x7 y7
 replace BA := Aside0.mk (blk_below BA.out hb)
 replace BB := Aside0.mk (blk_below BB.out hb)
 replace HB := Aside0.mk (below_step HB.out hb)
 clear hb
 obtain ⟨x0, x1, x2, x3, x4, x5, x6, x7⟩ := cells8 BA.out
 obtain ⟨y0, y1, y2, y3, y4, y5, y6, y7⟩ := cells8 BB.out
 go_wp2_with fail
 refine (K1.out _ HB.out).mono ?_
 rintro r W2 ⟨rfl, hb⟩
 clear x0 y0 x1 y1 x2 y2 x3 y3 x4 y4 x5 y5 x6 y6 x7 y7
 replace BA := Aside0.mk (blk_below BA.out hb)
 replace BB := Aside0.mk (blk_below BB.out hb)
 replace HB := Aside0.mk (below_step HB.out hb)
 clear hb
 obtain ⟨x0, x1, x2, x3, x4, x5, x6, x7⟩ := cells8 BA.out
 obtain ⟨y0, y1, y2, y3, y4, y5, y6, y7⟩ := cells8 BB.out
 go_wp2_with fail
 refine (K4.out _ HB.out).mono ?_
 rintro r W3 ⟨rfl, hb⟩
 clear x0 y0 x1 y1 x2 y2 x3 y3 x4 y4 x5 y5 x6 y6 x7 y7
 replace BA := Aside0.mk (blk_below BA.out hb)
 replace BB := Aside0.mk (blk_below BB.out hb)
 replace HB := Aside0.mk (below_step HB.out hb)
 clear hb
 obtain ⟨x0, x1, x2, x3, x4, x5, x6, x7⟩ := cells8 BA.out
 obtain ⟨y0, y1, y2, y3, y4, y5, y6, y7⟩ := cells8 BB.out
 go_wp2_with fail
 refine (K7.out _ HB.out).mono ?_
 rintro r W4 ⟨rfl, hb⟩
 clear x0 y0 x1 y1 x2 y2 x3 y3 x4 y4 x5 y5 x6 y6 x7 y7
 replace BA := Aside0.mk (blk_below BA.out hb)
 replace BB := Aside0.mk (blk_below BB.out hb)
 replace HB := Aside0.mk (below_step HB.out hb)
 clear hb
 obtain ⟨x0, x1, x2, x3, x4, x5, x6, x7⟩ := cells8 BA.out
 obtain ⟨y0, y1, y2, y3, y4, y5, y6, y7⟩ := cells8 BB.out
 go_wp2_with fail
 go_ret
 exact ⟨rfl, HB.out⟩
set_option maxHeartbeats 4000000 in
set_option maxRecDepth 100000 in
theorem eqNodeS_same (A : Option Addr) (c : Nat) (B : Option Addr) (d : Nat) (xs : List No) (w : World) (h1 : Kd.C kNo w A xs.length xs) (k1 : xs.length ≤ c) (h2 : Kd.C kNo w B xs.length xs) (k2 : xs.length ≤ d) (hl : xs.length ≤ 2097152 ∧ ∀ x ∈ xs, (x.f0.length ≤ 2097152 ∧ x.f1.length ≤ 2097152) ∧ x.f4.length ≤ 2097152 ∧ x.f7.length ≤ 2097152) :
  Calls Tryd.prog 56 #[.slice A xs.length c, .slice B xs.length d] w fun r w' => r = .returned (.bool true) ∧ Below w.heap.size w w' := by
 have H1 := Aside0.mk h1
 have H2 := Aside0.mk h2
 have HL := Aside0.mk hl
 have hxl := hl.1
 have q0 : ((xs.length : Int) != (xs.length : Int)) = false := by simp
 clear h1 h2 k1 k2 hl
 go_enter Tryd.func56, Tryd.ntmps56
 go_wp2
 go_loopg [5] (xs.length + 1) (fun kq v5 w' => ∃ i : Nat, v5 = .int .i64 i ∧ Aside0 (kq + i = xs.length + 1 ∧ i ≤ xs.length) ∧ Aside0 (Below w.heap.size w w'))
 case atStart => exact ⟨0, rfl, ⟨⟨by omega, by omega⟩⟩, ⟨Below.refl _ _⟩⟩
 case round =>
  obtain ⟨i, rfl, HJ, HB⟩ := hrel
  have hj0 := HJ.out
  by_cases hj : i < xs.length
  ·
   have c1 : decide ((i : Int) < (xs.length : Int)) = true := decide_eq_true (by omega)
   have c2 : decide (i < xs.length) = true := decide_eq_true hj
   have ci : (0 : Int) ≤ (i : Int) := by omega
   have ci2 : (i : Int) < (xs.length : Int) := by omega
   obtain ⟨adA, A0, a0, A1, a1, A4, a4, A7, a7, eA, x0, x1, x2, x3, x4, x5, x6, x7, hlA0, hiA0, hlA1, hiA1, hlA4, hiA4, hlA7, hiA7⟩ := at_T76 H1.out (i : Int) ci ci2
   obtain ⟨adB, B0, b0, B1, b1, B4, b4, B7, b7, eB, y0, y1, y2, y3, y4, y5, y6, y7, hlB0, hiB0, hlB1, hiB1, hlB4, hiB4, hlB7, hiB7⟩ := at_T76 H2.out (i : Int) ci ci2
   have ex : rd_T76 xs (i : Int) = xs[i] := by unfold rd_T76; rw [Int.toNat_natCast, List.getD_eq_getElem?_getD, List.getElem?_eq_getElem hj]; rfl
   rw [ex, Int.toNat_natCast] at x2 x3 x5 x6 y2 y3 y5 y6
   rw [ex] at hlA0 hiA0 hlB0 hiB0 hlA1 hiA1 hlB1 hiB1 hlA4 hiA4 hlB4 hiB4 hlA7 hiA7 hlB7 hiB7 x0 y0 x1 y1 x4 y4 x7 y7
   cases eA
   cases eB
   have hz := HL.out.2 xs[i] (List.getElem_mem hj)
   have KK := Aside0.mk (fun (W : World) (hW : Below w.heap.size w W) => eqNode_same xs[i].f0 xs[i].f1 xs[i].f2 xs[i].f3 xs[i].f4 xs[i].f5 xs[i].f6 xs[i].f7 A0 a0 B0 b0 A1 a1 B1 b1 A4 a4 B4 b4 A7 a7 B7 b7 W (Kd.C_below hiA0 hW) hlA0 (Kd.C_below hiB0 hW) hlB0 hz.1.1 (Kd.C_below hiA1 hW) hlA1 (Kd.C_below hiB1 hW) hlB1 hz.1.2 (Kd.C_below hiA4 hW) hlA4 (Kd.C_below hiB4 hW) hlB4 hz.2.1 (Kd.C_below hiA7 hW) hlA7 (Kd.C_below hiB7 hW) hlB7 hz.2.2)
   have hal : ∀ {a : Addr} {z : Value}, w.cell? a = some z → wr.cell? a = some z := fun hz => (HB.out.cell (World.block_lt_of_cell? w _ hz)).trans hz
   rw [Int.toNat_natCast] at x0 y0
   rw [Int.toNat_natCast] at x1 y1
   rw [Int.toNat_natCast] at x4 y4
   rw [Int.toNat_natCast] at x7 y7
   replace x0 := hal x0
   replace y0 := hal y0
   replace x1 := hal x1
   replace y1 := hal y1
   replace x2 := hal x2
   replace y2 := hal y2
   replace x3 := hal x3
   replace y3 := hal y3
   replace x4 := hal x4
   replace y4 := hal y4
   replace x5 := hal x5
   replace y5 := hal y5
   replace x6 := hal x6
   replace y6 := hal y6
   replace x7 := hal x7
   replace y7 := hal y7
   clear hal ex hz hlA0 hiA0 hlB0 hiB0 hlA1 hiA1 hlB1 hiB1 hlA4 hiA4 hlB4 hiB4 hlA7 hiA7 hlB7 hiB7
   obtain ⟨y, hy⟩ : ∃ y, xs[i] = y := ⟨_, rfl⟩
   rw [hy] at KK x0 y0 x1 y1 x2 y2 x3 y3 x4 y4 x5 y5 x6 y6 x7 y7
   clear hy
   go_wp2_with fail
   first | go_region_held3 (fun w' => w'.cell? (adA.add (i * 8)) = some (.slice A0 y.f0.length a0) ∧ w'.cell? ⟨(adA.add (i * 8)).block, (adA.add (i * 8)).off + 1, none⟩ = some (.slice A1 y.f1.length a1) ∧ w'.cell? ⟨(adA.add (i * 8)).block, (adA.add (i * 8)).off + 2, none⟩ = some (.int .u64 y.f2) ∧ w'.cell? ⟨(adA.add (i * 8)).block, (adA.add (i * 8)).off + 3, none⟩ = some (.int .i64 y.f3) ∧ w'.cell? ⟨(adA.add (i * 8)).block, (adA.add (i * 8)).off + 4, none⟩ = some (.slice A4 y.f4.length a4) ∧ w'.cell? ⟨(adA.add (i * 8)).block, (adA.add (i * 8)).off + 5, none⟩ = some (.int .u64 y.f5) ∧ w'.cell? ⟨(adA.add (i * 8)).block, (adA.add (i * 8)).off + 6, none⟩ = some (.int .u64 y.f6) ∧ w'.cell? ⟨(adA.add (i * 8)).block, (adA.add (i * 8)).off + 7, none⟩ = some (.slice A7 y.f7.length a7) ∧ w'.cell? (adB.add (i * 8)) = some (.slice B0 y.f0.length b0) ∧ w'.cell? ⟨(adB.add (i * 8)).block, (adB.add (i * 8)).off + 1, none⟩ = some (.slice B1 y.f1.length b1) ∧ w'.cell? ⟨(adB.add (i * 8)).block, (adB.add (i * 8)).off + 2, none⟩ = some (.int .u64 y.f2) ∧ w'.cell? ⟨(adB.add (i * 8)).block, (adB.add (i * 8)).off + 3, none⟩ = some (.int .i64 y.f3) ∧ w'.cell? ⟨(adB.add (i * 8)).block, (adB.add (i * 8)).off + 4, none⟩ = some (.slice B4 y.f4.length b4) ∧ w'.cell? ⟨(adB.add (i * 8)).block, (adB.add (i * 8)).off + 5, none⟩ = some (.int .u64 y.f5) ∧ w'.cell? ⟨(adB.add (i * 8)).block, (adB.add (i * 8)).off + 6, none⟩ = some (.int .u64 y.f6) ∧ w'.cell? ⟨(adB.add (i * 8)).block, (adB.add (i * 8)).off + 7, none⟩ = some (.slice B7 y.f7.length b7)) (first | exact ⟨x0, x1, x2, x3, x4, x5, x6, x7, y0, y1, y2, y3, y4, y5, y6, y7⟩) (first | (go_at_call 103; refine (KK.out _ (by with_reducible repeat (first | exact HB.out | apply below_drew1))).mono ?_; rintro r W1 ⟨rfl, hb0⟩; have hb : Below wr.heap.size wr W1 := (by first | exact hb0 | exact (below_drew1 (Below.refl wr.heap.size wr)).trans hb0); clear hb0; replace HB := Aside0.mk (below_step HB.out hb); replace x0 := (hb.cell (World.block_lt_of_cell? _ _ x0)).trans x0; replace x1 := (hb.cell (World.block_lt_of_cell? _ _ x1)).trans x1; replace x2 := (hb.cell (World.block_lt_of_cell? _ _ x2)).trans x2; replace x3 := (hb.cell (World.block_lt_of_cell? _ _ x3)).trans x3; replace x4 := (hb.cell (World.block_lt_of_cell? _ _ x4)).trans x4; replace x5 := (hb.cell (World.block_lt_of_cell? _ _ x5)).trans x5; replace x6 := (hb.cell (World.block_lt_of_cell? _ _ x6)).trans x6; replace x7 := (hb.cell (World.block_lt_of_cell? _ _ x7)).trans x7; replace y0 := (hb.cell (World.block_lt_of_cell? _ _ y0)).trans y0; replace y1 := (hb.cell (World.block_lt_of_cell? _ _ y1)).trans y1; replace y2 := (hb.cell (World.block_lt_of_cell? _ _ y2)).trans y2; replace y3 := (hb.cell (World.block_lt_of_cell? _ _ y3)).trans y3; replace y4 := (hb.cell (World.block_lt_of_cell? _ _ y4)).trans y4; replace y5 := (hb.cell (World.block_lt_of_cell? _ _ y5)).trans y5; replace y6 := (hb.cell (World.block_lt_of_cell? _ _ y6)).trans y6; replace y7 := (hb.cell (World.block_lt_of_cell? _ _ y7)).trans y7; clear hb)) | fail
   have hj2 := HJ.out
   obtain ⟨k1, rfl⟩ : ∃ k1, gk = k1 + 1 := ⟨gk - 1, by omega⟩
   go_wp2_with fail
   go_roundg k1
   case measure => omega
   case rel => exact ⟨i + 1, by go_num, ⟨⟨by omega, by omega⟩⟩, HB⟩
  ·
   have c1 : decide ((i : Int) < (xs.length : Int)) = false := decide_eq_false (by omega)
   have c2 : decide (i < xs.length) = false := decide_eq_false hj
   go_wp2_with fail
   go_ret
   exact ⟨rfl, HB.out⟩
set_option maxHeartbeats 4000000 in
set_option maxRecDepth 100000 in
theorem eqState_same (l0 : Int) (l1 : Int) (l2 : Int) (l3 : Int) (l4 : List Se) (l5 : List No) (A4 : Option Addr) (a4 : Nat) (B4 : Option Addr) (b4 : Nat) (A5 : Option Addr) (a5 : Nat) (B5 : Option Addr) (b5 : Nat) (w : World) (h4 : Kd.C (kSe) w A4 l4.length l4) (k4 : l4.length ≤ a4) (g4 : Kd.C (kSe) w B4 l4.length l4) (j4 : l4.length ≤ b4) (z4 : l4.length ≤ 2097152 ∧ ∀ x ∈ l4, x.f2.length ≤ 2097152 ∧ ∀ y ∈ x.f2, y.f1.length ≤ 2097152) (h5 : Kd.C (kNo) w A5 l5.length l5) (k5 : l5.length ≤ a5) (g5 : Kd.C (kNo) w B5 l5.length l5) (j5 : l5.length ≤ b5) (z5 : l5.length ≤ 2097152 ∧ ∀ x ∈ l5, (x.f0.length ≤ 2097152 ∧ x.f1.length ≤ 2097152) ∧ x.f4.length ≤ 2097152 ∧ x.f7.length ≤ 2097152) :
  Calls Tryd.prog 17 #[.agg #[.int .u64 l0, .int .u64 l1, .int .u64 l2, .int .i64 l3, .slice A4 l4.length a4, .slice A5 l5.length a5], .agg #[.int .u64 l0, .int .u64 l1, .int .u64 l2, .int .i64 l3, .slice B4 l4.length b4, .slice B5 l5.length b5]] w fun r w' => r = .returned (.bool true) ∧ Below w.heap.size w w' := by
 have K4 := Aside0.mk (fun (W : World) (hW : Below w.heap.size w W) => eqSessionS_same A4 a4 B4 b4 l4 W (Kd.C_below h4 hW) k4 (Kd.C_below g4 hW) j4 z4)
 have K5 := Aside0.mk (fun (W : World) (hW : Below w.heap.size w W) => eqNodeS_same A5 a5 B5 b5 l5 W (Kd.C_below h5 hW) k5 (Kd.C_below g5 hW) j5 z5)
 clear h4 k4 g4 j4 z4 h5 k5 g5 j5 z5
 go_enter Tryd.func17, Tryd.ntmps17
 go_upto_region 1 with (fail)
 have bx0 := blk_alloc (blk_new w (.cells #[.int .u64 l0, .int .u64 l1, .int .u64 l2, .int .i64 l3, .slice A4 l4.length a4, .slice A5 l5.length a5] 36)) (.cells #[.int .u64 l0, .int .u64 l1, .int .u64 l2, .int .i64 l3, .slice B4 l4.length b4, .slice B5 l5.length b5] 36)
 have bx1 := blk_new (w.alloc (.cells #[.int .u64 l0, .int .u64 l1, .int .u64 l2, .int .i64 l3, .slice A4 l4.length a4, .slice A5 l5.length a5] 36)) (.cells #[.int .u64 l0, .int .u64 l1, .int .u64 l2, .int .i64 l3, .slice B4 l4.length b4, .slice B5 l5.length b5] 36)
 simp only [World.size_alloc] at bx1
 have hB := below_alloc (below_alloc (Below.refl w.heap.size w) (.cells #[.int .u64 l0, .int .u64 l1, .int .u64 l2, .int .i64 l3, .slice A4 l4.length a4, .slice A5 l5.length a5] 36)) (.cells #[.int .u64 l0, .int .u64 l1, .int .u64 l2, .int .i64 l3, .slice B4 l4.length b4, .slice B5 l5.length b5] 36)
 generalize (w.alloc (.cells #[.int .u64 l0, .int .u64 l1, .int .u64 l2, .int .i64 l3, .slice A4 l4.length a4, .slice A5 l5.length a5] 36)).alloc (.cells #[.int .u64 l0, .int .u64 l1, .int .u64 l2, .int .i64 l3, .slice B4 l4.length b4, .slice B5 l5.length b5] 36) = W0 at *
 have BA := Aside0.mk bx0
 have BB := Aside0.mk bx1
 have HB := Aside0.mk hB
 clear bx0 bx1 hB
 have q0 : (l0 != l0) = false := by simp
 have p0 : (l0 == l0) = true := by simp
 have q1 : (l1 != l1) = false := by simp
 have p1 : (l1 == l1) = true := by simp
 have q2 : (l2 != l2) = false := by simp
 have p2 : (l2 == l2) = true := by simp
 have q3 : (l3 != l3) = false := by simp
 have p3 : (l3 == l3) = true := by simp
 obtain ⟨x0, x1, x2, x3, x4, x5⟩ := cells6 BA.out
 obtain ⟨y0, y1, y2, y3, y4, y5⟩ := cells6 BB.out
 go_wp2_with fail
 refine (K4.out _ HB.out).mono ?_
 rintro r W1 ⟨rfl, hb⟩
 clear x0 y0 x1 y1 x2 y2 x3 y3 x4 y4 x5 y5
 replace BA := Aside0.mk (blk_below BA.out hb)
 replace BB := Aside0.mk (blk_below BB.out hb)
 replace HB := Aside0.mk (below_step HB.out hb)
 clear hb
 obtain ⟨x0, x1, x2, x3, x4, x5⟩ := cells6 BA.out
 obtain ⟨y0, y1, y2, y3, y4, y5⟩ := cells6 BB.out
 go_wp2_with fail
 refine (K5.out _ HB.out).mono ?_
 rintro r W2 ⟨rfl, hb⟩
 clear x0 y0 x1 y1 x2 y2 x3 y3 x4 y4 x5 y5
 replace BA := Aside0.mk (blk_below BA.out hb)
 replace BB := Aside0.mk (blk_below BB.out hb)
 replace HB := Aside0.mk (below_step HB.out hb)
 clear hb
 obtain ⟨x0, x1, x2, x3, x4, x5⟩ := cells6 BA.out
 obtain ⟨y0, y1, y2, y3, y4, y5⟩ := cells6 BB.out
 go_wp2_with fail
 go_ret
 exact ⟨rfl, HB.out⟩
theorem readsNone2 {α : Type} {R : α → List Value → Prop} {size : Nat} {w : World} {n : Nat} {l : List α} (h : ReadsRow R size w none n l) : l = [] := by
 rcases Nat.eq_zero_or_pos n with h0 | h0
 ·
  exact List.eq_nil_of_length_eq_zero (by rw [h.1, h0])
 ·
  obtain ⟨ad, e, _⟩ := h.2.2 h0
  cases e
theorem lit_empty2 (w : World) : Kd.R (Kd.int .u8) 5 (w.alloc (.cells #[] 5)) w.heap.size (fun _ => True) (.slice (some ⟨w.heap.size, 0, none⟩) 0 0) [] :=
 ⟨fun _ _ => trivial, [], own_lit w w.heap.size 5 .u8 [] (Nat.le_refl _) (by decide), ⟨rfl, fun j p h => by simp at h⟩⟩
def slices_Clone_byte_byte.f (l0 : List Int) : Option (List Int) := if l0.length < 140737488355328 then some l0 else none
set_option maxHeartbeats 400000 in
set_option maxRecDepth 100000 in
theorem slices_Clone_byte_byte.calls (A0 : Option Addr) (c0 : Nat) (l0 : List Int) (r : List Int) (w : World) (hr0 : Kd.C (Kd.int .u8) w A0 l0.length l0) (hc0 : l0.length ≤ c0) (h : slices_Clone_byte_byte.f l0 = some r) :
  Calls Tryd.prog 130 #[.slice A0 l0.length c0] w fun e w' => ∃ v0_ : Value, e = .returned (v0_) ∧ Kd.R (Kd.int .u8) 5 w' w.heap.size (fun _ => True) v0_ r ∧ Below w.heap.size w w' := by
 unfold slices_Clone_byte_byte.f at h
 split at h
 case isFalse => cases h
 rename_i hl0
 have HL := Aside0.mk hl0
 clear hl0
 obtain rfl := Option.some.inj h
 clear h
 have HR := Aside0.mk hr0
 clear hr0
 have ke : ∀ (a : Option Addr) (n c : Nat) (W : World), (binOp .eql 22 (.slice a n c) (.slice none 0 0)).run Tryd.prog W = .ok (.bool a.isNone) W := fun a n c W => Lib.run_eql_slice_nil W 22 5 a n c 0 0 Tryd.underlying22
 rcases A0 with _ | ad
 ·
  obtain rfl := readsNone2 HR.out
  go_enter Tryd.func130, Tryd.ntmps130
  go_wp2_with fail
  go_ret
  exact ⟨_, rfl, Kd.R_nil _ _ _ _ _, Below.refl _ _⟩
 ·
  go_enter Tryd.func130, Tryd.ntmps130
  go_wp2_with ((with_reducible refine gate_builtin (b := .append) (xs := #[.tmp 5, .tmp 6]) rfl ?_); at_builtin; refine Kd.R_append_rows (Kd.int .u8) (w0 := w) w.heap.size rfl (.tmp 5) (.tmp 6) 22 5 (.int .u8 0) 1 rfl Tryd.underlying22 info5 rfl (by decide) (by omega) (.slice (some ⟨w.heap.size, 0, none⟩) 0 0) ([] : List Int) l0 _ _ _ (fun _ => True) (fun _ => False) rfl rfl (lit_empty2 w) (Kd.C_alloc HR.out _) (fun _ _ h => h) (fun _ h => h.elim) (fun _ _ => trivial) (below_alloc (Below.refl _ _) _) (below_size (below_alloc (Below.refl _ _) _)) (by have := HL.out; simp only [List.length_nil]; omega) ?_; intro v1 w1 ho hb hg hat)
  go_ret
  exact ⟨_, rfl, ho, hb⟩
theorem readsNone3 {α : Type} {R : α → List Value → Prop} {size : Nat} {w : World} {n : Nat} {l : List α} (h : ReadsRow R size w none n l) : l = [] := by
 rcases Nat.eq_zero_or_pos n with h0 | h0
 ·
  exact List.eq_nil_of_length_eq_zero (by rw [h.1, h0])
 ·
  obtain ⟨ad, e, _⟩ := h.2.2 h0
  cases e
theorem lit_emptyU (w : World) : Kd.R (Kd.int .u64) 26 (w.alloc (.cells #[] 26)) w.heap.size (fun _ => True) (.slice (some ⟨w.heap.size, 0, none⟩) 0 0) [] :=
 ⟨fun _ _ => trivial, [], own_lit w w.heap.size 26 .u64 [] (Nat.le_refl _) (by decide), ⟨rfl, fun j p h => by simp at h⟩⟩
def slices_Clone_u64.f (l0 : List Int) : Option (List Int) := if l0.length < 17592186044416 then some l0 else none
set_option maxHeartbeats 400000 in
set_option maxRecDepth 100000 in
theorem slices_Clone_u64.calls (A0 : Option Addr) (c0 : Nat) (l0 : List Int) (r : List Int) (w : World) (hr0 : Kd.C (Kd.int .u64) w A0 l0.length l0) (hc0 : l0.length ≤ c0) (h : slices_Clone_u64.f l0 = some r) :
  Calls Tryd.prog 131 #[.slice A0 l0.length c0] w fun e w' => ∃ v0_ : Value, e = .returned (v0_) ∧ Kd.R (Kd.int .u64) 26 w' w.heap.size (fun _ => True) v0_ r ∧ Below w.heap.size w w' := by
 unfold slices_Clone_u64.f at h
 split at h
 case isFalse => cases h
 rename_i hl0
 have HL := Aside0.mk hl0
 clear hl0
 obtain rfl := Option.some.inj h
 clear h
 have HR := Aside0.mk hr0
 clear hr0
 have ke : ∀ (a : Option Addr) (n c : Nat) (W : World), (binOp .eql 40 (.slice a n c) (.slice none 0 0)).run Tryd.prog W = .ok (.bool a.isNone) W := fun a n c W => Lib.run_eql_slice_nil W 40 26 a n c 0 0 Tryd.underlying40
 rcases A0 with _ | ad
 ·
  obtain rfl := readsNone3 HR.out
  go_enter Tryd.func131, Tryd.ntmps131
  go_wp2_with fail
  go_ret
  exact ⟨_, rfl, Kd.R_nil _ _ _ _ _, Below.refl _ _⟩
 ·
  go_enter Tryd.func131, Tryd.ntmps131
  go_wp2_with ((with_reducible refine gate_builtin (b := .append) (xs := #[.tmp 5, .tmp 6]) rfl ?_); at_builtin; refine Kd.R_append_rows (Kd.int .u64) (w0 := w) w.heap.size rfl (.tmp 5) (.tmp 6) 40 26 (.int .u64 0) 8 rfl Tryd.underlying40 info26 rfl (by decide) (by omega) (.slice (some ⟨w.heap.size, 0, none⟩) 0 0) ([] : List Int) l0 _ _ _ (fun _ => True) (fun _ => False) rfl rfl (lit_emptyU w) (Kd.C_alloc HR.out _) (fun _ _ h => h) (fun _ h => h.elim) (fun _ _ => trivial) (below_alloc (Below.refl _ _) _) (below_size (below_alloc (Below.refl _ _) _)) (by have := HL.out; simp only [List.length_nil]; omega) ?_; intro v1 w1 ho hb hg hat)
  go_ret
  exact ⟨_, rfl, ho, hb⟩
theorem cloneB_ok (A : Option Addr) (c : Nat) (l : List Int) (w : World) (h : Kd.C (Kd.int .u8) w A l.length l) (hc : l.length ≤ c) (hl : l.length ≤ 2097152) :
  Calls Tryd.prog 130 #[.slice A l.length c] w fun e w' => ∃ B d, e = .returned (.slice B l.length d) ∧ Kd.R (Kd.int .u8) 5 w' w.heap.size (fun _ => True) (.slice B l.length d) l ∧ Below w.heap.size w w' := by
 refine (slices_Clone_byte_byte.calls A c l l w h hc (by unfold slices_Clone_byte_byte.f; rw [if_pos (by omega)])).mono ?_
 rintro e w' ⟨v, rfl, hr, hb⟩
 obtain ⟨B, d, rfl⟩ := Kd.R_slice hr
 exact ⟨B, d, rfl, hr, hb⟩
theorem cloneU_ok (A : Option Addr) (c : Nat) (l : List Int) (w : World) (h : Kd.C (Kd.int .u64) w A l.length l) (hc : l.length ≤ c) (hl : l.length ≤ 2097152) :
  Calls Tryd.prog 131 #[.slice A l.length c] w fun e w' => ∃ B d, e = .returned (.slice B l.length d) ∧ Kd.R (Kd.int .u64) 26 w' w.heap.size (fun _ => True) (.slice B l.length d) l ∧ Below w.heap.size w w' := by
 refine (slices_Clone_u64.calls A c l l w h hc (by unfold slices_Clone_u64.f; rw [if_pos (by omega)])).mono ?_
 rintro e w' ⟨v, rfl, hr, hb⟩
 obtain ⟨B, d, rfl⟩ := Kd.R_slice hr
 exact ⟨B, d, rfl, hr, hb⟩
set_option maxHeartbeats 4000000 in
set_option maxRecDepth 100000 in
theorem nodeCopy_ok (A0 : Option Addr) (c0 : Nat) (l0 : List Int) (A1 : Option Addr) (c1 : Nat) (l1 : List Int) (o m : Int) (A4 : Option Addr) (c4 : Nat) (l4 : List Int) (ep ge : Int) (A7 : Option Addr) (c7 : Nat) (l7 : List Int) (w : World)
  (h0 : Kd.C (Kd.int .u8) w A0 l0.length l0) (k0 : l0.length ≤ c0) (h1 : Kd.C (Kd.int .u8) w A1 l1.length l1) (k1 : l1.length ≤ c1) (h4 : Kd.C (Kd.int .u64) w A4 l4.length l4) (k4 : l4.length ≤ c4) (h7 : Kd.C (Kd.int .u64) w A7 l7.length l7) (k7 : l7.length ≤ c7)
  (s0 : l0.length ≤ 2097152) (s1 : l1.length ≤ 2097152) (s4 : l4.length ≤ 2097152) (s7 : l7.length ≤ 2097152) :
  Calls Tryd.prog 107 #[.agg #[.slice A0 l0.length c0, .slice A1 l1.length c1, .int .u64 o, .int .i64 m, .slice A4 l4.length c4, .int .u64 ep, .int .u64 ge, .slice A7 l7.length c7]] w fun r w' => ∃ B0 d0 B1 d1 B4 d4 B7 d7, r = .returned (.agg #[.slice B0 l0.length d0, .slice B1 l1.length d1, .int .u64 o, .int .i64 m, .slice B4 l4.length d4, .int .u64 ep, .int .u64 ge, .slice B7 l7.length d7]) ∧
   aNo.M w' w.heap.size (fun _ => True) ⟨l0, l1, o, m, l4, ep, ge, l7⟩ [.slice B0 l0.length d0, .slice B1 l1.length d1, .int .u64 o, .int .i64 m, .slice B4 l4.length d4, .int .u64 ep, .int .u64 ge, .slice B7 l7.length d7] ∧ Below w.heap.size w w' := by
 have K0 := Aside0.mk (fun (W : World) (hW : Below w.heap.size w W) => cloneB_ok A0 c0 l0 W (Kd.C_below h0 hW) k0 s0)
 have K1 := Aside0.mk (fun (W : World) (hW : Below w.heap.size w W) => cloneB_ok A1 c1 l1 W (Kd.C_below h1 hW) k1 s1)
 have K4 := Aside0.mk (fun (W : World) (hW : Below w.heap.size w W) => cloneU_ok A4 c4 l4 W (Kd.C_below h4 hW) k4 s4)
 have K7 := Aside0.mk (fun (W : World) (hW : Below w.heap.size w W) => cloneU_ok A7 c7 l7 W (Kd.C_below h7 hW) k7 s7)
 clear h0 k0 h1 k1 h4 k4 h7 k7 s0 s1 s4 s7
 go_enter Tryd.func107, Tryd.ntmps107
 go_upto_region 1 with (fail)
 have bx := blk_alloc (blk_new w (.cells #[.slice A0 l0.length c0, .slice A1 l1.length c1, .int .u64 o, .int .i64 m, .slice A4 l4.length c4, .int .u64 ep, .int .u64 ge, .slice A7 l7.length c7] 76)) (.cells #[.slice none 0 0, .slice none 0 0, .int .u64 0, .int .i64 0, .slice none 0 0, .int .u64 0, .int .u64 0, .slice none 0 0] 76)
 have bz := blk_new (w.alloc (.cells #[.slice A0 l0.length c0, .slice A1 l1.length c1, .int .u64 o, .int .i64 m, .slice A4 l4.length c4, .int .u64 ep, .int .u64 ge, .slice A7 l7.length c7] 76)) (.cells #[.slice none 0 0, .slice none 0 0, .int .u64 0, .int .i64 0, .slice none 0 0, .int .u64 0, .int .u64 0, .slice none 0 0] 76)
 simp only [World.size_alloc] at bz
 have hB := below_alloc (below_alloc (Below.refl w.heap.size w) (.cells #[.slice A0 l0.length c0, .slice A1 l1.length c1, .int .u64 o, .int .i64 m, .slice A4 l4.length c4, .int .u64 ep, .int .u64 ge, .slice A7 l7.length c7] 76)) (.cells #[.slice none 0 0, .slice none 0 0, .int .u64 0, .int .i64 0, .slice none 0 0, .int .u64 0, .int .u64 0, .slice none 0 0] 76)
 have hlt := blk_lt bz
 generalize (w.alloc (.cells #[.slice A0 l0.length c0, .slice A1 l1.length c1, .int .u64 o, .int .i64 m, .slice A4 l4.length c4, .int .u64 ep, .int .u64 ge, .slice A7 l7.length c7] 76)).alloc (.cells #[.slice none 0 0, .slice none 0 0, .int .u64 0, .int .i64 0, .slice none 0 0, .int .u64 0, .int .u64 0, .slice none 0 0] 76) = W0 at *
 have BX := Aside0.mk bx
 have BZ := Aside0.mk bz
 have HB := Aside0.mk hB
 have S0 := Aside0.mk hlt
 clear bx bz hB hlt
 obtain ⟨x0, x1, x2, x3, x4, x5, x6, x7⟩ := cells8 BX.out
 clear x2 x3 x4 x5 x6 x7
 go_cut [] (fun wc => ∃ (B0 : Option Addr) (d0 : Nat) (B1 : Option Addr) (d1 : Nat) (s1 s2 : Nat), Aside0 (wc.heap[w.heap.size]? = some (.cells #[.slice B0 l0.length d0, .slice B1 l1.length d1, .int .u64 o, .int .i64 m, .slice A4 l4.length c4, .int .u64 ep, .int .u64 ge, .slice A7 l7.length c7] 76 (0, 0))) ∧ Aside0 (wc.heap[w.heap.size + 1]? = some (.cells #[.slice none 0 0, .slice none 0 0, .int .u64 0, .int .i64 0, .slice none 0 0, .int .u64 0, .int .u64 0, .slice none 0 0] 76 (0, 0))) ∧ Aside0 (Kd.R (Kd.int .u8) 5 wc w.heap.size (fun k => w.heap.size + 2 ≤ k ∧ k < s1) (.slice B0 l0.length d0) l0) ∧ Aside0 (Kd.R (Kd.int .u8) 5 wc w.heap.size (fun k => s1 ≤ k ∧ k < s2) (.slice B1 l1.length d1) l1) ∧ Aside0 (w.heap.size + 2 ≤ s1 ∧ s1 ≤ s2 ∧ s2 ≤ wc.heap.size) ∧ Aside0 (Below w.heap.size w wc))
 case first =>
  go_region_with (first | (go_at_call 130; refine (K0.out _ (by with_reducible repeat (first | exact HB.out | apply below_drew1))).mono ?_; rintro r W0a ⟨B0, d0, rfl, hr, hb0⟩; have hb : Below W0.heap.size W0 W0a := (by first | exact hb0 | exact (below_drew1 (Below.refl W0.heap.size W0)).trans hb0); have HR0 := Aside0.mk (Kd.R_mono (Kd.R_bound hr) (ok' := fun k => W0.heap.size ≤ k ∧ k < W0a.heap.size) (fun k hk => ⟨hk.2.1, hk.2.2.1⟩)); clear hr hb0; replace BX := Aside0.mk (blk_below BX.out hb); replace BZ := Aside0.mk (blk_below BZ.out hb); replace HB := Aside0.mk (below_step HB.out hb); have SW0a := Aside0.mk hb.size; clear hb x0 x1; have x0 := blk_cell BX.out 0; have x1 := blk_cell BX.out 1; have fz := blk_frozen BX.out 0; have fz2 := blk_frozen BX.out 1; simp only [List.getElem?_toArray, List.getElem?_cons_zero, List.getElem?_cons_succ] at x0 x1) | (go_at_call 130; refine (K1.out _ (by with_reducible repeat (first | exact HB.out | apply below_drew1))).mono ?_; rintro r W0b ⟨B1, d1, rfl, hr, hb0⟩; have hb : Below W0a.heap.size W0a W0b := (by first | exact hb0 | exact (below_drew1 (Below.refl W0a.heap.size W0a)).trans hb0); have HR1 := Aside0.mk (Kd.R_mono (Kd.R_bound hr) (ok' := fun k => W0a.heap.size ≤ k ∧ k < W0b.heap.size) (fun k hk => ⟨hk.2.1, hk.2.2.1⟩)); clear hr hb0; replace HR0 := Aside0.mk (Kd.R_below HR0.out hb); replace BX := Aside0.mk (blk_below BX.out hb); replace BZ := Aside0.mk (blk_below BZ.out hb); replace HB := Aside0.mk (below_step HB.out hb); have SW0b := Aside0.mk hb.size; clear hb x0 x1; have x0 := blk_cell BX.out 0; have x1 := blk_cell BX.out 1; have fz := blk_frozen BX.out 0; have fz2 := blk_frozen BX.out 1; simp only [List.getElem?_toArray, List.getElem?_cons_zero, List.getElem?_cons_succ] at x0 x1))
  all_goals
   go_wp2_with fail
   go_meet
  all_goals
   have s0 := S0.out
   have sa := SW0a.out
   have sb := SW0b.out
   have hs := HB.out.size
   exact ⟨B0, d0, B1, d1, W0a.heap.size, W0b.heap.size, ⟨blk_put (cs := #[.slice B0 l0.length d0, .slice A1 l1.length c1, .int .u64 o, .int .i64 m, .slice A4 l4.length c4, .int .u64 ep, .int .u64 ge, .slice A7 l7.length c7]) (blk_put (cs := #[.slice A0 l0.length c0, .slice A1 l1.length c1, .int .u64 o, .int .i64 m, .slice A4 l4.length c4, .int .u64 ep, .int .u64 ge, .slice A7 l7.length c7]) BX.out 0 _ rfl) 1 _ rfl⟩, ⟨blk_far (blk_far BZ.out (show w.heap.size + 1 ≠ w.heap.size by omega) _) (show w.heap.size + 1 ≠ w.heap.size by omega) _⟩, ⟨Kd.R_far (p := ⟨w.heap.size, 1, none⟩) (Kd.R_far (p := ⟨w.heap.size, 0, none⟩) (Kd.R_mono (ok := fun k => W0.heap.size ≤ k ∧ k < W0a.heap.size) (Kd.R_lower (HR0.out) (by first | omega | (show w.heap.size ≤ W0.heap.size; omega))) (fun k hk => ⟨by have := hk.1; omega, hk.2⟩)) (fun k hk => by have := hk.1; skip; show k ≠ w.heap.size; omega) _) (fun k hk => by have := hk.1; skip; show k ≠ w.heap.size; omega) _⟩, ⟨Kd.R_far (p := ⟨w.heap.size, 1, none⟩) (Kd.R_far (p := ⟨w.heap.size, 0, none⟩) (Kd.R_lower (HR1.out) (by first | omega | (show w.heap.size ≤ W0a.heap.size; omega))) (fun k hk => by have := hk.1; skip; show k ≠ w.heap.size; omega) _) (fun k hk => by have := hk.1; skip; show k ≠ w.heap.size; omega) _⟩, ⟨⟨by omega, by omega, by simp [World.setCell]⟩⟩, ⟨by with_reducible repeat (first | exact HB.out | refine below_set ?_ (by omega))⟩⟩
 case rest =>
  clear BX BZ HB S0
  obtain ⟨B0, d0, B1, d1, s1, s2, BX, BZ, HR0, HR1, SS, HB⟩ := hcut
  have S0 := SS
  go_upto_region 2 with (fail)
  obtain ⟨x0, x1, x2, x3, x4, x5, x6, x7⟩ := cells8 BX.out
  clear x0 x1 x2 x3 x5 x6
  go_cut [] (fun wc => ∃ (B4 : Option Addr) (d4 : Nat) (B7 : Option Addr) (d7 : Nat) (s4 s7 : Nat), Aside0 (wc.heap[w.heap.size]? = some (.cells #[.slice B0 l0.length d0, .slice B1 l1.length d1, .int .u64 o, .int .i64 m, .slice B4 l4.length d4, .int .u64 ep, .int .u64 ge, .slice B7 l7.length d7] 76 (0, 0))) ∧ Aside0 (wc.heap[w.heap.size + 1]? = some (.cells #[.slice none 0 0, .slice none 0 0, .int .u64 0, .int .i64 0, .slice none 0 0, .int .u64 0, .int .u64 0, .slice none 0 0] 76 (0, 0))) ∧ Aside0 (Kd.R (Kd.int .u8) 5 wc w.heap.size (fun k => w.heap.size + 2 ≤ k ∧ k < s1) (.slice B0 l0.length d0) l0) ∧ Aside0 (Kd.R (Kd.int .u8) 5 wc w.heap.size (fun k => s1 ≤ k ∧ k < s2) (.slice B1 l1.length d1) l1) ∧ Aside0 (Kd.R (Kd.int .u64) 26 wc w.heap.size (fun k => s2 ≤ k ∧ k < s4) (.slice B4 l4.length d4) l4) ∧ Aside0 (Kd.R (Kd.int .u64) 26 wc w.heap.size (fun k => s4 ≤ k ∧ k < s7) (.slice B7 l7.length d7) l7) ∧ Aside0 (s2 ≤ s4 ∧ s4 ≤ s7 ∧ s7 ≤ wc.heap.size) ∧ Aside0 (Below w.heap.size w wc))
  case first =>
   go_region_with (first | (go_at_call 131; refine (K4.out _ (by with_reducible repeat (first | exact HB.out | apply below_drew1))).mono ?_; rintro r wca ⟨B4, d4, rfl, hr, hb0⟩; have hb : Below wc.heap.size wc wca := (by first | exact hb0 | exact (below_drew1 (Below.refl wc.heap.size wc)).trans hb0); have HR4 := Aside0.mk (Kd.R_mono (Kd.R_bound hr) (ok' := fun k => wc.heap.size ≤ k ∧ k < wca.heap.size) (fun k hk => ⟨hk.2.1, hk.2.2.1⟩)); clear hr hb0; replace HR0 := Aside0.mk (Kd.R_below HR0.out hb); replace HR1 := Aside0.mk (Kd.R_below HR1.out hb); replace BX := Aside0.mk (blk_below BX.out hb); replace BZ := Aside0.mk (blk_below BZ.out hb); replace HB := Aside0.mk (below_step HB.out hb); have Swca := Aside0.mk hb.size; clear hb x4 x7; have x4 := blk_cell BX.out 4; have x7 := blk_cell BX.out 7; have fz := blk_frozen BX.out 4; have fz2 := blk_frozen BX.out 7; simp only [List.getElem?_toArray, List.getElem?_cons_zero, List.getElem?_cons_succ] at x4 x7) | (go_at_call 131; refine (K7.out _ (by with_reducible repeat (first | exact HB.out | apply below_drew1))).mono ?_; rintro r wcb ⟨B7, d7, rfl, hr, hb0⟩; have hb : Below wca.heap.size wca wcb := (by first | exact hb0 | exact (below_drew1 (Below.refl wca.heap.size wca)).trans hb0); have HR7 := Aside0.mk (Kd.R_mono (Kd.R_bound hr) (ok' := fun k => wca.heap.size ≤ k ∧ k < wcb.heap.size) (fun k hk => ⟨hk.2.1, hk.2.2.1⟩)); clear hr hb0; replace HR0 := Aside0.mk (Kd.R_below HR0.out hb); replace HR1 := Aside0.mk (Kd.R_below HR1.out hb); replace HR4 := Aside0.mk (Kd.R_below HR4.out hb); replace BX := Aside0.mk (blk_below BX.out hb); replace BZ := Aside0.mk (blk_below BZ.out hb); replace HB := Aside0.mk (below_step HB.out hb); have Swcb := Aside0.mk hb.size; clear hb x4 x7; have x4 := blk_cell BX.out 4; have x7 := blk_cell BX.out 7; have fz := blk_frozen BX.out 4; have fz2 := blk_frozen BX.out 7; simp only [List.getElem?_toArray, List.getElem?_cons_zero, List.getElem?_cons_succ] at x4 x7))
   all_goals
    go_wp2_with fail
    go_meet
   all_goals
    have s0 := S0.out
    have sa := Swca.out
    have sb := Swcb.out
    have hs := HB.out.size
    exact ⟨B4, d4, B7, d7, wca.heap.size, wcb.heap.size, ⟨blk_put (cs := #[.slice B0 l0.length d0, .slice B1 l1.length d1, .int .u64 o, .int .i64 m, .slice B4 l4.length d4, .int .u64 ep, .int .u64 ge, .slice A7 l7.length c7]) (blk_put (cs := #[.slice B0 l0.length d0, .slice B1 l1.length d1, .int .u64 o, .int .i64 m, .slice A4 l4.length c4, .int .u64 ep, .int .u64 ge, .slice A7 l7.length c7]) BX.out 4 _ rfl) 7 _ rfl⟩, ⟨blk_far (blk_far BZ.out (show w.heap.size + 1 ≠ w.heap.size by omega) _) (show w.heap.size + 1 ≠ w.heap.size by omega) _⟩, ⟨Kd.R_far (p := ⟨w.heap.size, 7, none⟩) (Kd.R_far (p := ⟨w.heap.size, 4, none⟩) (HR0.out) (fun k hk => by have := hk.1; skip; show k ≠ w.heap.size; omega) _) (fun k hk => by have := hk.1; skip; show k ≠ w.heap.size; omega) _⟩, ⟨Kd.R_far (p := ⟨w.heap.size, 7, none⟩) (Kd.R_far (p := ⟨w.heap.size, 4, none⟩) (HR1.out) (fun k hk => by have := hk.1; have := SS.out; show k ≠ w.heap.size; omega) _) (fun k hk => by have := hk.1; have := SS.out; show k ≠ w.heap.size; omega) _⟩, ⟨Kd.R_far (p := ⟨w.heap.size, 7, none⟩) (Kd.R_far (p := ⟨w.heap.size, 4, none⟩) (Kd.R_mono (ok := fun k => wc.heap.size ≤ k ∧ k < wca.heap.size) (Kd.R_lower (HR4.out) (by first | omega | (show w.heap.size ≤ wc.heap.size; omega))) (fun k hk => ⟨by have := hk.1; have := SS.out; omega, hk.2⟩)) (fun k hk => by have := hk.1; have := SS.out; show k ≠ w.heap.size; omega) _) (fun k hk => by have := hk.1; have := SS.out; show k ≠ w.heap.size; omega) _⟩, ⟨Kd.R_far (p := ⟨w.heap.size, 7, none⟩) (Kd.R_far (p := ⟨w.heap.size, 4, none⟩) (Kd.R_lower (HR7.out) (by first | omega | (show w.heap.size ≤ wca.heap.size; omega))) (fun k hk => by have := hk.1; have := SS.out; show k ≠ w.heap.size; omega) _) (fun k hk => by have := hk.1; have := SS.out; show k ≠ w.heap.size; omega) _⟩, ⟨⟨by have := SS.out; omega, by omega, by simp [World.setCell]⟩⟩, ⟨by with_reducible repeat (first | exact HB.out | refine below_set ?_ (by omega))⟩⟩
  case rest =>
   clear BX BZ HB HR0 HR1
   obtain ⟨B4, d4, B7, d7, s4, s7, BX, BZ, HR0, HR1, HR4, HR7, SS2, HB⟩ := hcut
   obtain ⟨y0, y1, y2, y3, y4, y5, y6, y7⟩ := cells8 BX.out
   obtain ⟨z0, z1, z2, z3, z4, z5, z6, z7⟩ := cells8 BZ.out
   have f0 := blk_frozen BZ.out 0
   have f1 := blk_frozen BZ.out 1
   have f2 := blk_frozen BZ.out 2
   have f3 := blk_frozen BZ.out 3
   have f4 := blk_frozen BZ.out 4
   have f5 := blk_frozen BZ.out 5
   have f6 := blk_frozen BZ.out 6
   have f7 := blk_frozen BZ.out 7
   go_wp2_with fail
   refine bodyPost_ret (results_cell_row rfl _ _ (w.heap.size + 1) 76 #[.slice B0 l0.length d0, .slice B1 l1.length d1, .int .u64 o, .int .i64 m, .slice B4 l4.length d4, .int .u64 ep, .int .u64 ge, .slice B7 l7.length d7] (0, 0) _ rfl (by refine blk_put (cs := #[.slice B0 l0.length d0, .slice B1 l1.length d1, .int .u64 o, .int .i64 m, .slice B4 l4.length d4, .int .u64 ep, .int .u64 ge, .slice none 0 0]) ?_ 7 _ rfl; refine blk_put (cs := #[.slice B0 l0.length d0, .slice B1 l1.length d1, .int .u64 o, .int .i64 m, .slice B4 l4.length d4, .int .u64 ep, .int .u64 0, .slice none 0 0]) ?_ 6 _ rfl; refine blk_put (cs := #[.slice B0 l0.length d0, .slice B1 l1.length d1, .int .u64 o, .int .i64 m, .slice B4 l4.length d4, .int .u64 0, .int .u64 0, .slice none 0 0]) ?_ 5 _ rfl; refine blk_put (cs := #[.slice B0 l0.length d0, .slice B1 l1.length d1, .int .u64 o, .int .i64 m, .slice none 0 0, .int .u64 0, .int .u64 0, .slice none 0 0]) ?_ 4 _ rfl; refine blk_put (cs := #[.slice B0 l0.length d0, .slice B1 l1.length d1, .int .u64 o, .int .i64 0, .slice none 0 0, .int .u64 0, .int .u64 0, .slice none 0 0]) ?_ 3 _ rfl; refine blk_put (cs := #[.slice B0 l0.length d0, .slice B1 l1.length d1, .int .u64 0, .int .i64 0, .slice none 0 0, .int .u64 0, .int .u64 0, .slice none 0 0]) ?_ 2 _ rfl; refine blk_put (cs := #[.slice B0 l0.length d0, .slice none 0 0, .int .u64 0, .int .i64 0, .slice none 0 0, .int .u64 0, .int .u64 0, .slice none 0 0]) ?_ 1 _ rfl; refine blk_put (cs := #[.slice none 0 0, .slice none 0 0, .int .u64 0, .int .i64 0, .slice none 0 0, .int .u64 0, .int .u64 0, .slice none 0 0]) ?_ 0 _ rfl; exact BZ.out) Tryd.underlying76 rfl (by kernel_rfl)) rfl ?_
   have h1 := SS.out
   have h2 := SS2.out
   refine ⟨B0, d0, B1, d1, B4, d4, B7, d7, rfl, ?_, by with_reducible repeat (first | exact HB.out | refine below_set ?_ (by omega))⟩
   refine aNo_mkp _ _ _ ⟨l0, l1, o, m, l4, ep, ge, l7⟩ (fun k => k < s1) (fun k => k < s2) (fun k => k < s4) ?_ ?_ ?_ ?_
   ·
    refine Kd.R_mono (ok := fun k => w.heap.size + 2 ≤ k ∧ k < s1) ?_ (fun k hk => by simp only [true_and]; omega)
    repeat (first | with_reducible exact HR0.out | refine Kd.R_far ?_ (fun k hk => by have := hk.1; simp only [ne_eq]; omega) _)
   ·
    refine Kd.R_mono (ok := fun k => s1 ≤ k ∧ k < s2) ?_ (fun k hk => by simp only [true_and]; omega)
    repeat (first | with_reducible exact HR1.out | refine Kd.R_far ?_ (fun k hk => by have := hk.1; simp only [ne_eq]; omega) _)
   ·
    refine Kd.R_mono (ok := fun k => s2 ≤ k ∧ k < s4) ?_ (fun k hk => by simp only [true_and]; omega)
    repeat (first | with_reducible exact HR4.out | refine Kd.R_far ?_ (fun k hk => by have := hk.1; simp only [ne_eq]; omega) _)
   ·
    refine Kd.R_mono (ok := fun k => s4 ≤ k ∧ k < s7) ?_ (fun k hk => by simp only [true_and]; omega)
    repeat (first | with_reducible exact HR7.out | refine Kd.R_far ?_ (fun k hk => by have := hk.1; simp only [ne_eq]; omega) _)
theorem setRow_other (w : World) (g : Nat) (cs : Array Value) (k : Nat) (h : k ≠ g) : (w.setRow g cs).heap[k]? = w.heap[k]? := by
 unfold World.setRow
 simp only [Array.getElem?_modify]
 rw [if_neg (fun e => h e.symm)]
theorem run_clear_u64 {W : World} {base : Nat} {ok : Nat → Prop} {A : Option Addr} {n c : Nat} {l : List Int} (h : (Kd.int .u64).R 26 W base ok (.slice A n c) l) :
  ∃ W', (∀ ty, (Builtin.clear_ #[40] ty #[.slice A n c]).run Tryd.prog W = .ok (.tuple #[]) W') ∧ W.grownBy W' (Value.slice A n c).ownBlock ∧ (Kd.int .u64).R 26 W' base ok (.slice A 0 c) [] := by
 have hu := Tryd.underlying40
 obtain ⟨h0, inner, ⟨hlen, ho⟩, hr⟩ := h
 rcases ho with ⟨ho, hn⟩ | ⟨g, cap, cur, ho, hb, hg, hnc, hcm, hsz, ht⟩
 ·
  injection ho with e1 e2 e3
  subst e1 e2 e3
  exact ⟨W, fun ty => by simp [Builtin.clear_, run_underlying hu], ⟨rfl, rfl, rfl, Nat.le_refl _, fun _ _ _ => rfl⟩, Kd.R_nil _ _ _ _ _⟩
 ·
  injection ho with e1 e2 e3
  subst e1 e3
  have hR : ∀ (W' : World) (cur' : Array Value), W'.heap[g]? = some (.cells cur' 26 (0, 0)) → cur'.size = cur.size → (Kd.int .u64).R 26 W' base ok (.slice (some ⟨g, 0, none⟩) 0 c) [] := fun W' cur' hg' hs' =>
   ⟨fun k hk => h0 k hk, [], ⟨by simp, Or.inr ⟨g, c, cur', rfl, hb, hg', Nat.zero_le _, hcm, by rw [hs']; exact hsz, by simp⟩⟩, ⟨by simp, fun j p hj => by simp at hj⟩⟩
  rcases Nat.eq_zero_or_pos n with hz | hz
  ·
   subst hz
   exact ⟨W, fun ty => by simp [Builtin.clear_, run_underlying hu], ⟨rfl, rfl, rfl, Nat.le_refl _, fun _ _ _ => rfl⟩, hR W cur hg rfl⟩
  ·
   obtain ⟨m, rfl⟩ : ∃ m, n = m + 1 := ⟨n - 1, by omega⟩
   have hsz1 : cur.size = c * 1 := hsz
   have hst := run_storeCells_at Tryd.prog g 0 26 (Builtin.zeroCells #[.int .u64 0] (m + 1)).toList 0 cur W hg (by simp [Builtin.zeroCells]; omega) (by
    intro v hv
    simp only [Builtin.zeroCells, Array.toList_map, List.mem_map] at hv
    obtain ⟨i, _, rfl⟩ := hv
    have e1 : (#[Value.int IntKind.u64 0] : Array Value).size = 1 := rfl
    rw [e1, Nat.mod_one]
    rfl)
   obtain ⟨cs, hcs⟩ : ∃ cs, (cur.toList.take (0 + 0) ++ (Builtin.zeroCells #[.int .u64 0] (m + 1)).toList ++ cur.toList.drop (0 + 0 + (Builtin.zeroCells #[.int .u64 0] (m + 1)).toList.length)).toArray = cs := ⟨_, rfl⟩
   have hcz : cs.size = cur.size := by
    rw [← hcs]
    simp [Builtin.zeroCells]
    omega
   rw [hcs] at hst
   refine ⟨W.setRow g cs, fun ty => ?_, ⟨rfl, rfl, rfl, by rw [size_setRow]; exact Nat.le_refl _, fun k _ hk => setRow_other W g cs k (fun e => hk (by rw [e]; rfl))⟩, hR _ _ (setRow_heap W g cur cs _ _ hg) hcz⟩
   have hzv : (zeroValue 26).run Tryd.prog W = .ok (.int .u64 0) W := by
    have hi := info26
    cases hq : Tryd.prog.info? 26 with
    | none => rw [hq] at hi; cases hi
    | some i =>
     rw [hq] at hi
     have hz1 : i.zero = some (.int .u64 0) := by
      have := Option.some.inj hi
      exact congrArg Prod.fst this
     simp [zeroValue, typeInfo, hq, hz1]
   have hc0 : (Value.int .u64 0).cells = #[.int .u64 0] := rfl
   simp [Builtin.clear_, run_underlying hu, hzv, hst, hc0]
def pieces : List Int → List (List Int)
 | [] => [[]]
 | c :: l => if c = 47 then [] :: pieces l else match pieces l with
  | [] => [[c]]
  | h :: t => (c :: h) :: t
def charB (c : Int) : Bool := decide (97 ≤ c) && decide (c ≤ 122) || decide (48 ≤ c) && decide (c ≤ 57) || c == 45 || c == 95
def nameB (s : List Int) : Bool := decide (1 ≤ s.length) && decide (s.length ≤ 16) && s.all charB
def pathB : List Int → Bool
 | [] => false
 | c :: r => c == 47 && decide ((pieces r).length ≤ 8) && (pieces r).all nameB
theorem pieces_ne (l : List Int) : pieces l ≠ [] := by
 cases l with
 | nil => simp [pieces]
 | cons c l =>
  unfold pieces
  split
  ·
   simp
  ·
   split <;> simp
theorem pieces_slash (l : List Int) : pieces (47 :: l) = [] :: pieces l := by rw [pieces, if_pos rfl]
theorem pieces_char (c : Int) (l : List Int) (h : c ≠ 47) : ∃ a t, pieces l = a :: t ∧ pieces (c :: l) = (c :: a) :: t := by
 obtain ⟨a, t, e⟩ : ∃ a t, pieces l = a :: t := by
  cases hq : pieces l with
  | nil => exact absurd hq (pieces_ne l)
  | cons a t => exact ⟨a, t, rfl⟩
 exact ⟨a, t, e, by rw [pieces, if_neg h, e]⟩
theorem bytesOf_inj : ∀ {a b : List Int}, (∀ x ∈ a, 0 ≤ x ∧ x < 256) → (∀ x ∈ b, 0 ≤ x ∧ x < 256) → Lib.bytesOf a = Lib.bytesOf b → a = b
 | [], [], _, _, _ => rfl
 | [], _ :: _, _, _, h => by simp [Lib.bytesOf] at h
 | _ :: _, [], _, _, h => by simp [Lib.bytesOf] at h
 | x :: a, y :: b, ha, hb, h => by
  simp only [Lib.bytesOf, List.map_cons, List.cons.injEq] at h
  have hx := ha x (by simp)
  have hy := hb y (by simp)
  have e : x = y := by
   have := congrArg UInt8.toNat h.1
   simp only [UInt8.toNat_ofNat'] at this
   omega
  rw [e, bytesOf_inj (fun z hz => ha z (by simp [hz])) (fun z hz => hb z (by simp [hz])) h.2]
theorem byte_eq {c : Int} (h : 0 ≤ c ∧ c < 256) : (UInt8.ofNat c.toNat = 47) ↔ c = 47 := by
 constructor
 ·
  intro e
  have := congrArg UInt8.toNat e
  simp only [UInt8.toNat_ofNat'] at this
  have e2 : (47 : UInt8).toNat = 47 := rfl
  omega
 ·
  rintro rfl
  rfl
theorem pieces_sum : ∀ (l : List Int), ((pieces l).map (fun p => p.length + 1)).sum = l.length + 1
 | [] => by simp [pieces]
 | c :: l => by
  have ih := pieces_sum l
  by_cases h : c = 47
  ·
   subst h
   rw [pieces_slash]
   simp only [List.map_cons, List.sum_cons, List.length_nil, List.length_cons]
   omega
  ·
   obtain ⟨a, t, e, e'⟩ := pieces_char c l h
   rw [e']
   rw [e] at ih
   simp only [List.map_cons, List.sum_cons, List.length_cons] at ih ⊢
   omega
theorem sum_bound : ∀ (ps : List (List Int)), ps.all nameB = true → (ps.map (fun p => p.length + 1)).sum ≤ 17 * ps.length
 | [], _ => by simp
 | p :: ps, h => by
  rw [List.all_cons, Bool.and_eq_true] at h
  have ih := sum_bound ps h.2
  have h1 := h.1
  unfold nameB at h1
  simp only [Bool.and_eq_true, decide_eq_true_eq] at h1
  simp only [List.map_cons, List.sum_cons, List.length_cons]
  omega
theorem pathB_len (l : List Int) (h : pathB l = true) : 2 ≤ l.length ∧ l.length ≤ 136 := by
 cases l with
 | nil => simp [pathB] at h
 | cons c r =>
  unfold pathB at h
  simp only [Bool.and_eq_true, decide_eq_true_eq] at h
  have h1 := sum_bound _ h.2
  rw [pieces_sum] at h1
  have h2 : r ≠ [] := by
   rintro rfl
   simp [pieces, nameB] at h
  have := List.length_pos_iff.2 h2
  simp only [List.length_cons]
  omega
def allI {α : Type} (f : Nat → α → Bool) : Nat → List α → Bool
 | _, [] => true
 | i, x :: r => f i x && allI f (i + 1) r
theorem allI_drop {α : Type} (f : Nat → α → Bool) (l : List α) (i : Nat) (h : i < l.length) : allI f i (l.drop i) = (f i l[i] && allI f (i + 1) (l.drop (i + 1))) := by
 rw [List.drop_eq_getElem_cons h, allI]
theorem allI_end {α : Type} (f : Nat → α → Bool) (l : List α) (i : Nat) (h : l.length ≤ i) : allI f i (l.drop i) = true := by
 rw [List.drop_eq_nil_of_le h, allI]
theorem allI_iff {α : Type} (f : Nat → α → Bool) : ∀ (l : List α) (i : Nat), allI f i l = true ↔ ∀ j (h : j < l.length), f (i + j) l[j] = true
 | [], i => by simp [allI]
 | x :: r, i => by
  rw [allI, Bool.and_eq_true, allI_iff f r (i + 1)]
  constructor
  ·
   rintro ⟨h1, h2⟩ j hj
   cases j with
   | zero => exact h1
   | succ j =>
    have := h2 j (by simpa using hj)
    rw [show i + (j + 1) = i + 1 + j by omega]
    exact this
  ·
   intro h
   refine ⟨h 0 (by simp), fun j hj => ?_⟩
   have := h (j + 1) (by simpa using hj)
   rw [show i + 1 + j = i + (j + 1) by omega]
   exact this
def evB (i : Nat) (e : Ev) : Bool := if i = 7 then e.f0 == 4 && e.f1.length == 0 else e.f0 != 4 && decide (1 ≤ e.f0) && decide (e.f0 ≤ 3) && pathB e.f1
def queueB (q : List Ev) : Bool := decide (q.length ≤ 8) && allI evB 0 q
def zSe : Se := z70
def zNo : No := z76
def sesB (next : Int) (xs : List Se) (i : Nat) (x : Se) : Bool :=
 decide (1 ≤ x.f0) && decide (x.f0 ≤ next) && (i == 0 || decide ((xs.getD (i - 1) zSe).f0 < x.f0)) && decide (0 ≤ x.f1) && decide (x.f1 ≤ 1000015) && queueB x.f2
def liveB (xs : List Se) (id : Int) : Bool := xs.any fun x => x.f0 == id
def idsB (xs : List Se) (l : List Int) : Bool := allI (fun i x => liveB xs x && (i == 0 || decide (l.getD (i - 1) 0 < x))) 0 l
def lastFrom : List Int → Nat → Nat → Nat
 | [], _, a => a
 | c :: r, i, a => lastFrom r (i + 1) (if c = 47 then i else a)
def parentL (p : List Int) : List Int := if lastFrom p 0 0 = 0 then [47] else p.take (lastFrom p 0 0)
def leB (a b : List Int) : Bool := Op.bytesLess (Lib.bytesOf a) (Lib.bytesOf b) || Lib.bytesOf a == Lib.bytesOf b
def canParB (ns : List No) (p : List Int) : Bool := p == [47] || match ns.find? (fun n => n.f0 == p) with
 | none => false
 | some n => n.f2 == 0
def lockB (epoch gen : Int) (n : No) : Bool :=
 if n.f3 = 1 then n.f4.length == 1 && decide (1 ≤ n.f6) && decide (n.f6 ≤ gen) && decide (n.f5 ≤ epoch) else n.f5 == 0 && n.f6 == 0 && (if n.f3 = 0 then n.f4.length == 0 else n.f3 == 2 && decide (1 ≤ n.f4.length))
def nodeB (epoch gen : Int) (xs : List Se) (ns : List No) (i : Nat) (n : No) : Bool :=
 pathB n.f0 && (i == 0 || !leB n.f0 (ns.getD (i - 1) zNo).f0) && canParB ns (parentL n.f0) && decide (n.f1.length ≤ 40) && (n.f2 == 0 || liveB xs n.f2) && idsB xs n.f4 && idsB xs n.f7 && lockB epoch gen n
def headB (epoch gen next now : Int) (nx nn : Nat) : Bool :=
 decide (epoch ≤ 4611686018427387904) && decide (gen ≤ 4611686018427387904) && decide (next ≤ 4611686018427387904) && decide (0 ≤ now) && decide (now ≤ 1000000) && decide (nx ≤ 50) && decide (nn ≤ 200)
def validB (epoch gen next now : Int) (xs : List Se) (ns : List No) : Bool :=
 headB epoch gen next now xs.length ns.length && allI (sesB next xs) 0 xs && allI (nodeB epoch gen xs ns) 0 ns
def spec_l3same.f (l0 : List Int) (l1 : List Int) : Option (Bool) := some ((strOfNums l0).toList == (strOfNums l1).toList)
set_option maxHeartbeats 8000000 in
set_option maxRecDepth 100000 in
theorem spec_l3same.calls (A0 : Option Addr) (c0 : Nat) (l0 : List Int) (A1 : Option Addr) (c1 : Nat) (l1 : List Int) (r : Bool) (w : World) (hr0 : Kd.C (Kd.int .u8) w A0 l0.length l0) (hc0 : l0.length ≤ c0) (hr1 : Kd.C (Kd.int .u8) w A1 l1.length l1) (hc1 : l1.length ≤ c1) (h : spec_l3same.f l0 l1 = some r) :
  Calls Tryd.prog 68 #[.slice A0 l0.length c0, .slice A1 l1.length c1] w fun e w' => e = .returned (.bool r) ∧ Drawn0 w w' := by
 have HR0 := Aside0.mk hr0
 have HC0 := Aside0.mk hc0
 clear hr0 hc0
 have HR1 := Aside0.mk hr1
 have HC1 := Aside0.mk hc1
 clear hr1 hc1
 have H : (some ((strOfNums l0).toList == (strOfNums l1).toList)) = some r := h
 clear h
 obtain rfl := Option.some.inj H
 have hcv3 := Kd.C_string (P := Tryd.prog) (A := A0) (c := c0) Tryd.underlying22 Tryd.underlying5 Tryd.underlying9 HR0.out
 have hcv4 := Kd.C_string (P := Tryd.prog) (A := A1) (c := c1) Tryd.underlying22 Tryd.underlying5 Tryd.underlying9 HR1.out
 go_enter Tryd.func68, Tryd.ntmps68
 go_wp2
 go_ret
 exact ⟨by first | rfl | (simp; done) | (simp [*]; done), by repeat (first | exact Drawn0.refl _ | apply Drawn0.step)⟩
end Go.Proofs.YtbgbocdohadhoaaDoor.Print
