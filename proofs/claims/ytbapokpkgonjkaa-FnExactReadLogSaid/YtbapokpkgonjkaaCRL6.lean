/- Texts of this session, joined by its own program. -/
import Derived.Test.YtbapokpkgonjkaaCRL0
import Derived.Test.YtbapokpkgonjkaaCRL5
import Derived.Test.YtbapokpkgonjkaaCRL1
import Derived.Test.YtbapokpkgonjkaaCRL2
import Derived.Test.YtbapokpkgonjkaaCRL3
import Derived.WalkSpells
import Derived.Lib.Bytes
import Derived.RangeFuncNested
import Derived.RangeFuncBound
import Derived.RangeFuncCalls
import Derived.RangeFuncLeaves
/- The machine's side of the statements: what a Go function comes to, as a Lean function, and that it does so (written by this session's own program over the kit's printer; Lean checks it). -/
namespace Go.Proofs.Ytbapokpkgonjkaa.Print
open Go.RowKit Go.Proofs.YtbapokpkgonjkaaW.PrintWords Go.Proofs.YtbapokpkgonjkaaW.PrintLast Go.Proofs.YtbapokpkgonjkaaW.PrintMore
attribute [local go_sem] max2_int min2_int max_two min_two max_three min_three max_four min_four   -- for this text's walks alone
set_option linter.unusedVariables false
set_option linter.unusedSimpArgs false

/-! ### laws_FnExactEncodeSnapshot: function 4 -/
def laws_FnExactEncodeSnapshot.f (k : Nat) (a0 : Int) (l1 : List Int) : Option (Bool) := if (l1.length : Int) > 1048576 then (some true) else ((laws_toByteS.f k l1).bind fun t262 => ((spec_EncodeSnapshot.f k a0 t262).bind fun t265 => ((laws_toByteS.f k l1).bind fun t268 => ((impl_EncodeSnapshot.f k a0 t268).bind fun t271 => ((laws_eqByteS.f k t271 t265).bind fun t274 => (if t274 = true then ((laws_toByteS.f k l1).bind fun t275 => ((laws_eqByteS.f k t268 t275).bind fun t278 => (if t278 = true then ((laws_markByteS.f k t268 1).bind fun bt279 => (if bt279.1 < 0 then (some false) else ((laws_eqByteS.f k t271 t265).bind fun t281 => (if t281 = true then ((laws_markByteS.f k t271 1).bind fun bt282 => ((laws_heldByteS.f k bt282.2 1).bind fun t284 => (if t284 < 0 then (some false) else (if t284 = bt282.1 then ((laws_toByteS.f k l1).bind fun t285 => ((impl_EncodeSnapshot.f k a0 t285).bind fun t288 => ((laws_eqByteS.f k t288 t265).bind fun t291 => (if t291 = true then ((laws_heldByteS.f k bt282.2 1).bind fun t292 => (if t292 < 0 then (some false) else (if t292 = bt282.1 then (some true) else (some false)))) else (some false))))) else (some false))))) else (some false))))) else (some false)))) else (some false)))))))
theorem laws_FnExactEncodeSnapshot.mono : ∀ a0 a1 k, LeO (laws_FnExactEncodeSnapshot.f k a0 a1) (laws_FnExactEncodeSnapshot.f (k + 1) a0 a1) := by
  intro a0 a1 k
  unfold laws_FnExactEncodeSnapshot.f
  repeat' first
      | (with_reducible exact impl_EncodeSnapshot.mono _ _ _)
      | (with_reducible exact laws_eqByteS.mono _ _ _)
      | (with_reducible exact laws_heldByteS.mono _ _ _)
      | (with_reducible exact laws_markByteS.mono _ _ _)
      | (with_reducible exact laws_toByteS.mono _ _)
      | (with_reducible exact spec_EncodeSnapshot.mono _ _ _)
      | (with_reducible exact LeO.refl _)
      | (with_reducible exact LeO.none _)
      | (with_reducible refine LeO.ite ?_ ?_)
      | (with_reducible refine LeO.bind ?_ (fun _ => ?_))
      | exact impl_EncodeSnapshot.mono _ _ _
      | exact laws_eqByteS.mono _ _ _
      | exact laws_heldByteS.mono _ _ _
      | exact laws_markByteS.mono _ _ _
      | exact laws_toByteS.mono _ _
      | exact spec_EncodeSnapshot.mono _ _ _
      | exact LeO.none _
      | refine LeO.ite ?_ ?_
      | refine LeO.bind ?_ (fun _ => ?_)
set_option maxHeartbeats 8000000 in
set_option maxRecDepth 100000 in
theorem laws_FnExactEncodeSnapshot.calls (k : Nat) (a0 : Int) (A1 : Option Addr) (c1 : Nat) (l1 : List Int) (w : World) (hr1 : Kd.C (Kd.int .u8) w A1 l1.length l1) (hc1 : l1.length ≤ c1) (h : laws_FnExactEncodeSnapshot.f k a0 l1 = some true) :
    Calls Try.prog 4 #[.int .u64 a0, .slice A1 l1.length c1] w fun e w' => e = .returned (.bool true) ∧ Below w.heap.size w w' := by
  have HR1 := Aside0.mk hr1
  have HC1 := Aside0.mk hc1
  clear hr1 hc1
  have HB := Aside0.mk (Below.refl w.heap.size w)
  have H : (if (l1.length : Int) > 1048576 then (some true) else ((laws_toByteS.f k l1).bind fun t262 => ((spec_EncodeSnapshot.f k a0 t262).bind fun t265 => ((laws_toByteS.f k l1).bind fun t268 => ((impl_EncodeSnapshot.f k a0 t268).bind fun t271 => ((laws_eqByteS.f k t271 t265).bind fun t274 => (if t274 = true then ((laws_toByteS.f k l1).bind fun t275 => ((laws_eqByteS.f k t268 t275).bind fun t278 => (if t278 = true then ((laws_markByteS.f k t268 1).bind fun bt279 => (if bt279.1 < 0 then (some false) else ((laws_eqByteS.f k t271 t265).bind fun t281 => (if t281 = true then ((laws_markByteS.f k t271 1).bind fun bt282 => ((laws_heldByteS.f k bt282.2 1).bind fun t284 => (if t284 < 0 then (some false) else (if t284 = bt282.1 then ((laws_toByteS.f k l1).bind fun t285 => ((impl_EncodeSnapshot.f k a0 t285).bind fun t288 => ((laws_eqByteS.f k t288 t265).bind fun t291 => (if t291 = true then ((laws_heldByteS.f k bt282.2 1).bind fun t292 => (if t292 < 0 then (some false) else (if t292 = bt282.1 then (some true) else (some false)))) else (some false))))) else (some false))))) else (some false))))) else (some false)))) else (some false)))))))) = some true := h
  clear h
  by_cases c3 : (l1.length : Int) > 1048576
  · rw [if_pos c3] at H
    have c3b0 : decide (1048576 < (l1.length : Int)) = true := decide_eq_true c3
    have c3b1 : decide (1048576 < l1.length) = true := decide_eq_true (by omega)
    clear c3
    first | obtain rfl := Option.some.inj H | have HRv := Option.some.inj H
    go_enter Try.func4, Try.ntmps4
    go_wp2
    go_ret
    exact ⟨by first | rfl | (simp [errW_none, errW_some] <;> rfl) | (simp [*, errW_none, errW_some] <;> rfl), by repeat (first | (with_reducible first | exact HB.out | apply below_alloc | apply pw_below_drewN | apply below_drew1) | exact HB.out)⟩
  · rw [if_neg c3] at H
    have c3b0 : decide (1048576 < (l1.length : Int)) = false := decide_eq_false c3
    have c3b1 : decide (1048576 < l1.length) = false := decide_eq_false (by omega)
    clear c3
    replace H := Option.bind_eq_some_iff.mp H
    obtain ⟨t262, A40, H⟩ := H
    replace H : ((spec_EncodeSnapshot.f k a0 t262).bind fun t265 => ((laws_toByteS.f k l1).bind fun t268 => ((impl_EncodeSnapshot.f k a0 t268).bind fun t271 => ((laws_eqByteS.f k t271 t265).bind fun t274 => (if t274 = true then ((laws_toByteS.f k l1).bind fun t275 => ((laws_eqByteS.f k t268 t275).bind fun t278 => (if t278 = true then ((laws_markByteS.f k t268 1).bind fun bt279 => (if bt279.1 < 0 then (some false) else ((laws_eqByteS.f k t271 t265).bind fun t281 => (if t281 = true then ((laws_markByteS.f k t271 1).bind fun bt282 => ((laws_heldByteS.f k bt282.2 1).bind fun t284 => (if t284 < 0 then (some false) else (if t284 = bt282.1 then ((laws_toByteS.f k l1).bind fun t285 => ((impl_EncodeSnapshot.f k a0 t285).bind fun t288 => ((laws_eqByteS.f k t288 t265).bind fun t291 => (if t291 = true then ((laws_heldByteS.f k bt282.2 1).bind fun t292 => (if t292 < 0 then (some false) else (if t292 = bt282.1 then (some true) else (some false)))) else (some false))))) else (some false))))) else (some false))))) else (some false)))) else (some false)))))) = some true := H
    have A4 := Aside0.mk A40
    clear A40
    replace H := Option.bind_eq_some_iff.mp H
    obtain ⟨t265, A50, H⟩ := H
    replace H : ((laws_toByteS.f k l1).bind fun t268 => ((impl_EncodeSnapshot.f k a0 t268).bind fun t271 => ((laws_eqByteS.f k t271 t265).bind fun t274 => (if t274 = true then ((laws_toByteS.f k l1).bind fun t275 => ((laws_eqByteS.f k t268 t275).bind fun t278 => (if t278 = true then ((laws_markByteS.f k t268 1).bind fun bt279 => (if bt279.1 < 0 then (some false) else ((laws_eqByteS.f k t271 t265).bind fun t281 => (if t281 = true then ((laws_markByteS.f k t271 1).bind fun bt282 => ((laws_heldByteS.f k bt282.2 1).bind fun t284 => (if t284 < 0 then (some false) else (if t284 = bt282.1 then ((laws_toByteS.f k l1).bind fun t285 => ((impl_EncodeSnapshot.f k a0 t285).bind fun t288 => ((laws_eqByteS.f k t288 t265).bind fun t291 => (if t291 = true then ((laws_heldByteS.f k bt282.2 1).bind fun t292 => (if t292 < 0 then (some false) else (if t292 = bt282.1 then (some true) else (some false)))) else (some false))))) else (some false))))) else (some false))))) else (some false)))) else (some false))))) = some true := H
    have A5 := Aside0.mk A50
    clear A50
    replace H := Option.bind_eq_some_iff.mp H
    obtain ⟨t268, A60, H⟩ := H
    replace H : ((impl_EncodeSnapshot.f k a0 t268).bind fun t271 => ((laws_eqByteS.f k t271 t265).bind fun t274 => (if t274 = true then ((laws_toByteS.f k l1).bind fun t275 => ((laws_eqByteS.f k t268 t275).bind fun t278 => (if t278 = true then ((laws_markByteS.f k t268 1).bind fun bt279 => (if bt279.1 < 0 then (some false) else ((laws_eqByteS.f k t271 t265).bind fun t281 => (if t281 = true then ((laws_markByteS.f k t271 1).bind fun bt282 => ((laws_heldByteS.f k bt282.2 1).bind fun t284 => (if t284 < 0 then (some false) else (if t284 = bt282.1 then ((laws_toByteS.f k l1).bind fun t285 => ((impl_EncodeSnapshot.f k a0 t285).bind fun t288 => ((laws_eqByteS.f k t288 t265).bind fun t291 => (if t291 = true then ((laws_heldByteS.f k bt282.2 1).bind fun t292 => (if t292 < 0 then (some false) else (if t292 = bt282.1 then (some true) else (some false)))) else (some false))))) else (some false))))) else (some false))))) else (some false)))) else (some false)))) = some true := H
    have A6 := Aside0.mk A60
    clear A60
    replace H := Option.bind_eq_some_iff.mp H
    obtain ⟨t271, A70, H⟩ := H
    replace H : ((laws_eqByteS.f k t271 t265).bind fun t274 => (if t274 = true then ((laws_toByteS.f k l1).bind fun t275 => ((laws_eqByteS.f k t268 t275).bind fun t278 => (if t278 = true then ((laws_markByteS.f k t268 1).bind fun bt279 => (if bt279.1 < 0 then (some false) else ((laws_eqByteS.f k t271 t265).bind fun t281 => (if t281 = true then ((laws_markByteS.f k t271 1).bind fun bt282 => ((laws_heldByteS.f k bt282.2 1).bind fun t284 => (if t284 < 0 then (some false) else (if t284 = bt282.1 then ((laws_toByteS.f k l1).bind fun t285 => ((impl_EncodeSnapshot.f k a0 t285).bind fun t288 => ((laws_eqByteS.f k t288 t265).bind fun t291 => (if t291 = true then ((laws_heldByteS.f k bt282.2 1).bind fun t292 => (if t292 < 0 then (some false) else (if t292 = bt282.1 then (some true) else (some false)))) else (some false))))) else (some false))))) else (some false))))) else (some false)))) else (some false))) = some true := H
    have A7 := Aside0.mk A70
    clear A70
    replace H := Option.bind_eq_some_iff.mp H
    obtain ⟨t274, A80, H⟩ := H
    replace H : (if t274 = true then ((laws_toByteS.f k l1).bind fun t275 => ((laws_eqByteS.f k t268 t275).bind fun t278 => (if t278 = true then ((laws_markByteS.f k t268 1).bind fun bt279 => (if bt279.1 < 0 then (some false) else ((laws_eqByteS.f k t271 t265).bind fun t281 => (if t281 = true then ((laws_markByteS.f k t271 1).bind fun bt282 => ((laws_heldByteS.f k bt282.2 1).bind fun t284 => (if t284 < 0 then (some false) else (if t284 = bt282.1 then ((laws_toByteS.f k l1).bind fun t285 => ((impl_EncodeSnapshot.f k a0 t285).bind fun t288 => ((laws_eqByteS.f k t288 t265).bind fun t291 => (if t291 = true then ((laws_heldByteS.f k bt282.2 1).bind fun t292 => (if t292 < 0 then (some false) else (if t292 = bt282.1 then (some true) else (some false)))) else (some false))))) else (some false))))) else (some false))))) else (some false)))) else (some false)) = some true := H
    have A8 := Aside0.mk A80
    clear A80
    by_cases c9 : t274 = true
    · subst c9
      have H1 : ((laws_toByteS.f k l1).bind fun t275 => ((laws_eqByteS.f k t268 t275).bind fun t278 => (if t278 = true then ((laws_markByteS.f k t268 1).bind fun bt279 => (if bt279.1 < 0 then (some false) else ((laws_eqByteS.f k t271 t265).bind fun t281 => (if t281 = true then ((laws_markByteS.f k t271 1).bind fun bt282 => ((laws_heldByteS.f k bt282.2 1).bind fun t284 => (if t284 < 0 then (some false) else (if t284 = bt282.1 then ((laws_toByteS.f k l1).bind fun t285 => ((impl_EncodeSnapshot.f k a0 t285).bind fun t288 => ((laws_eqByteS.f k t288 t265).bind fun t291 => (if t291 = true then ((laws_heldByteS.f k bt282.2 1).bind fun t292 => (if t292 < 0 then (some false) else (if t292 = bt282.1 then (some true) else (some false)))) else (some false))))) else (some false))))) else (some false))))) else (some false)))) = some true := by first | rfl | (rw [if_pos rfl] at H; exact H)
      clear H
      have H := H1
      clear H1
      replace H := Option.bind_eq_some_iff.mp H
      obtain ⟨t275, A100, H⟩ := H
      replace H : ((laws_eqByteS.f k t268 t275).bind fun t278 => (if t278 = true then ((laws_markByteS.f k t268 1).bind fun bt279 => (if bt279.1 < 0 then (some false) else ((laws_eqByteS.f k t271 t265).bind fun t281 => (if t281 = true then ((laws_markByteS.f k t271 1).bind fun bt282 => ((laws_heldByteS.f k bt282.2 1).bind fun t284 => (if t284 < 0 then (some false) else (if t284 = bt282.1 then ((laws_toByteS.f k l1).bind fun t285 => ((impl_EncodeSnapshot.f k a0 t285).bind fun t288 => ((laws_eqByteS.f k t288 t265).bind fun t291 => (if t291 = true then ((laws_heldByteS.f k bt282.2 1).bind fun t292 => (if t292 < 0 then (some false) else (if t292 = bt282.1 then (some true) else (some false)))) else (some false))))) else (some false))))) else (some false))))) else (some false))) = some true := H
      have A10 := Aside0.mk A100
      clear A100
      replace H := Option.bind_eq_some_iff.mp H
      obtain ⟨t278, A110, H⟩ := H
      replace H : (if t278 = true then ((laws_markByteS.f k t268 1).bind fun bt279 => (if bt279.1 < 0 then (some false) else ((laws_eqByteS.f k t271 t265).bind fun t281 => (if t281 = true then ((laws_markByteS.f k t271 1).bind fun bt282 => ((laws_heldByteS.f k bt282.2 1).bind fun t284 => (if t284 < 0 then (some false) else (if t284 = bt282.1 then ((laws_toByteS.f k l1).bind fun t285 => ((impl_EncodeSnapshot.f k a0 t285).bind fun t288 => ((laws_eqByteS.f k t288 t265).bind fun t291 => (if t291 = true then ((laws_heldByteS.f k bt282.2 1).bind fun t292 => (if t292 < 0 then (some false) else (if t292 = bt282.1 then (some true) else (some false)))) else (some false))))) else (some false))))) else (some false))))) else (some false)) = some true := H
      have A11 := Aside0.mk A110
      clear A110
      by_cases c12 : t278 = true
      · subst c12
        have H1 : ((laws_markByteS.f k t268 1).bind fun bt279 => (if bt279.1 < 0 then (some false) else ((laws_eqByteS.f k t271 t265).bind fun t281 => (if t281 = true then ((laws_markByteS.f k t271 1).bind fun bt282 => ((laws_heldByteS.f k bt282.2 1).bind fun t284 => (if t284 < 0 then (some false) else (if t284 = bt282.1 then ((laws_toByteS.f k l1).bind fun t285 => ((impl_EncodeSnapshot.f k a0 t285).bind fun t288 => ((laws_eqByteS.f k t288 t265).bind fun t291 => (if t291 = true then ((laws_heldByteS.f k bt282.2 1).bind fun t292 => (if t292 < 0 then (some false) else (if t292 = bt282.1 then (some true) else (some false)))) else (some false))))) else (some false))))) else (some false))))) = some true := by first | rfl | (rw [if_pos rfl] at H; exact H)
        clear H
        have H := H1
        clear H1
        replace H := Option.bind_eq_some_iff.mp H
        obtain ⟨⟨t279, t280⟩, A130, H⟩ := H
        replace H : (if t279 < 0 then (some false) else ((laws_eqByteS.f k t271 t265).bind fun t281 => (if t281 = true then ((laws_markByteS.f k t271 1).bind fun bt282 => ((laws_heldByteS.f k bt282.2 1).bind fun t284 => (if t284 < 0 then (some false) else (if t284 = bt282.1 then ((laws_toByteS.f k l1).bind fun t285 => ((impl_EncodeSnapshot.f k a0 t285).bind fun t288 => ((laws_eqByteS.f k t288 t265).bind fun t291 => (if t291 = true then ((laws_heldByteS.f k bt282.2 1).bind fun t292 => (if t292 < 0 then (some false) else (if t292 = bt282.1 then (some true) else (some false)))) else (some false))))) else (some false))))) else (some false)))) = some true := H
        have A13 := Aside0.mk A130
        clear A130
        by_cases c14 : t279 < 0
        · rw [if_pos c14] at H
          have c14b0 : decide (t279 < 0) = true := decide_eq_true c14
          clear c14
          exact absurd H (by simp)
        · rw [if_neg c14] at H
          have c14b0 : decide (t279 < 0) = false := decide_eq_false c14
          clear c14
          replace H := Option.bind_eq_some_iff.mp H
          obtain ⟨t281, A150, H⟩ := H
          replace H : (if t281 = true then ((laws_markByteS.f k t271 1).bind fun bt282 => ((laws_heldByteS.f k bt282.2 1).bind fun t284 => (if t284 < 0 then (some false) else (if t284 = bt282.1 then ((laws_toByteS.f k l1).bind fun t285 => ((impl_EncodeSnapshot.f k a0 t285).bind fun t288 => ((laws_eqByteS.f k t288 t265).bind fun t291 => (if t291 = true then ((laws_heldByteS.f k bt282.2 1).bind fun t292 => (if t292 < 0 then (some false) else (if t292 = bt282.1 then (some true) else (some false)))) else (some false))))) else (some false))))) else (some false)) = some true := H
          have A15 := Aside0.mk A150
          clear A150
          by_cases c16 : t281 = true
          · subst c16
            have H1 : ((laws_markByteS.f k t271 1).bind fun bt282 => ((laws_heldByteS.f k bt282.2 1).bind fun t284 => (if t284 < 0 then (some false) else (if t284 = bt282.1 then ((laws_toByteS.f k l1).bind fun t285 => ((impl_EncodeSnapshot.f k a0 t285).bind fun t288 => ((laws_eqByteS.f k t288 t265).bind fun t291 => (if t291 = true then ((laws_heldByteS.f k bt282.2 1).bind fun t292 => (if t292 < 0 then (some false) else (if t292 = bt282.1 then (some true) else (some false)))) else (some false))))) else (some false))))) = some true := by first | rfl | (rw [if_pos rfl] at H; exact H)
            clear H
            have H := H1
            clear H1
            replace H := Option.bind_eq_some_iff.mp H
            obtain ⟨⟨t282, t283⟩, A170, H⟩ := H
            replace H : ((laws_heldByteS.f k t283 1).bind fun t284 => (if t284 < 0 then (some false) else (if t284 = t282 then ((laws_toByteS.f k l1).bind fun t285 => ((impl_EncodeSnapshot.f k a0 t285).bind fun t288 => ((laws_eqByteS.f k t288 t265).bind fun t291 => (if t291 = true then ((laws_heldByteS.f k t283 1).bind fun t292 => (if t292 < 0 then (some false) else (if t292 = t282 then (some true) else (some false)))) else (some false))))) else (some false)))) = some true := H
            have A17 := Aside0.mk A170
            clear A170
            replace H := Option.bind_eq_some_iff.mp H
            obtain ⟨t284, A180, H⟩ := H
            replace H : (if t284 < 0 then (some false) else (if t284 = t282 then ((laws_toByteS.f k l1).bind fun t285 => ((impl_EncodeSnapshot.f k a0 t285).bind fun t288 => ((laws_eqByteS.f k t288 t265).bind fun t291 => (if t291 = true then ((laws_heldByteS.f k t283 1).bind fun t292 => (if t292 < 0 then (some false) else (if t292 = t282 then (some true) else (some false)))) else (some false))))) else (some false))) = some true := H
            have A18 := Aside0.mk A180
            clear A180
            by_cases c19 : t284 < 0
            · rw [if_pos c19] at H
              have c19b0 : decide (t284 < 0) = true := decide_eq_true c19
              clear c19
              exact absurd H (by simp)
            · rw [if_neg c19] at H
              have c19b0 : decide (t284 < 0) = false := decide_eq_false c19
              clear c19
              by_cases c20 : t284 = t282
              · rw [if_pos c20] at H
                have c20b0 : (t284 == t282) = true := beq_iff_eq.mpr c20
                have c20b1 : (t284 != t282) = false := bne_eq_false_iff_eq.mpr c20
                clear c20
                replace H := Option.bind_eq_some_iff.mp H
                obtain ⟨t285, A210, H⟩ := H
                replace H : ((impl_EncodeSnapshot.f k a0 t285).bind fun t288 => ((laws_eqByteS.f k t288 t265).bind fun t291 => (if t291 = true then ((laws_heldByteS.f k t283 1).bind fun t292 => (if t292 < 0 then (some false) else (if t292 = t282 then (some true) else (some false)))) else (some false)))) = some true := H
                have A21 := Aside0.mk A210
                clear A210
                replace H := Option.bind_eq_some_iff.mp H
                obtain ⟨t288, A220, H⟩ := H
                replace H : ((laws_eqByteS.f k t288 t265).bind fun t291 => (if t291 = true then ((laws_heldByteS.f k t283 1).bind fun t292 => (if t292 < 0 then (some false) else (if t292 = t282 then (some true) else (some false)))) else (some false))) = some true := H
                have A22 := Aside0.mk A220
                clear A220
                replace H := Option.bind_eq_some_iff.mp H
                obtain ⟨t291, A230, H⟩ := H
                replace H : (if t291 = true then ((laws_heldByteS.f k t283 1).bind fun t292 => (if t292 < 0 then (some false) else (if t292 = t282 then (some true) else (some false)))) else (some false)) = some true := H
                have A23 := Aside0.mk A230
                clear A230
                by_cases c24 : t291 = true
                · subst c24
                  have H1 : ((laws_heldByteS.f k t283 1).bind fun t292 => (if t292 < 0 then (some false) else (if t292 = t282 then (some true) else (some false)))) = some true := by first | rfl | (rw [if_pos rfl] at H; exact H)
                  clear H
                  have H := H1
                  clear H1
                  replace H := Option.bind_eq_some_iff.mp H
                  obtain ⟨t292, A250, H⟩ := H
                  replace H : (if t292 < 0 then (some false) else (if t292 = t282 then (some true) else (some false))) = some true := H
                  have A25 := Aside0.mk A250
                  clear A250
                  by_cases c26 : t292 < 0
                  · rw [if_pos c26] at H
                    have c26b0 : decide (t292 < 0) = true := decide_eq_true c26
                    clear c26
                    exact absurd H (by simp)
                  · rw [if_neg c26] at H
                    have c26b0 : decide (t292 < 0) = false := decide_eq_false c26
                    clear c26
                    by_cases c27 : t292 = t282
                    · rw [if_pos c27] at H
                      have c27b0 : (t292 == t282) = true := beq_iff_eq.mpr c27
                      have c27b1 : (t292 != t282) = false := bne_eq_false_iff_eq.mpr c27
                      clear c27
                      first | obtain rfl := Option.some.inj H | have HRv := Option.some.inj H
                      go_enter Try.func4, Try.ntmps4
                      go_wp2_with (first | ((with_reducible refine gate_callee (f := 21) rfl ?_); refine goesL_ (some 17) rfl rfl Try.func21 (by kernel_rfl) rfl #[.slice A1 l1.length c1] rfl (by (try simp only [List.map_toArray, List.map_cons, List.map_nil]); first | done | rfl | (simp only [List.length_drop, List.length_take]; rfl)) ?_; (with_reducible refine (laws_toByteS.calls k _ _ l1 t262 _ ?side1 ?side2 A4.out).mono ?_); (case side1 => repeat (first | exact HR1.out | (with_reducible refine Kd.C_alloc ?_ _) | (with_reducible refine Kd.C_drewN ?_ _) | (with_reducible refine Kd.C_drew ?_))); (case side2 => exact HC1.out); rintro e w28 ⟨v263, rfl, ho0, hb⟩; refine ⟨_, rfl, ?_⟩; have n0_ := Aside0.mk (Kd.R_lower ho0 (below_size (by repeat (first | (with_reducible first | exact HB.out | apply below_alloc | apply pw_below_drewN | apply below_drew1) | exact HB.out)))); have n1_ := Aside0.mk (below_step (by repeat (first | (with_reducible first | exact HB.out | apply below_alloc | apply pw_below_drewN | apply below_drew1) | exact HB.out)) hb); clear HB; have HO264 := n0_; have HB := n1_; clear n0_ n1_; (try clear hb); (try clear hb2); (try clear hk); (try clear hi); (try clear ho0); obtain ⟨Ao29, co29, eo29⟩ := Kd.R_slice HO264.out; subst eo29) | ((with_reducible refine gate_callee (f := 20) rfl ?_); refine goesL_ (some 18) rfl rfl Try.func20 (by kernel_rfl) rfl #[.int .u64 a0, .slice Ao29 t262.length co29] rfl (by (try simp only [List.map_toArray, List.map_cons, List.map_nil]); first | done | rfl | (simp only [List.length_drop, List.length_take]; rfl)) ?_; (with_reducible refine (spec_EncodeSnapshot.calls k a0 _ _ t262 t265 _ ?side1 ?side2 A5.out).mono ?_); (case side1 => repeat (first | exact (Kd.R_reads' HO264.out).2.2 | (with_reducible refine Kd.C_alloc ?_ _) | (with_reducible refine Kd.C_drewN ?_ _) | (with_reducible refine Kd.C_drew ?_))); (case side2 => exact (Kd.R_reads' HO264.out).2.1); rintro e w30 ⟨v266, rfl, ho0, hb⟩; refine ⟨_, rfl, ?_⟩; have n0_ := Aside0.mk (Kd.R_elder' (by (with_reducible repeat (first | apply Kd.R_alloc | apply Kd.R_drewN | apply Kd.R_drew)); exact HO264.out) (Kd.R_base ho0) hb); have n1_ := Aside0.mk (Kd.R_lower (Kd.R_new' ho0 (Kd.R_lt (by (with_reducible repeat (first | apply Kd.R_alloc | apply Kd.R_drewN | apply Kd.R_drew)); exact HO264.out))) (below_size (by repeat (first | (with_reducible first | exact HB.out | apply below_alloc | apply pw_below_drewN | apply below_drew1) | exact HB.out)))); have n2_ := Aside0.mk (below_step (by repeat (first | (with_reducible first | exact HB.out | apply below_alloc | apply pw_below_drewN | apply below_drew1) | exact HB.out)) hb); clear HO264; clear HB; have HO264 := n0_; have HO267 := n1_; have HB := n2_; clear n0_ n1_ n2_; (try clear hb); (try clear hb2); (try clear hk); (try clear hi); (try clear ho0)) | ((with_reducible refine gate_callee (f := 21) rfl ?_); refine goesL_ (some 20) rfl rfl Try.func21 (by kernel_rfl) rfl #[.slice A1 l1.length c1] rfl (by (try simp only [List.map_toArray, List.map_cons, List.map_nil]); first | done | rfl | (simp only [List.length_drop, List.length_take]; rfl)) ?_; (with_reducible refine (laws_toByteS.calls k _ _ l1 t268 _ ?side1 ?side2 A6.out).mono ?_); (case side1 => repeat (first | exact (Kd.C_below HR1.out HB.out) | (with_reducible refine Kd.C_alloc ?_ _) | (with_reducible refine Kd.C_drewN ?_ _) | (with_reducible refine Kd.C_drew ?_))); (case side2 => exact HC1.out); rintro e w31 ⟨v269, rfl, ho0, hb⟩; refine ⟨_, rfl, ?_⟩; have n0_ := Aside0.mk (Kd.R_elder' (by (with_reducible repeat (first | apply Kd.R_alloc | apply Kd.R_drewN | apply Kd.R_drew)); exact HO264.out) (Kd.R_base ho0) hb); have n1_ := Aside0.mk (Kd.R_elder' (by (with_reducible repeat (first | apply Kd.R_alloc | apply Kd.R_drewN | apply Kd.R_drew)); exact HO267.out) (Kd.R_base ho0) hb); have n2_ := Aside0.mk (Kd.R_lower (Kd.R_new' (Kd.R_new' ho0 (Kd.R_lt (by (with_reducible repeat (first | apply Kd.R_alloc | apply Kd.R_drewN | apply Kd.R_drew)); exact HO264.out))) (Kd.R_lt (by (with_reducible repeat (first | apply Kd.R_alloc | apply Kd.R_drewN | apply Kd.R_drew)); exact HO267.out))) (below_size (by repeat (first | (with_reducible first | exact HB.out | apply below_alloc | apply pw_below_drewN | apply below_drew1) | exact HB.out)))); have n3_ := Aside0.mk (below_step (by repeat (first | (with_reducible first | exact HB.out | apply below_alloc | apply pw_below_drewN | apply below_drew1) | exact HB.out)) hb); clear HO264; clear HO267; clear HB; have HO264 := n0_; have HO267 := n1_; have HO270 := n2_; have HB := n3_; clear n0_ n1_ n2_ n3_; (try clear hb); (try clear hb2); (try clear hk); (try clear hi); (try clear ho0); obtain ⟨Ao32, co32, eo32⟩ := Kd.R_slice HO270.out; subst eo32) | ((with_reducible refine gate_callee (f := 22) rfl ?_); refine goesL_ (some 23) rfl rfl Try.func22 (by kernel_rfl) rfl #[.int .u64 a0, .slice Ao32 t268.length co32] rfl (by (try simp only [List.map_toArray, List.map_cons, List.map_nil]); first | done | rfl | (simp only [List.length_drop, List.length_take]; rfl)) ?_; (with_reducible refine (impl_EncodeSnapshot.calls k a0 (fun k_ => some k_ = (.slice Ao32 t268.length co32 : Value).ownBlock) _ _ t268 t271 _ ?side1 A7.out).mono ?_); (case side1 => exact Kd.R_V (Kd.R_tight rfl (HO270.out))); rintro e w33 ⟨v272, rfl, ho0, hb⟩; refine ⟨_, rfl, ?_⟩; have n0_ := Aside0.mk (Kd.R_elder' (by (with_reducible repeat (first | apply Kd.R_alloc | apply Kd.R_drewN | apply Kd.R_drew)); exact HO264.out) (Kd.R_base ho0) hb); have n1_ := Aside0.mk (Kd.R_elder' (by (with_reducible repeat (first | apply Kd.R_alloc | apply Kd.R_drewN | apply Kd.R_drew)); exact HO267.out) (Kd.R_base ho0) hb); have n2_ := Aside0.mk (Kd.R_elder' (by (with_reducible repeat (first | apply Kd.R_alloc | apply Kd.R_drewN | apply Kd.R_drew)); exact HO270.out) (Kd.R_base ho0) hb); have n3_ := Aside0.mk (Kd.R_lower (Kd.R_new' (Kd.R_new' (Kd.R_new' (Kd.R_mono (ok' := fun k_ => True) ho0 (fun _ hk_ => trivial)) (Kd.R_lt (by (with_reducible repeat (first | apply Kd.R_alloc | apply Kd.R_drewN | apply Kd.R_drew)); exact HO264.out))) (Kd.R_lt (by (with_reducible repeat (first | apply Kd.R_alloc | apply Kd.R_drewN | apply Kd.R_drew)); exact HO267.out))) (Kd.R_lt (by (with_reducible repeat (first | apply Kd.R_alloc | apply Kd.R_drewN | apply Kd.R_drew)); exact HO270.out))) (below_size (by repeat (first | (with_reducible first | exact HB.out | apply below_alloc | apply pw_below_drewN | apply below_drew1) | exact HB.out)))); have n4_ := Aside0.mk (below_step (by repeat (first | (with_reducible first | exact HB.out | apply below_alloc | apply pw_below_drewN | apply below_drew1) | exact HB.out)) hb); clear HO264; clear HO267; clear HO270; clear HB; have HO264 := n0_; have HO267 := n1_; have HO270 := n2_; have HO273 := n3_; have HB := n4_; clear n0_ n1_ n2_ n3_ n4_; (try clear hb); (try clear hb2); (try clear hk); (try clear hi); (try clear ho0); obtain ⟨Ao34, co34, eo34⟩ := Kd.R_slice HO273.out; subst eo34; obtain ⟨Ao35, co35, eo35⟩ := Kd.R_slice HO267.out; subst eo35) | ((with_reducible refine gate_callee (f := 23) rfl ?_); refine goesL_ (some 26) rfl rfl Try.func23 (by kernel_rfl) rfl #[.slice Ao34 t271.length co34, .slice Ao35 t265.length co35] rfl (by (try simp only [List.map_toArray, List.map_cons, List.map_nil]); first | done | rfl | (simp only [List.length_drop, List.length_take]; rfl)) ?_; (with_reducible refine (laws_eqByteS.calls k _ _ t271 _ _ t265 true _ ?side1 ?side2 ?side3 ?side4 A8.out).mono ?_); (case side1 => repeat (first | exact (Kd.R_reads' HO273.out).2.2 | (with_reducible refine Kd.C_alloc ?_ _) | (with_reducible refine Kd.C_drewN ?_ _) | (with_reducible refine Kd.C_drew ?_))); (case side2 => exact (Kd.R_reads' HO273.out).2.1); (case side3 => repeat (first | exact (Kd.R_reads' HO267.out).2.2 | (with_reducible refine Kd.C_alloc ?_ _) | (with_reducible refine Kd.C_drewN ?_ _) | (with_reducible refine Kd.C_drew ?_))); (case side4 => exact (Kd.R_reads' HO267.out).2.1); rintro e w' ⟨rfl, ⟨nd, rfl⟩⟩; refine ⟨_, rfl, ?_⟩) | ((with_reducible refine gate_callee (f := 21) rfl ?_); refine goesL_ (some 30) rfl rfl Try.func21 (by kernel_rfl) rfl #[.slice A1 l1.length c1] rfl (by (try simp only [List.map_toArray, List.map_cons, List.map_nil]); first | done | rfl | (simp only [List.length_drop, List.length_take]; rfl)) ?_; (with_reducible refine (laws_toByteS.calls k _ _ l1 t275 _ ?side1 ?side2 A10.out).mono ?_); (case side1 => repeat (first | exact (Kd.C_below HR1.out (by repeat (first | (with_reducible first | exact HB.out | apply below_alloc | apply pw_below_drewN | apply below_drew1) | exact HB.out))) | (with_reducible refine Kd.C_alloc ?_ _) | (with_reducible refine Kd.C_drewN ?_ _) | (with_reducible refine Kd.C_drew ?_))); (case side2 => exact HC1.out); rintro e w36 ⟨v276, rfl, ho0, hb⟩; refine ⟨_, rfl, ?_⟩; have n0_ := Aside0.mk (Kd.R_elder' (by (with_reducible repeat (first | apply Kd.R_alloc | apply Kd.R_drewN | apply Kd.R_drew)); exact HO264.out) (Kd.R_base ho0) hb); have n1_ := Aside0.mk (Kd.R_elder' (by (with_reducible repeat (first | apply Kd.R_alloc | apply Kd.R_drewN | apply Kd.R_drew)); exact HO267.out) (Kd.R_base ho0) hb); have n2_ := Aside0.mk (Kd.R_elder' (by (with_reducible repeat (first | apply Kd.R_alloc | apply Kd.R_drewN | apply Kd.R_drew)); exact HO270.out) (Kd.R_base ho0) hb); have n3_ := Aside0.mk (Kd.R_elder' (by (with_reducible repeat (first | apply Kd.R_alloc | apply Kd.R_drewN | apply Kd.R_drew)); exact HO273.out) (Kd.R_base ho0) hb); have n4_ := Aside0.mk (Kd.R_lower (Kd.R_new' (Kd.R_new' (Kd.R_new' (Kd.R_new' ho0 (Kd.R_lt (by (with_reducible repeat (first | apply Kd.R_alloc | apply Kd.R_drewN | apply Kd.R_drew)); exact HO264.out))) (Kd.R_lt (by (with_reducible repeat (first | apply Kd.R_alloc | apply Kd.R_drewN | apply Kd.R_drew)); exact HO267.out))) (Kd.R_lt (by (with_reducible repeat (first | apply Kd.R_alloc | apply Kd.R_drewN | apply Kd.R_drew)); exact HO270.out))) (Kd.R_lt (by (with_reducible repeat (first | apply Kd.R_alloc | apply Kd.R_drewN | apply Kd.R_drew)); exact HO273.out))) (below_size (by repeat (first | (with_reducible first | exact HB.out | apply below_alloc | apply pw_below_drewN | apply below_drew1) | exact HB.out)))); have n5_ := Aside0.mk (below_step (by repeat (first | (with_reducible first | exact HB.out | apply below_alloc | apply pw_below_drewN | apply below_drew1) | exact HB.out)) hb); clear HO264; clear HO267; clear HO270; clear HO273; clear HB; have HO264 := n0_; have HO267 := n1_; have HO270 := n2_; have HO273 := n3_; have HO277 := n4_; have HB := n5_; clear n0_ n1_ n2_ n3_ n4_ n5_; (try clear hb); (try clear hb2); (try clear hk); (try clear hi); (try clear ho0); obtain ⟨Ao37, co37, eo37⟩ := Kd.R_slice HO277.out; subst eo37) | ((with_reducible refine gate_callee (f := 23) rfl ?_); refine goesL_ (some 31) rfl rfl Try.func23 (by kernel_rfl) rfl #[.slice Ao32 t268.length co32, .slice Ao37 t275.length co37] rfl (by (try simp only [List.map_toArray, List.map_cons, List.map_nil]); first | done | rfl | (simp only [List.length_drop, List.length_take]; rfl)) ?_; (with_reducible refine (laws_eqByteS.calls k _ _ t268 _ _ t275 true _ ?side1 ?side2 ?side3 ?side4 A11.out).mono ?_); (case side1 => repeat (first | exact (Kd.R_reads' HO270.out).2.2 | (with_reducible refine Kd.C_alloc ?_ _) | (with_reducible refine Kd.C_drewN ?_ _) | (with_reducible refine Kd.C_drew ?_))); (case side2 => exact (Kd.R_reads' HO270.out).2.1); (case side3 => repeat (first | exact (Kd.R_reads' HO277.out).2.2 | (with_reducible refine Kd.C_alloc ?_ _) | (with_reducible refine Kd.C_drewN ?_ _) | (with_reducible refine Kd.C_drew ?_))); (case side4 => exact (Kd.R_reads' HO277.out).2.1); rintro e w' ⟨rfl, ⟨nd, rfl⟩⟩; refine ⟨_, rfl, ?_⟩) | ((with_reducible refine gate_callee (f := 24) rfl ?_); refine goesL_ (some 35) rfl rfl Try.func24 (by kernel_rfl) rfl #[.slice Ao32 t268.length co32, .int .i64 1] rfl (by (try simp only [List.map_toArray, List.map_cons, List.map_nil]); first | done | rfl | (simp only [List.length_drop, List.length_take]; rfl)) ?_; (with_reducible refine (laws_markByteS.calls k (fun k_ => some k_ = (.slice Ao32 t268.length co32 : Value).ownBlock) (.slice Ao32 t268.length co32) t268 1 t279 t280 w _ ?side1 ?side2 A13.out).mono ?_); (case side1 => repeat (first | (with_reducible first | exact HB.out | apply below_alloc | apply pw_below_drewN | apply below_drew1) | exact HB.out)); (case side2 => exact Kd.R_tight rfl HO270.out); rintro e w38 ⟨rfl, hy0, hb, hkp⟩; refine ⟨_, rfl, ?_⟩; have n0_ := Aside0.mk (Kd.R_mono (ok' := fun k_ => some k_ ≠ (.slice Ao35 t265.length co35 : Value).ownBlock ∧ some k_ ≠ (.slice Ao32 t268.length co32 : Value).ownBlock ∧ some k_ ≠ (.slice Ao34 t271.length co34 : Value).ownBlock ∧ some k_ ≠ (.slice Ao37 t275.length co37 : Value).ownBlock) (Kd.R_keptB (HO264.out) hkp (fun k_ hk_ hs_ => (hk_.1.1.2) hs_)) (fun k_ hk_ => ⟨hk_.1.1.1.1.2, hk_.1.1.1.2, hk_.1.1.2, hk_.1.2⟩)); have n1_ := Aside0.mk (Kd.R_mono (ok' := fun k_ => some k_ ≠ (.slice Ao29 t262.length co29 : Value).ownBlock ∧ some k_ ≠ (.slice Ao32 t268.length co32 : Value).ownBlock ∧ some k_ ≠ (.slice Ao34 t271.length co34 : Value).ownBlock ∧ some k_ ≠ (.slice Ao37 t275.length co37 : Value).ownBlock) (Kd.R_keptB (HO267.out) hkp (fun k_ hk_ hs_ => (hk_.1.1.2) hs_)) (fun k_ hk_ => ⟨hk_.1.1.1.1.2, hk_.1.1.1.2, hk_.1.1.2, hk_.1.2⟩)); have n2_ := Aside0.mk (Kd.R_reok rfl hy0 (fun k_ e_ => HO270.out.1 k_ e_)); have n3_ := Aside0.mk (Kd.R_mono (ok' := fun k_ => some k_ ≠ (.slice Ao29 t262.length co29 : Value).ownBlock ∧ some k_ ≠ (.slice Ao35 t265.length co35 : Value).ownBlock ∧ some k_ ≠ (.slice Ao32 t268.length co32 : Value).ownBlock ∧ some k_ ≠ (.slice Ao37 t275.length co37 : Value).ownBlock) (Kd.R_keptB (HO273.out) hkp (fun k_ hk_ hs_ => (hk_.1.2) hs_)) (fun k_ hk_ => ⟨hk_.1.1.1.1.2, hk_.1.1.1.2, hk_.1.1.2, hk_.1.2⟩)); have n4_ := Aside0.mk (Kd.R_mono (ok' := fun k_ => some k_ ≠ (.slice Ao29 t262.length co29 : Value).ownBlock ∧ some k_ ≠ (.slice Ao35 t265.length co35 : Value).ownBlock ∧ some k_ ≠ (.slice Ao32 t268.length co32 : Value).ownBlock ∧ some k_ ≠ (.slice Ao34 t271.length co34 : Value).ownBlock) (Kd.R_keptB (HO277.out) hkp (fun k_ hk_ hs_ => (hk_.1.2) hs_)) (fun k_ hk_ => ⟨hk_.1.1.1.1.2, hk_.1.1.1.2, hk_.1.1.2, hk_.1.2⟩)); have n5_ := Aside0.mk (hb); clear HO264; clear HO267; clear HO270; clear HO273; clear HO277; clear HB; have HO264 := n0_; have HO267 := n1_; have HO270 := n2_; have HO273 := n3_; have HO277 := n4_; have HB := n5_; clear n0_ n1_ n2_ n3_ n4_ n5_; (try clear hb); (try clear hkp); (try clear hy0)) | (go_at_call 23; (with_reducible refine (laws_eqByteS.calls k _ _ t271 _ _ t265 true _ ?side1 ?side2 ?side3 ?side4 A15.out).mono ?_); (case side1 => repeat (first | exact (Kd.R_reads' HO273.out).2.2 | (with_reducible refine Kd.C_alloc ?_ _) | (with_reducible refine Kd.C_drewN ?_ _) | (with_reducible refine Kd.C_drew ?_))); (case side2 => exact (Kd.R_reads' HO273.out).2.1); (case side3 => repeat (first | exact (Kd.R_reads' HO267.out).2.2 | (with_reducible refine Kd.C_alloc ?_ _) | (with_reducible refine Kd.C_drewN ?_ _) | (with_reducible refine Kd.C_drew ?_))); (case side4 => exact (Kd.R_reads' HO267.out).2.1); rintro e w' ⟨rfl, ⟨nd, rfl⟩⟩) | ((with_reducible refine gate_callee (f := 24) rfl ?_); refine goesL_ (some 46) rfl rfl Try.func24 (by kernel_rfl) rfl #[.slice Ao34 t271.length co34, .int .i64 1] rfl (by (try simp only [List.map_toArray, List.map_cons, List.map_nil]); first | done | rfl | (simp only [List.length_drop, List.length_take]; rfl)) ?_; (with_reducible refine (laws_markByteS.calls k (fun k_ => some k_ = (.slice Ao34 t271.length co34 : Value).ownBlock) (.slice Ao34 t271.length co34) t271 1 t282 t283 w _ ?side1 ?side2 A17.out).mono ?_); (case side1 => repeat (first | (with_reducible first | exact HB.out | apply below_alloc | apply pw_below_drewN | apply below_drew1) | exact HB.out)); (case side2 => exact Kd.R_tight rfl HO273.out); rintro e w39 ⟨rfl, hy0, hb, hkp⟩; refine ⟨_, rfl, ?_⟩; have n0_ := Aside0.mk (Kd.R_mono (ok' := fun k_ => some k_ ≠ (.slice Ao35 t265.length co35 : Value).ownBlock ∧ some k_ ≠ (.slice Ao32 t268.length co32 : Value).ownBlock ∧ some k_ ≠ (.slice Ao34 t271.length co34 : Value).ownBlock ∧ some k_ ≠ (.slice Ao37 t275.length co37 : Value).ownBlock) (Kd.R_keptB (HO264.out) hkp (fun k_ hk_ hs_ => (hk_.2.2.1) hs_)) (fun k_ hk_ => ⟨hk_.1.1, hk_.1.2.1, hk_.1.2.2.1, hk_.1.2.2.2⟩)); have n1_ := Aside0.mk (Kd.R_mono (ok' := fun k_ => some k_ ≠ (.slice Ao29 t262.length co29 : Value).ownBlock ∧ some k_ ≠ (.slice Ao32 t268.length co32 : Value).ownBlock ∧ some k_ ≠ (.slice Ao34 t271.length co34 : Value).ownBlock ∧ some k_ ≠ (.slice Ao37 t275.length co37 : Value).ownBlock) (Kd.R_keptB (HO267.out) hkp (fun k_ hk_ hs_ => (hk_.2.2.1) hs_)) (fun k_ hk_ => ⟨hk_.1.1, hk_.1.2.1, hk_.1.2.2.1, hk_.1.2.2.2⟩)); have n2_ := Aside0.mk (Kd.R_mono (ok' := fun k_ => some k_ ≠ (.slice Ao29 t262.length co29 : Value).ownBlock ∧ some k_ ≠ (.slice Ao35 t265.length co35 : Value).ownBlock ∧ some k_ ≠ (.slice Ao34 t271.length co34 : Value).ownBlock ∧ some k_ ≠ (.slice Ao37 t275.length co37 : Value).ownBlock) (Kd.R_keptB (HO270.out) hkp (fun k_ hk_ hs_ => (hk_.1.2) hs_)) (fun k_ hk_ => ⟨hk_.1.1.1.1.2, hk_.1.1.1.2, hk_.1.1.2, hk_.1.2⟩)); have n3_ := Aside0.mk (Kd.R_reok rfl hy0 (fun k_ e_ => HO273.out.1 k_ e_)); have n4_ := Aside0.mk (Kd.R_mono (ok' := fun k_ => some k_ ≠ (.slice Ao29 t262.length co29 : Value).ownBlock ∧ some k_ ≠ (.slice Ao35 t265.length co35 : Value).ownBlock ∧ some k_ ≠ (.slice Ao32 t268.length co32 : Value).ownBlock ∧ some k_ ≠ (.slice Ao34 t271.length co34 : Value).ownBlock) (Kd.R_keptB (HO277.out) hkp (fun k_ hk_ hs_ => (hk_.2.2.2) hs_)) (fun k_ hk_ => ⟨hk_.1.1, hk_.1.2.1, hk_.1.2.2.1, hk_.1.2.2.2⟩)); have n5_ := Aside0.mk (hb); clear HO264; clear HO267; clear HO270; clear HO273; clear HO277; clear HB; have HO264 := n0_; have HO267 := n1_; have HO270 := n2_; have HO273 := n3_; have HO277 := n4_; have HB := n5_; clear n0_ n1_ n2_ n3_ n4_ n5_; (try clear hb); (try clear hkp); (try clear hy0)) | ((with_reducible refine gate_callee (f := 25) rfl ?_); refine goesL_ (some 49) rfl rfl Try.func25 (by kernel_rfl) rfl #[.slice Ao34 t283.length co34, .int .i64 1] rfl (by (try simp only [List.map_toArray, List.map_cons, List.map_nil]); first | done | (rw [show t283.length = t271.length from (Kd.R_reads' HO273.out).1.symm] <;> rfl) | rfl | (simp only [List.length_drop, List.length_take]; rfl)) ?_; (with_reducible refine (laws_heldByteS.calls k _ _ t283 1 t284 _ ?side1 ?side2 A18.out).mono ?_); (case side1 => repeat (first | exact (Kd.R_reads' HO273.out).2.2 | (with_reducible refine Kd.C_alloc ?_ _) | (with_reducible refine Kd.C_drewN ?_ _) | (with_reducible refine Kd.C_drew ?_))); (case side2 => rw [show t283.length = t271.length from (Kd.R_reads' HO273.out).1.symm]; exact (Kd.R_reads' HO273.out).2.1); rintro e w' ⟨rfl, ⟨nd, rfl⟩⟩; refine ⟨_, rfl, ?_⟩) | ((with_reducible refine gate_callee (f := 21) rfl ?_); refine goesL_ (some 57) rfl rfl Try.func21 (by kernel_rfl) rfl #[.slice A1 l1.length c1] rfl (by (try simp only [List.map_toArray, List.map_cons, List.map_nil]); first | done | rfl | (simp only [List.length_drop, List.length_take]; rfl)) ?_; (with_reducible refine (laws_toByteS.calls k _ _ l1 t285 _ ?side1 ?side2 A21.out).mono ?_); (case side1 => repeat (first | exact (Kd.C_below HR1.out (by repeat (first | (with_reducible first | exact HB.out | apply below_alloc | apply pw_below_drewN | apply below_drew1) | exact HB.out))) | (with_reducible refine Kd.C_alloc ?_ _) | (with_reducible refine Kd.C_drewN ?_ _) | (with_reducible refine Kd.C_drew ?_))); (case side2 => exact HC1.out); rintro e w40 ⟨v286, rfl, ho0, hb⟩; refine ⟨_, rfl, ?_⟩; have n0_ := Aside0.mk (Kd.R_elder' (by (with_reducible repeat (first | apply Kd.R_alloc | apply Kd.R_drewN | apply Kd.R_drew)); exact HO264.out) (Kd.R_base ho0) hb); have n1_ := Aside0.mk (Kd.R_elder' (by (with_reducible repeat (first | apply Kd.R_alloc | apply Kd.R_drewN | apply Kd.R_drew)); exact HO267.out) (Kd.R_base ho0) hb); have n2_ := Aside0.mk (Kd.R_elder' (by (with_reducible repeat (first | apply Kd.R_alloc | apply Kd.R_drewN | apply Kd.R_drew)); exact HO270.out) (Kd.R_base ho0) hb); have n3_ := Aside0.mk (Kd.R_elder' (by (with_reducible repeat (first | apply Kd.R_alloc | apply Kd.R_drewN | apply Kd.R_drew)); exact HO273.out) (Kd.R_base ho0) hb); have n4_ := Aside0.mk (Kd.R_elder' (by (with_reducible repeat (first | apply Kd.R_alloc | apply Kd.R_drewN | apply Kd.R_drew)); exact HO277.out) (Kd.R_base ho0) hb); have n5_ := Aside0.mk (Kd.R_lower (Kd.R_new' (Kd.R_new' (Kd.R_new' (Kd.R_new' (Kd.R_new' ho0 (Kd.R_lt (by (with_reducible repeat (first | apply Kd.R_alloc | apply Kd.R_drewN | apply Kd.R_drew)); exact HO264.out))) (Kd.R_lt (by (with_reducible repeat (first | apply Kd.R_alloc | apply Kd.R_drewN | apply Kd.R_drew)); exact HO267.out))) (Kd.R_lt (by (with_reducible repeat (first | apply Kd.R_alloc | apply Kd.R_drewN | apply Kd.R_drew)); exact HO270.out))) (Kd.R_lt (by (with_reducible repeat (first | apply Kd.R_alloc | apply Kd.R_drewN | apply Kd.R_drew)); exact HO273.out))) (Kd.R_lt (by (with_reducible repeat (first | apply Kd.R_alloc | apply Kd.R_drewN | apply Kd.R_drew)); exact HO277.out))) (below_size (by repeat (first | (with_reducible first | exact HB.out | apply below_alloc | apply pw_below_drewN | apply below_drew1) | exact HB.out)))); have n6_ := Aside0.mk (below_step (by repeat (first | (with_reducible first | exact HB.out | apply below_alloc | apply pw_below_drewN | apply below_drew1) | exact HB.out)) hb); clear HO264; clear HO267; clear HO270; clear HO273; clear HO277; clear HB; have HO264 := n0_; have HO267 := n1_; have HO270 := n2_; have HO273 := n3_; have HO277 := n4_; have HO287 := n5_; have HB := n6_; clear n0_ n1_ n2_ n3_ n4_ n5_ n6_; (try clear hb); (try clear hb2); (try clear hk); (try clear hi); (try clear ho0); obtain ⟨Ao41, co41, eo41⟩ := Kd.R_slice HO287.out; subst eo41) | ((with_reducible refine gate_callee (f := 22) rfl ?_); refine goesL_ (some 58) rfl rfl Try.func22 (by kernel_rfl) rfl #[.int .u64 a0, .slice Ao41 t285.length co41] rfl (by (try simp only [List.map_toArray, List.map_cons, List.map_nil]); first | done | rfl | (simp only [List.length_drop, List.length_take]; rfl)) ?_; (with_reducible refine (impl_EncodeSnapshot.calls k a0 (fun k_ => some k_ = (.slice Ao41 t285.length co41 : Value).ownBlock) _ _ t285 t288 _ ?side1 A22.out).mono ?_); (case side1 => exact Kd.R_V (Kd.R_tight rfl (HO287.out))); rintro e w42 ⟨v289, rfl, ho0, hb⟩; refine ⟨_, rfl, ?_⟩; have n0_ := Aside0.mk (Kd.R_elder' (by (with_reducible repeat (first | apply Kd.R_alloc | apply Kd.R_drewN | apply Kd.R_drew)); exact HO264.out) (Kd.R_base ho0) hb); have n1_ := Aside0.mk (Kd.R_elder' (by (with_reducible repeat (first | apply Kd.R_alloc | apply Kd.R_drewN | apply Kd.R_drew)); exact HO267.out) (Kd.R_base ho0) hb); have n2_ := Aside0.mk (Kd.R_elder' (by (with_reducible repeat (first | apply Kd.R_alloc | apply Kd.R_drewN | apply Kd.R_drew)); exact HO270.out) (Kd.R_base ho0) hb); have n3_ := Aside0.mk (Kd.R_elder' (by (with_reducible repeat (first | apply Kd.R_alloc | apply Kd.R_drewN | apply Kd.R_drew)); exact HO273.out) (Kd.R_base ho0) hb); have n4_ := Aside0.mk (Kd.R_elder' (by (with_reducible repeat (first | apply Kd.R_alloc | apply Kd.R_drewN | apply Kd.R_drew)); exact HO277.out) (Kd.R_base ho0) hb); have n5_ := Aside0.mk (Kd.R_elder' (by (with_reducible repeat (first | apply Kd.R_alloc | apply Kd.R_drewN | apply Kd.R_drew)); exact HO287.out) (Kd.R_base ho0) hb); have n6_ := Aside0.mk (Kd.R_lower (Kd.R_new' (Kd.R_new' (Kd.R_new' (Kd.R_new' (Kd.R_new' (Kd.R_new' (Kd.R_mono (ok' := fun k_ => True) ho0 (fun _ hk_ => trivial)) (Kd.R_lt (by (with_reducible repeat (first | apply Kd.R_alloc | apply Kd.R_drewN | apply Kd.R_drew)); exact HO264.out))) (Kd.R_lt (by (with_reducible repeat (first | apply Kd.R_alloc | apply Kd.R_drewN | apply Kd.R_drew)); exact HO267.out))) (Kd.R_lt (by (with_reducible repeat (first | apply Kd.R_alloc | apply Kd.R_drewN | apply Kd.R_drew)); exact HO270.out))) (Kd.R_lt (by (with_reducible repeat (first | apply Kd.R_alloc | apply Kd.R_drewN | apply Kd.R_drew)); exact HO273.out))) (Kd.R_lt (by (with_reducible repeat (first | apply Kd.R_alloc | apply Kd.R_drewN | apply Kd.R_drew)); exact HO277.out))) (Kd.R_lt (by (with_reducible repeat (first | apply Kd.R_alloc | apply Kd.R_drewN | apply Kd.R_drew)); exact HO287.out))) (below_size (by repeat (first | (with_reducible first | exact HB.out | apply below_alloc | apply pw_below_drewN | apply below_drew1) | exact HB.out)))); have n7_ := Aside0.mk (below_step (by repeat (first | (with_reducible first | exact HB.out | apply below_alloc | apply pw_below_drewN | apply below_drew1) | exact HB.out)) hb); clear HO264; clear HO267; clear HO270; clear HO273; clear HO277; clear HO287; clear HB; have HO264 := n0_; have HO267 := n1_; have HO270 := n2_; have HO273 := n3_; have HO277 := n4_; have HO287 := n5_; have HO290 := n6_; have HB := n7_; clear n0_ n1_ n2_ n3_ n4_ n5_ n6_ n7_; (try clear hb); (try clear hb2); (try clear hk); (try clear hi); (try clear ho0); obtain ⟨Ao43, co43, eo43⟩ := Kd.R_slice HO290.out; subst eo43) | ((with_reducible refine gate_callee (f := 23) rfl ?_); refine goesL_ (some 61) rfl rfl Try.func23 (by kernel_rfl) rfl #[.slice Ao43 t288.length co43, .slice Ao35 t265.length co35] rfl (by (try simp only [List.map_toArray, List.map_cons, List.map_nil]); first | done | rfl | (simp only [List.length_drop, List.length_take]; rfl)) ?_; (with_reducible refine (laws_eqByteS.calls k _ _ t288 _ _ t265 true _ ?side1 ?side2 ?side3 ?side4 A23.out).mono ?_); (case side1 => repeat (first | exact (Kd.R_reads' HO290.out).2.2 | (with_reducible refine Kd.C_alloc ?_ _) | (with_reducible refine Kd.C_drewN ?_ _) | (with_reducible refine Kd.C_drew ?_))); (case side2 => exact (Kd.R_reads' HO290.out).2.1); (case side3 => repeat (first | exact (Kd.R_reads' HO267.out).2.2 | (with_reducible refine Kd.C_alloc ?_ _) | (with_reducible refine Kd.C_drewN ?_ _) | (with_reducible refine Kd.C_drew ?_))); (case side4 => exact (Kd.R_reads' HO267.out).2.1); rintro e w' ⟨rfl, ⟨nd, rfl⟩⟩; refine ⟨_, rfl, ?_⟩) | ((with_reducible refine gate_callee (f := 25) rfl ?_); refine goesL_ (some 65) rfl rfl Try.func25 (by kernel_rfl) rfl #[.slice Ao34 t283.length co34, .int .i64 1] rfl (by (try simp only [List.map_toArray, List.map_cons, List.map_nil]); first | done | (rw [show t283.length = t271.length from (Kd.R_reads' HO273.out).1.symm] <;> rfl) | rfl | (simp only [List.length_drop, List.length_take]; rfl)) ?_; (with_reducible refine (laws_heldByteS.calls k _ _ t283 1 t292 _ ?side1 ?side2 A25.out).mono ?_); (case side1 => repeat (first | exact (Kd.R_reads' HO273.out).2.2 | (with_reducible refine Kd.C_alloc ?_ _) | (with_reducible refine Kd.C_drewN ?_ _) | (with_reducible refine Kd.C_drew ?_))); (case side2 => rw [show t283.length = t271.length from (Kd.R_reads' HO273.out).1.symm]; exact (Kd.R_reads' HO273.out).2.1); rintro e w' ⟨rfl, ⟨nd, rfl⟩⟩; refine ⟨_, rfl, ?_⟩))
                      go_ret
                      exact ⟨by first | rfl | (simp [errW_none, errW_some] <;> rfl) | (simp [*, errW_none, errW_some] <;> rfl), by repeat (first | (with_reducible first | exact HB.out | apply below_alloc | apply pw_below_drewN | apply below_drew1) | exact HB.out)⟩
                    · rw [if_neg c27] at H
                      have c27b0 : (t292 == t282) = false := beq_eq_false_iff_ne.mpr c27
                      have c27b1 : (t292 != t282) = true := bne_iff_ne.mpr c27
                      exact absurd H (by simp)
                · replace c24 := Bool.eq_false_iff.mpr c24
                  subst c24
                  have H1 : (some false) = some true := by first | rfl | (rw [if_neg (show ¬ (false = true) by decide)] at H; exact H)
                  clear H
                  have H := H1
                  clear H1
                  exact absurd H (by simp)
              · rw [if_neg c20] at H
                have c20b0 : (t284 == t282) = false := beq_eq_false_iff_ne.mpr c20
                have c20b1 : (t284 != t282) = true := bne_iff_ne.mpr c20
                exact absurd H (by simp)
          · replace c16 := Bool.eq_false_iff.mpr c16
            subst c16
            have H1 : (some false) = some true := by first | rfl | (rw [if_neg (show ¬ (false = true) by decide)] at H; exact H)
            clear H
            have H := H1
            clear H1
            exact absurd H (by simp)
      · replace c12 := Bool.eq_false_iff.mpr c12
        subst c12
        have H1 : (some false) = some true := by first | rfl | (rw [if_neg (show ¬ (false = true) by decide)] at H; exact H)
        clear H
        have H := H1
        clear H1
        exact absurd H (by simp)
    · replace c9 := Bool.eq_false_iff.mpr c9
      subst c9
      have H1 : (some false) = some true := by first | rfl | (rw [if_neg (show ¬ (false = true) by decide)] at H; exact H)
      clear H
      have H := H1
      clear H1
      exact absurd H (by simp)

/-- THE ONE PURE STATEMENT of laws_FnExactEncodeSnapshot: yours. -/
def laws_FnExactEncodeSnapshot.Pure : Prop := ∀ (a0 : Int) (l1 : List Int), (Lit.int .u64 a0).wf = true → l1.length ≤ maxLen → l1.length * 1 ≤ 140737488351232 → (∀ x ∈ l1, (Lit.int .u8 x).wf = true) → ∃ k, laws_FnExactEncodeSnapshot.f k a0 l1 = some true
theorem laws_FnExactEncodeSnapshot.walk (P : laws_FnExactEncodeSnapshot.Pure) (a0 : Int) (a1 : Option Addr) (len1 cap1 : Nat) (z1 : List Int) (w : World) (w0 : (Lit.int .u64 a0).wf = true) (w1 : (a1 = none ∧ len1 = 0 ∧ cap1 = 0 ∧ z1 = []) ∨ ∃ x, a1 = some x ∧ len1 ≤ cap1 ∧ cap1 ≤ maxLen ∧ z1.length = cap1 ∧ (∀ i, i < z1.length → w.cell? (x.add i) = some (.int .u8 (z1.getD i 0))) ∧ ∀ n ∈ z1, (Lit.int .u8 n).wf = true) (y1 : len1 * 1 ≤ 140737488351232) :
    Calls Try.prog 4 #[.int .u64 a0, .slice a1 len1 cap1] w fun e w' => e = .returned (.bool true) ∧ Below w.heap.size w w' := by
  obtain ⟨l1, rfl, hr1, hm1, hw1, hc1⟩ := ReadsInt.ofRowC w1
  obtain ⟨k, h⟩ := P a0 l1 w0 hm1 y1 hw1
  refine (laws_FnExactEncodeSnapshot.calls k a0 _ _ l1 w (Kd.C_of_reads (d := (0 : Int)) (h1 := fun _ => rfl) hr1) hc1 h).mono ?_
  rintro e w' ⟨rfl, hd⟩
  exact ⟨rfl, hd⟩

end Go.Proofs.Ytbapokpkgonjkaa.Print

/- The plain part of the law on EncodeSnapshot. -/
namespace Go.Proofs.Ytbapokpkgonjkaa.Print
open Go.RowKit Go.Proofs.YtbapokpkgonjkaaW.PrintWords Go.Proofs.YtbapokpkgonjkaaW.PrintLast Go.Proofs.YtbapokpkgonjkaaW.PrintMore
set_option linter.unusedVariables false
set_option linter.unusedSimpArgs false
/-- A snapshot's bytes. -/
def snapB (a : Int) (l : List Int) : List Int := ([76, 72, 83, 49] ++ leB a 8 ++ leB (l.length : Int) 4 ++ l) ++ leB (sumB ([76, 72, 83, 49] ++ leB a 8 ++ leB (l.length : Int) 4 ++ l)) 4
theorem snapB_length (a : Int) (l : List Int) : (snapB a l).length = l.length + 20 := by simp [snapB, leB_length]; omega
theorem snap_range (a : Int) (l : List Int) (hb : ∀ x ∈ l, 0 ≤ x ∧ x < 256) : ∀ x ∈ [76, 72, 83, 49] ++ leB a 8 ++ leB (l.length : Int) 4 ++ l, 0 ≤ x ∧ x < 256 := by
  intro x hx
  simp only [List.mem_append] at hx
  rcases hx with ((hx | hx) | hx) | hx
  · simp at hx; omega
  · exact leB_range _ _ x hx
  · exact leB_range _ _ x hx
  · exact hb x hx
theorem spec_snap_f (a : Int) (l : List Int) (ha : 0 ≤ a) (ha1 : a < 18446744073709551616) (hl : l.length ≤ 140737488350000) (hb : ∀ x ∈ l, 0 ≤ x ∧ x < 256) (k : Nat) (hk : l.length + 100 < k) : spec_EncodeSnapshot.f k a l = some (snapB a l) := by
  unfold spec_EncodeSnapshot.f
  simp only [Option.bind_some]
  rw [show spec_l2little.f k a 8 = some (leB a 8) from little_f 8 k a (by omega) ha ha1 (by omega)]
  simp only [Option.bind_some]
  rw [if_pos (by simp [leB_length]), u64_of _ (by omega) (by omega), show spec_l2little.f k (l.length : Int) 4 = some (leB (l.length : Int) 4) from little_f 4 k _ (by omega) (by omega) (by omega) (by omega)]
  simp only [Option.bind_some]
  rw [if_pos (by simp [leB_length]), if_pos (by simp [leB_length]; omega), spec_summed_f _ (by simp [leB_length]; omega) (snap_range a l hb) k (by simp [leB_length]; omega)]
  rfl
theorem impl_snap_f (a : Int) (l : List Int) (ha : 0 ≤ a) (ha1 : a < 18446744073709551616) (hl : l.length ≤ 140737488350000) (hb : ∀ x ∈ l, 0 ≤ x ∧ x < 256) (k : Nat) (hk : l.length + 100 < k) : impl_EncodeSnapshot.f k a l = some (snapB a l) := by
  unfold impl_EncodeSnapshot.f impl_lowFirst.f
  rw [if_pos (by omega), Option.bind_some, if_pos (by omega), Option.bind_some, u64_of _ (by omega) (by omega)]
  have e : ([([76, 72, 83, 49] : List Int), leB a (8 : Int).toNat, leB (l.length : Int) (4 : Int).toNat, l] : List (List Int)).flatten = [76, 72, 83, 49] ++ leB a 8 ++ leB (l.length : Int) 4 ++ l := by simp
  rw [impl_summed_f _ (by rw [e]; simp [leB_length]; omega) (by rw [e]; exact snap_range a l hb) k (by rw [e]; simp [leB_length]; omega), e]
  rfl
theorem EncodeSnapshot_pure : laws_FnExactEncodeSnapshot.Pure := by
  intro a l ha hm hs hw
  by_cases hc : (l.length : Int) > 1048576
  · exact ⟨0, by unfold laws_FnExactEncodeSnapshot.f; rw [if_pos hc]⟩
  have hb : ∀ x ∈ l, 0 ≤ x ∧ x < 256 := by
    intro x hx
    have := hw x hx
    simp [Lit.wf, IntKind.min, IntKind.max, IntKind.bits, IntKind.signed] at this
    omega
  have ha' : 0 ≤ a ∧ a < 18446744073709551616 := by
    simp [Lit.wf, IntKind.min, IntKind.max, IntKind.bits, IntKind.signed] at ha
    omega
  refine ⟨3000000, ?_⟩
  have s1 := spec_snap_f a l ha'.1 ha'.2 (by omega) hb 3000000 (by omega)
  have i1 := impl_snap_f a l ha'.1 ha'.2 (by omega) hb 3000000 (by omega)
  have hn := snapB_length a l
  have t1 := toByteS_f l (by omega) 3000000 (by omega)
  have q1 := eqByteS_self (snapB a l) (by omega) 3000000 (by omega)
  have q2 := eqByteS_self l (by omega) 3000000 (by omega)
  have m1 : laws_markByteS.f 3000000 l 1 = some (((1 + l.length : Nat) : Int), marksB l.length 1) := markByteS_f l 1 (by omega) 3000000 (by omega)
  have m2 : laws_markByteS.f 3000000 (snapB a l) 1 = some (((1 + (snapB a l).length : Nat) : Int), marksB (snapB a l).length 1) := markByteS_f _ 1 (by omega) 3000000 (by omega)
  have h2 : laws_heldByteS.f 3000000 (marksB (snapB a l).length 1) 1 = some (((1 + (snapB a l).length : Nat) : Int)) := heldByteS_f _ 1 (by omega) 3000000 (by omega)
  unfold laws_FnExactEncodeSnapshot.f
  rw [if_neg hc]
  simp only [t1, s1, i1, q1, q2, m1, m2, h2, Option.bind_some, if_true]
  repeat first
    | rfl
    | rw [if_neg (by omega)]
theorem rowEncodeSnapshot (a : Int) (A : Option Addr) (c : Nat) (l : List Int) (w : World) (ha : (Lit.int .u64 a).wf = true) (hr : Kd.C (Kd.int .u8) w A l.length l) (hc : l.length ≤ c) (hl : l.length ≤ 140737488351232) (hw : ∀ n ∈ l, (Lit.int .u8 n).wf = true) :
    Calls Try.prog 4 #[.int .u64 a, .slice A l.length c] w fun e w' => e = .returned (.bool true) ∧ Below w.heap.size w w' := by
  obtain ⟨k, h⟩ := EncodeSnapshot_pure a l ha (by simp [maxLen]; omega) (by omega) hw
  exact laws_FnExactEncodeSnapshot.calls k a A c l w hr hc h
end Go.Proofs.Ytbapokpkgonjkaa.Print

/- The machine's side of the statements: what a Go function comes to, as a Lean function, and that it does so (written by this session's own program over the kit's printer; Lean checks it). -/
namespace Go.Proofs.Ytbapokpkgonjkaa.Print
open Go.RowKit Go.Proofs.YtbapokpkgonjkaaW.PrintWords Go.Proofs.YtbapokpkgonjkaaW.PrintLast Go.Proofs.YtbapokpkgonjkaaW.PrintMore
attribute [local go_sem] max2_int min2_int max_two min_two max_three min_three max_four min_four   -- for this text's walks alone
set_option linter.unusedVariables false
set_option linter.unusedSimpArgs false

/-! ### bytes_Equal: function 70 -/
def bytes_Equal.f (l0 : List Int) (l1 : List Int) : Option (Bool) := some ((strOfNums l0).toList == (strOfNums l1).toList)
set_option maxHeartbeats 8000000 in
set_option maxRecDepth 100000 in
theorem bytes_Equal.calls (A0 : Option Addr) (c0 : Nat) (l0 : List Int) (A1 : Option Addr) (c1 : Nat) (l1 : List Int) (r : Bool) (w : World) (hr0 : Kd.C (Kd.int .u8) w A0 l0.length l0) (hc0 : l0.length ≤ c0) (hr1 : Kd.C (Kd.int .u8) w A1 l1.length l1) (hc1 : l1.length ≤ c1) (h : bytes_Equal.f l0 l1 = some r) :
    Calls Try.prog 70 #[.slice A0 l0.length c0, .slice A1 l1.length c1] w fun e w' => e = .returned (.bool r) ∧ Drawn0 w w' := by
  have HR0 := Aside0.mk hr0
  have HC0 := Aside0.mk hc0
  clear hr0 hc0
  have HR1 := Aside0.mk hr1
  have HC1 := Aside0.mk hc1
  clear hr1 hc1
  have H : (some ((strOfNums l0).toList == (strOfNums l1).toList)) = some r := h
  clear h
  obtain rfl := Option.some.inj H
  have hcv3 := Kd.C_string (P := Try.prog) (A := A0) (c := c0) Try.underlying22 Try.underlying5 Try.underlying9 HR0.out
  have hcv4 := Kd.C_string (P := Try.prog) (A := A1) (c := c1) Try.underlying22 Try.underlying5 Try.underlying9 HR1.out
  go_enter Try.func70, Try.ntmps70
  go_wp2
  go_ret
  exact ⟨by first | rfl | (simp; done) | (simp [*]; done), by repeat (first | exact Drawn0.refl _ | apply Drawn0.step)⟩

end Go.Proofs.Ytbapokpkgonjkaa.Print

/- The machine's side of the statements: what a Go function comes to, as a Lean function, and that it does so (written by this session's own program over the kit's printer; Lean checks it). -/
namespace Go.Proofs.Ytbapokpkgonjkaa.Print
open Go.RowKit Go.Proofs.YtbapokpkgonjkaaW.PrintWords Go.Proofs.YtbapokpkgonjkaaW.PrintLast Go.Proofs.YtbapokpkgonjkaaW.PrintMore
attribute [local go_sem] max2_int min2_int max_two min_two max_three min_three max_four min_four   -- for this text's walks alone
set_option linter.unusedVariables false
set_option linter.unusedSimpArgs false

/-! ### spec_l2number: function 67 -/
def spec_l2number.f : Nat → List Int → Option (Int)
  | 0, _ => none
  | k + 1, l0 => if (l0.length : Int) = 0 then (some 0) else (if 0 < (l0.length : Int) then (if 1 ≤ (l0.length : Int) then ((spec_l2number.f k (l0.drop 1)).bind fun t376 => (some (IntKind.u64.wrap ((IntKind.u64.wrap (rd l0 0)) + (IntKind.u64.wrap (256 * t376)))))) else (none)) else (none))
theorem spec_l2number.mono_l : ∀ k, (∀ y0, LeO (spec_l2number.f k y0) (spec_l2number.f (k + 1) y0))
  | 0 => fun _ r h => by simp [spec_l2number.f] at h
  | k + 1 => by
    have ih0 := spec_l2number.mono_l k
    · intro y0
      unfold spec_l2number.f
      repeat' first
      | (with_reducible exact ih0 _)
      | (with_reducible exact LeO.refl _)
      | (with_reducible exact LeO.none _)
      | (with_reducible refine LeO.ite ?_ ?_)
      | (with_reducible refine LeO.bind ?_ (fun _ => ?_))
      | exact ih0 _
      | exact LeO.none _
      | refine LeO.ite ?_ ?_
      | refine LeO.bind ?_ (fun _ => ?_)
theorem spec_l2number.mono : ∀ a0 k, LeO (spec_l2number.f k a0) (spec_l2number.f (k + 1) a0) := by
  intro a0 k
  have ih0 := spec_l2number.mono_l k
  exact ih0 a0
def spec_l2number.T3 : Bool × List (List Nat × List Nat) := (true, [([], []), ([0], [0]), ([1], [1]), ([2], [2]), ([], []), ([4], [4]), ([5], [5]), ([6], [6]), ([3, 7], [3, 7]), ([8, 6, 0, 1, 2, 3, 4, 5, 6, 7, 8], [8])])
def spec_l2number.B3 : List Nat := [0, 1, 3, 7, 0, 16, 48, 112, 255, 511]
theorem spec_l2number.tab3 : rtab .any (opsOf Try.f67 3) = spec_l2number.T3 := by kernel_rfl
theorem spec_l2number.bits3 : waitsOk spec_l2number.T3.2 spec_l2number.B3 = true := by kernel_rfl
set_option maxHeartbeats 8000000 in
set_option maxRecDepth 100000 in
theorem spec_l2number.calls (k : Nat) : ∀ (A0 : Option Addr) (c0 : Nat) (l0 : List Int) (r : Int) (w : World) (hr0 : Kd.C (Kd.int .u8) w A0 l0.length l0) (hc0 : l0.length ≤ c0) (h : spec_l2number.f k l0 = some r),
    Calls Try.prog 67 #[.slice A0 l0.length c0] w fun e w' => e = .returned (.int .u64 r) ∧ Below w.heap.size w w' := by
  induction k using Nat.strongRecOn with
  | _ k ih =>
  intro A0 c0 l0 r w hr0 hc0 h
  cases k with
  | zero => exact absurd h (by simp [spec_l2number.f])
  | succ k =>
  simp only [spec_l2number.f] at h
  have HR0 := Aside0.mk hr0
  have HC0 := Aside0.mk hc0
  clear hr0 hc0
  have HB := Aside0.mk (Below.refl w.heap.size w)
  have H : (if (l0.length : Int) = 0 then (some 0) else (if 0 < (l0.length : Int) then (if 1 ≤ (l0.length : Int) then ((spec_l2number.f k (l0.drop 1)).bind fun t376 => (some (IntKind.u64.wrap ((IntKind.u64.wrap (rd l0 0)) + (IntKind.u64.wrap (256 * t376)))))) else (none)) else (none))) = some r := h
  clear h
  by_cases c2 : (l0.length : Int) = 0
  · rw [if_pos c2] at H
    have c2b0 : ((l0.length : Int) == 0) = true := beq_iff_eq.mpr c2
    have c2b1 : ((l0.length : Int) != 0) = false := bne_eq_false_iff_eq.mpr c2
    clear c2
    obtain rfl := Option.some.inj H
    go_enter Try.func67, Try.ntmps67
    go_wp2
    go_ret
    exact ⟨by first | rfl | (simp [errW_none, errW_some] <;> rfl) | (simp [*, errW_none, errW_some] <;> rfl), by repeat (first | (with_reducible first | exact HB.out | apply below_alloc | apply pw_below_drewN | apply below_drew1) | exact HB.out)⟩
  · rw [if_neg c2] at H
    have c2b0 : ((l0.length : Int) == 0) = false := beq_eq_false_iff_ne.mpr c2
    have c2b1 : ((l0.length : Int) != 0) = true := bne_iff_ne.mpr c2
    have c2b2 : ¬ (l0 = []) := fun h_ => c2 (by rw [h_]; rfl)
    by_cases c3 : 0 < (l0.length : Int)
    · rw [if_pos c3] at H
      have c3b0 : decide (0 < (l0.length : Int)) = true := decide_eq_true c3
      have c3b1 : decide (0 < l0.length) = true := decide_eq_true (by omega)
      clear c3
      by_cases c4 : 1 ≤ (l0.length : Int)
      · rw [if_pos c4] at H
        have c4b0 := eq_true c4
        have c4b1 : decide (1 ≤ (l0.length : Int)) = true := decide_eq_true c4
        clear c4
        replace H := Option.bind_eq_some_iff.mp H
        obtain ⟨t376, A50, H⟩ := H
        replace H : (some (IntKind.u64.wrap ((IntKind.u64.wrap (rd l0 0)) + (IntKind.u64.wrap (256 * t376))))) = some r := H
        have A5 := Aside0.mk A50
        clear A50
        obtain rfl := Option.some.inj H
        go_enter Try.func67, Try.ntmps67
        try go_wp2
        have n0_ := Aside0.mk (below_drew1 HB.out)
        clear HB
        have HB := n0_
        clear n0_
        have p374 : 0 ≤ (0 : Int) := (by omega)
        have q374 : 0 < (l0.length : Int) := of_decide_eq_true (by first | (with_reducible assumption) | assumption)
        obtain ⟨ad374, e374, hx374_0⟩ := Kd.at_int HR0.out 0 p374 q374
        have hw374_0 := hx374_0
        (try rw [show ((0 : Int)).toNat = 0 from rfl] at hw374_0)
        (try rw [show 0 * 1 = 0 from rfl] at hw374_0)
        (try rw [Addr.add_zero'] at hw374_0)
        cases e374
        have qi374 : (0 < l0.length) = True := eq_true (by omega)
        (try rw [show ((0 : Int)).toNat = 0 from rfl] at hx374_0)
        (try rw [Addr.add_zero'] at hx374_0)
        replace hx374_0 := (HB.out.cell (World.block_lt_of_cell? w _ hx374_0)).trans hx374_0
        replace p374 := eq_true p374
        replace q374 := eq_true q374
        obtain ⟨i07, hi07, _, hsz7, _⟩ := info_parts info5
        obtain ⟨A7, hcut7, hA7, hC7⟩ := print_drop_of (P := Try.prog) (Value.int .u8) 0 22 5 .i64 Try.underlying22 hi07 hsz7 (some ad374) c0 l0 1 (by omega) (of_decide_eq_true (by first | (with_reducible assumption) | assumption)) HC0.out
        have HR375 := Aside0.mk (Kd.C_of_reads (h1 := fun _ => rfl) (hA7 _ (Kd.reads_of_C HR0.out)))
        have HC375 := Aside0.mk hC7
        clear hA7 hC7 hi07 hsz7
        refine start_ (n := 10) (S := fun w' => w'.cell? ad374 = some (.int .u8 (rd l0 0))) (ds := []) #[false, false, false, false, false, false, false, false, false, false] (by kernel_rfl) rfl rfl (((HB.out.cell (World.block_lt_of_cell? w _ hw374_0)).trans hw374_0)) (fun hHeld => ?_); refine with_tabW spec_l2number.tab3 spec_l2number.bits3 (fun HT_ HW_ => ?_)
        generalize w.drew = w6 at HB HR375 hx374_0 hHeld ⊢
        refine pure_ (i := 0) (N := some 6) (v := ?_) (a' := ?_) #[true, false, false, false, false, false, false, false, false, false] rfl rfl (any_of HT_.out (by kernel_rfl)) (fun _ _ _ h => h) (Or.inl ⟨by rfl, ?_⟩) ?_ ?_
        rotate_left
        · intro w'
          go_simp
          with_reducible rfl
        rotate_left
        · simp only [Act.put, List.setIfInBounds_toArray, List.set_cons_zero, List.set_cons_succ, i64_w, i32_w]
          rfl
        refine pure_ (i := 1) (N := some 7) (v := ?_) (a' := ?_) #[true, true, false, false, false, false, false, false, false, false] rfl rfl (any_of HT_.out (by kernel_rfl)) (fun _ _ _ h => h) (Or.inl ⟨by rfl, ?_⟩) ?_ ?_
        rotate_left
        · intro w'
          go_simp
          with_reducible rfl
        rotate_left
        · simp only [Act.put, List.setIfInBounds_toArray, List.set_cons_zero, List.set_cons_succ, i64_w, i32_w]
          rfl
        refine pure_ (i := 4) (N := some 10) (v := ?_) (a' := ?_) #[true, true, false, false, true, false, false, false, false, false] rfl rfl (any_of HT_.out (by kernel_rfl)) (fun _ _ _ h => h) (Or.inl ⟨by rfl, ?_⟩) ?_ ?_
        rotate_left
        · intro w'
          go_simp
          with_reducible rfl
        rotate_left
        · simp only [Act.put, List.setIfInBounds_toArray, List.set_cons_zero, List.set_cons_succ, i64_w, i32_w]
          rfl
        refine pure_ (i := 5) (N := some 11) (v := ?_) (a' := ?_) #[true, true, false, false, true, true, false, false, false, false] rfl rfl (any_of HT_.out (by kernel_rfl)) (fun _ _ _ h => h) (Or.inl ⟨by rfl, ?_⟩) ?_ ?_
        rotate_left
        · intro w'
          go_simp
          with_reducible rfl
        rotate_left
        · simp only [Act.put, List.setIfInBounds_toArray, List.set_cons_zero, List.set_cons_succ, i64_w, i32_w]
          rfl
        refine take_ (i := 2) (N := some 8) (v := ?_) (a' := ?_) #[true, true, true, false, true, true, false, false, false, false] rfl rfl (take_ofW HT_.out HW_.out (by kernel_rfl)) (fun _ _ _ h => h) (Or.inl ⟨by rfl, ?_⟩) hHeld ?_ ?_
        rotate_left
        · intro w' s0
          go_simp
          with_reducible rfl
        rotate_left
        · simp only [Act.put, List.setIfInBounds_toArray, List.set_cons_zero, List.set_cons_succ, i64_w, i32_w]
          rfl
        refine pure_ (i := 3) (N := some 9) (v := ?_) (a' := ?_) #[true, true, true, true, true, true, false, false, false, false] rfl rfl (any_of HT_.out (by kernel_rfl)) (fun _ _ _ h => h) (Or.inl ⟨by rfl, ?_⟩) ?_ ?_
        rotate_left
        · intro w'
          go_simp
          with_reducible rfl
        rotate_left
        · simp only [Act.put, List.setIfInBounds_toArray, List.set_cons_zero, List.set_cons_succ, i64_w, i32_w]
          rfl
        refine one_ (i := 6) (N := some 12) #[true, true, true, true, true, true, true, false, false, false] rfl rfl (one_of HT_.out (by kernel_rfl)) (by decide) (fun K hK => ?_)
        refine goes_ Try.func67 (by kernel_rfl) rfl #[.slice A7 (l0.drop 1).length (c0 - 1)] (by rfl) rfl rfl (by (try simp only [List.map_toArray, List.map_cons, List.map_nil]); first | done | (rw [show (l0.drop 1).length = (l0.length - 1) from List.length_drop] <;> rfl) | rfl | (simp only [List.length_drop, List.length_take]; rfl)) ?_
        with_reducible refine (ih k (by omega) _ _ (l0.drop 1) t376 _ ?side1 ?side2 A5.out).mono ?_
        (case side1 => repeat (first | exact (Kd.C_below HR375.out HB.out) | (with_reducible refine Kd.C_alloc ?_ _) | (with_reducible refine Kd.C_drewN ?_ _) | (with_reducible refine Kd.C_drew ?_)))
        (case side2 => exact HC375.out)
        rintro e w8 ⟨rfl, hb⟩
        refine ⟨_, rfl, ?_⟩
        have n0_ := Aside0.mk (below_step (by repeat (first | (with_reducible first | exact HB.out | apply below_alloc | apply pw_below_drewN | apply below_drew1) | exact HB.out)) hb)
        clear HB
        have HB := n0_
        clear n0_
        (try clear hb)
        (try clear hb2)
        (try clear hk)
        (try clear hi)
        refine hK.out _ _ (((HB.out.cell (World.block_lt_of_cell? w _ hw374_0)).trans hw374_0)) (fun hHeld => ?_)
        clear hK K
        refine norm_ (a' := ?_) ?_ ?_
        rotate_left
        · show Act.put _ (some 12) _ = _
          simp only [Act.put, List.setIfInBounds_toArray, List.set_cons_zero, List.set_cons_succ, i64_w, i32_w]
          rfl
        refine pure_ (i := 7) (N := some 13) (v := ?_) (a' := ?_) #[true, true, true, true, true, true, true, true, false, false] rfl rfl (any_of HT_.out (by kernel_rfl)) (fun _ _ _ h => h) (Or.inl ⟨by rfl, ?_⟩) ?_ ?_
        rotate_left
        · intro w'
          go_simp
          with_reducible rfl
        rotate_left
        · simp only [Act.put, List.setIfInBounds_toArray, List.set_cons_zero, List.set_cons_succ, i64_w, i32_w]
          rfl
        refine pure_ (i := 8) (N := some 14) (v := ?_) (a' := ?_) #[true, true, true, true, true, true, true, true, true, false] rfl rfl (any_of HT_.out (by kernel_rfl)) (fun _ _ _ h => h) (Or.inl ⟨by rfl, ?_⟩) ?_ ?_
        rotate_left
        · intro w'
          go_simp
          with_reducible rfl
        rotate_left
        · simp only [Act.put, List.setIfInBounds_toArray, List.set_cons_zero, List.set_cons_succ, i64_w, i32_w]
          rfl
        refine pure_ (i := 9) (N := some 2) (v := ?_) (a' := ?_) #[true, true, true, true, true, true, true, true, true, true] rfl rfl (any_of HT_.out (by kernel_rfl)) (fun _ _ _ h => h) (Or.inl ⟨by rfl, ?_⟩) ?_ ?_
        rotate_left
        · intro w'
          go_simp
          with_reducible rfl
        rotate_left
        · simp only [Act.put, List.setIfInBounds_toArray, List.set_cons_zero, List.set_cons_succ, i64_w, i32_w]
          rfl
        refine done_ (done_of HT_.out (by kernel_rfl)) ?_
        try go_wp2
        go_ret
        exact ⟨by first | rfl | (simp [errW_none, errW_some] <;> rfl) | (simp [*, errW_none, errW_some] <;> rfl), by repeat (first | (with_reducible first | exact HB.out | apply below_alloc | apply pw_below_drewN | apply below_drew1) | exact HB.out)⟩
      · rw [if_neg c4] at H
        exact absurd H (by simp)
    · rw [if_neg c3] at H
      exact absurd H (by simp)

end Go.Proofs.Ytbapokpkgonjkaa.Print

/- bytes.Clone at []byte: the answer is new memory that holds the same bytes. Condition: fewer than 2^47 bytes. -/
namespace Go.Proofs.Ytbapokpkgonjkaa.Print
open Go.RowKit Go.Proofs.YtbapokpkgonjkaaW.PrintWords Go.Proofs.YtbapokpkgonjkaaW.PrintLast Go.Proofs.YtbapokpkgonjkaaW.PrintMore
set_option linter.unusedVariables false
set_option linter.unusedSimpArgs false

theorem readsNone {α : Type} {R : α → List Value → Prop} {size : Nat} {w : World} {n : Nat} {l : List α} (h : ReadsRow R size w none n l) : l = [] := by
  rcases Nat.eq_zero_or_pos n with h0 | h0
  · exact List.eq_nil_of_length_eq_zero (by rw [h.1, h0])
  · obtain ⟨ad, e, _⟩ := h.2.2 h0
    cases e

theorem lit_empty (w : World) : Kd.R (Kd.int .u8) 5 (w.alloc (.cells #[] 5)) w.heap.size (fun _ => True) (.slice (some ⟨w.heap.size, 0, none⟩) 0 0) [] :=
  ⟨fun _ _ => trivial, [], own_lit w w.heap.size 5 .u8 [] (Nat.le_refl _) (by decide), ⟨rfl, fun j p h => by simp at h⟩⟩

def bytes_Clone.f (l0 : List Int) : Option (List Int) := if l0.length < 140737488355328 then some l0 else none
set_option maxHeartbeats 400000 in
set_option maxRecDepth 100000 in
theorem bytes_Clone.calls (A0 : Option Addr) (c0 : Nat) (l0 : List Int) (r : List Int) (w : World) (hr0 : Kd.C (Kd.int .u8) w A0 l0.length l0) (hc0 : l0.length ≤ c0) (h : bytes_Clone.f l0 = some r) :
    Calls Try.prog 71 #[.slice A0 l0.length c0] w fun e w' => ∃ v0_ : Value, e = .returned (v0_) ∧ Kd.R (Kd.int .u8) 5 w' w.heap.size (fun _ => True) v0_ r ∧ Below w.heap.size w w' := by
  unfold bytes_Clone.f at h
  split at h
  case isFalse => cases h
  rename_i hl0
  have HL := Aside0.mk hl0
  clear hl0
  obtain rfl := Option.some.inj h
  clear h
  have HR := Aside0.mk hr0
  clear hr0
  have ke : ∀ (a : Option Addr) (n c : Nat) (W : World), (binOp .eql 22 (.slice a n c) (.slice none 0 0)).run Try.prog W = .ok (.bool a.isNone) W := fun a n c W => Lib.run_eql_slice_nil W 22 5 a n c 0 0 Try.underlying22
  rcases A0 with _ | ad
  · obtain rfl := readsNone HR.out
    go_enter Try.func71, Try.ntmps71
    go_wp2_with fail
    go_ret
    exact ⟨_, rfl, Kd.R_nil _ _ _ _ _, Below.refl _ _⟩
  · go_enter Try.func71, Try.ntmps71
    go_wp2_with ((with_reducible refine gate_builtin (b := .append) (xs := #[.tmp 5, .tmp 6]) rfl ?_); at_builtin; refine Kd.R_append_rows (Kd.int .u8) (w0 := w) w.heap.size rfl (.tmp 5) (.tmp 6) 22 5 (.int .u8 0) 1 rfl Try.underlying22 info5 rfl (by decide) (by omega) (.slice (some ⟨w.heap.size, 0, none⟩) 0 0) ([] : List Int) l0 _ _ _ (fun _ => True) (fun _ => False) rfl rfl (lit_empty w) (Kd.C_alloc HR.out _) (fun _ _ h => h) (fun _ h => h.elim) (fun _ _ => trivial) (below_alloc (Below.refl _ _) _) (below_size (below_alloc (Below.refl _ _) _)) (by have := HL.out; simp only [List.length_nil]; omega) ?_; intro v1 w1 ho hb hg hat)
    go_ret
    exact ⟨_, rfl, ho, hb⟩

end Go.Proofs.Ytbapokpkgonjkaa.Print

/- DecodeSnapshot, the program's and the reference's, by hand. -/
namespace Go.Proofs.Ytbapokpkgonjkaa.Print
open Go.RowKit Go.Proofs.YtbapokpkgonjkaaW.PrintWords Go.Proofs.YtbapokpkgonjkaaW.PrintLast Go.Proofs.YtbapokpkgonjkaaW.PrintMore
set_option linter.unusedVariables false
set_option linter.unusedSimpArgs false

theorem bytesOf_inj {l m : List Int} (hl : ∀ x ∈ l, 0 ≤ x ∧ x < 256) (hm : ∀ x ∈ m, 0 ≤ x ∧ x < 256) (h : Lib.bytesOf l = Lib.bytesOf m) : l = m := by
  unfold Lib.bytesOf at h
  induction l generalizing m with
  | nil => cases m with
    | nil => rfl
    | cons y m => simp at h
  | cons x l ih => cases m with
    | nil => simp at h
    | cons y m =>
      simp only [List.map_cons, List.cons.injEq] at h
      have hx := hl x List.mem_cons_self
      have hy := hm y List.mem_cons_self
      have e : x = y := by
        have := congrArg UInt8.toNat h.1
        simp only [UInt8.toNat_ofNat'] at this
        omega
      rw [e, ih (fun z hz => hl z (List.mem_cons_of_mem _ hz)) (fun z hz => hm z (List.mem_cons_of_mem _ hz)) h.2]
theorem bytesEqual_f (l m : List Int) (hl : ∀ x ∈ l, 0 ≤ x ∧ x < 256) (hm : ∀ x ∈ m, 0 ≤ x ∧ x < 256) : bytes_Equal.f l m = some (decide (l = m)) := by
  unfold bytes_Equal.f
  rw [Lib.strOfNums_toList, Lib.strOfNums_toList]
  congr 1
  by_cases e : l = m
  · subst e
    simp
  · rw [decide_eq_false e]
    exact beq_eq_false_iff_ne.2 (fun h => e (bytesOf_inj hl hm h))
theorem snapB_range (a : Int) (l : List Int) (hb : ∀ x ∈ l, 0 ≤ x ∧ x < 256) : ∀ x ∈ snapB a l, 0 ≤ x ∧ x < 256 := by
  intro x hx
  unfold snapB at hx
  rcases List.mem_append.1 hx with hx | hx
  · exact snap_range a l hb x hx
  · exact leB_range _ _ x hx
/-- What a snapshot's bytes are read as. -/
def decF (l : List Int) : Int × List Int × Int := if l.length < 20 then (0, [], 13) else if snapB (leN ((l.take 12).drop 4)) ((l.take (l.length - 4)).drop 16) = l then (leN ((l.take 12).drop 4), (l.take (l.length - 4)).drop 16, 0) else (0, [], 13)

set_option maxHeartbeats 2000000 in
set_option maxRecDepth 100000 in
theorem impl_DecodeSnapshot.calls (A : Option Addr) (c : Nat) (l : List Int) (w : World) (h0 : Kd.C (Kd.int .u8) w A l.length l) (hc : l.length ≤ c) (hr : ∀ x ∈ l, 0 ≤ x ∧ x < 256) (hl2 : l.length ≤ 2097152) :
    Calls Try.prog 33 #[.slice A l.length c] w fun e w' => ∃ v1 : Value, e = .returned (.tuple #[.int .u64 (decF l).1, v1, .int .i64 (decF l).2.2]) ∧ Kd.R (Kd.int .u8) 5 w' w.heap.size (fun _ => True) v1 (decF l).2.1 ∧ Below w.heap.size w w' := by
  have R0 := Aside0.mk h0
  have HR := Aside0.mk hr
  clear h0 hr
  by_cases hl : l.length < 20
  · have d1 : decide (l.length < 20) = true := decide_eq_true (by omega)
    have d2 : decide ((l.length : Int) < 20) = true := decide_eq_true (by omega)
    go_enter Try.func33, Try.ntmps33
    go_wp2_with fail
    unfold decF
    rw [if_pos hl]
    refine bodyPost_ret (v := .tuple #[.int .u64 0, .slice none 0 0, .int .i64 13]) ?_ rfl ?_
    · simp [results, Try.results33, go_sem]
    · exact ⟨_, rfl, Kd.R_nil _ _ _ _ _, by repeat (first | exact Below.refl _ _ | apply below_alloc)⟩
  have d1 : decide (l.length < 20) = false := decide_eq_false (by omega)
  have d2 : decide ((l.length : Int) < 20) = false := decide_eq_false (by omega)
  obtain ⟨i0, hi0, _, hsz0, _⟩ := info_parts info5
  obtain ⟨A1, hcut1, hA1, hC1⟩ := print_mid_of (P := Try.prog) (Value.int .u8) 0 22 5 .i64 .i64 Try.underlying22 hi0 hsz0 A c l 4 12 (by omega) (by omega) (by omega) hc
  obtain ⟨A2, hcut2, hA2, hC2⟩ := print_mid_of (P := Try.prog) (Value.int .u8) 0 22 5 .i64 .i64 Try.underlying22 hi0 hsz0 A c l 16 ((l.length : Int) - 4) (by omega) (by omega) (by omega) hc
  have hd : decF l = if snapB (leN ((l.take (12 : Int).toNat).drop (4 : Int).toNat)) ((l.take ((l.length : Int) - 4).toNat).drop (16 : Int).toNat) = l then (leN ((l.take (12 : Int).toNat).drop (4 : Int).toNat), (l.take ((l.length : Int) - 4).toNat).drop (16 : Int).toNat, 0) else (0, [], 13) := by
    unfold decF
    rw [if_neg hl, show ((l.length : Int) - 4).toNat = l.length - 4 by omega]
    rfl
  have n1 : impl_numberOf.f ((l.take (12 : Int).toNat).drop (4 : Int).toNat) = some (leN ((l.take (12 : Int).toNat).drop (4 : Int).toNat)) := by
    unfold impl_numberOf.f
    rw [if_pos ⟨by simp; omega, fun x hx => HR.out x (List.mem_of_mem_take (List.mem_of_mem_drop hx))⟩]
  have rg := leN_range ((l.take (12 : Int).toNat).drop (4 : Int).toNat) (fun x hx => HR.out x (List.mem_of_mem_take (List.mem_of_mem_drop hx)))
  rw [show ((l.take (12 : Int).toNat).drop (4 : Int).toNat).length = 8 by simp; omega] at rg
  have rb : ∀ x ∈ (l.take ((l.length : Int) - 4).toNat).drop (16 : Int).toNat, 0 ≤ x ∧ x < 256 := fun x hx => HR.out x (List.mem_of_mem_take (List.mem_of_mem_drop hx))
  have q2l : ((l.take ((l.length : Int) - 4).toNat).drop (16 : Int).toNat).length ≤ 2097152 := by simp; omega
  generalize (l.take (12 : Int).toNat).drop (4 : Int).toNat = q1 at hcut1 hA1 hC1 hd n1 rg
  generalize (l.take ((l.length : Int) - 4).toNat).drop (16 : Int).toNat = q2 at hcut2 hA2 hC2 hd rb q2l
  generalize leN q1 = s at hd n1 rg
  have e1 := impl_snap_f s q2 rg.1 (by have := rg.2; omega) (by omega) rb 3000000 (by omega)
  have b1 := bytesEqual_f (snapB s q2) l (snapB_range s q2 rb) HR.out
  generalize snapB s q2 = t at hd e1 b1
  have R1 := Aside0.mk (Kd.C_of_reads (h1 := fun _ => rfl) (hA1 _ (Kd.reads_of_C R0.out)))
  have R2 := Aside0.mk (Kd.C_of_reads (h1 := fun _ => rfl) (hA2 _ (Kd.reads_of_C R0.out)))
  have N1 := Aside0.mk n1
  have E1 := Aside0.mk e1
  have B1 := Aside0.mk b1
  have HD := Aside0.mk hd
  have hw : wrap64 ((l.length : Int) - 4) = (l.length : Int) - 4 := by unfold wrap64; omega
  clear hA1 hA2 hi0 hsz0 n1 e1 b1 hd rb rg
  go_enter Try.func33, Try.ntmps33
  go_wp2_with fail
  go_quiet (first | (go_at_call 69; refine (impl_numberOf.calls A1 _ q1 s _ (by repeat (first | exact R1.out | (with_reducible refine Kd.C_drewN ?_ _) | (with_reducible refine Kd.C_drew ?_))) hC1 N1.out).mono ?_; rintro e w' ⟨rfl, ⟨nd, rfl⟩⟩; (try first | exact ⟨rfl, _, World.drewN_drewN _ _ _⟩ | exact ⟨rfl, _, Eq.trans (World.drewN_drewN _ _ _) (congrArg (World.drewN _) (Nat.add_assoc _ _ _))⟩)))
  go_wp2_with fail
  have hq : Below w.heap.size w (w.drewN nq) := pw_below_drewN (Below.refl _ _) _
  refine (impl_EncodeSnapshot.calls 3000000 s (fun k_ => k_ < w.heap.size) A2 _ q2 t _ (Kd.V_mk hC2 (Kd.F_below (Kd.C_F (Kd.heap_int .u8) R2.out) hq)) E1.out).mono ?_
  rintro e w2 ⟨v, rfl, ho, hb⟩
  obtain ⟨T, tc, rfl⟩ := Kd.R_slice ho
  have HB := Aside0.mk (below_step hq hb)
  have HO := Aside0.mk (Kd.R_reads' ho).2
  clear ho hb hq
  go_wp2_with fail
  refine (bytes_Equal.calls T tc t A c l _ _ HO.out.2 HO.out.1 (Kd.C_below R0.out HB.out) hc B1.out).mono ?_
  rintro e w3 ⟨rfl, hb⟩
  replace HB := Aside0.mk (below_step HB.out hb.below)
  clear hb
  by_cases ht : t = l
  · have ht' : decide (t = l) = true := decide_eq_true ht
    rw [ht']
    go_wp2_with fail
    refine (bytes_Clone.calls A2 (c - (16 : Int).toNat) q2 q2 _ (Kd.C_below R2.out HB.out) hC2 (by unfold bytes_Clone.f; rw [if_pos (by omega)])).mono ?_
    rintro e w4 ⟨v4, rfl, ho, hb⟩
    have HB4 := Aside0.mk (below_step HB.out hb)
    have HV := Aside0.mk (Kd.R_lower ho (below_size HB.out))
    clear ho hb
    go_wp2_with fail
    rw [HD.out, if_pos ht]
    refine bodyPost_ret (v := .tuple #[.int .u64 s, v4, .int .i64 0]) ?_ rfl ?_
    · simp [results, Try.results33, go_sem]
    · exact ⟨_, rfl, HV.out, HB4.out⟩
  · have ht' : decide (t = l) = false := decide_eq_false ht
    rw [ht']
    go_wp2_with fail
    rw [HD.out, if_neg ht]
    refine bodyPost_ret (v := .tuple #[.int .u64 0, .slice none 0 0, .int .i64 13]) ?_ rfl ?_
    · simp [results, Try.results33, go_sem]
    · exact ⟨_, rfl, Kd.R_nil _ _ _ _ _, HB.out⟩
theorem spec_l1copy_f (l : List Int) (h : l.length ≤ 2097152) : spec_l1copy.f l = some l := by
  unfold spec_l1copy.f
  rw [if_pos (by simp; omega)]
  simp
theorem number_f (l : List Int) : ∀ (k : Nat), l.length ≤ 8 → (∀ x ∈ l, 0 ≤ x ∧ x < 256) → l.length < k → spec_l2number.f k l = some (leN l) := by
  induction l with
  | nil =>
    intro k _ _ hk
    obtain ⟨k, rfl⟩ : ∃ m, k = m + 1 := ⟨k - 1, by omega⟩
    simp [spec_l2number.f, leN]
  | cons x l ih =>
    intro k hl hr hk
    obtain ⟨k, rfl⟩ : ∃ m, k = m + 1 := ⟨k - 1, by omega⟩
    simp only [List.length_cons] at hl hk
    have hx := hr x List.mem_cons_self
    have hr' : ∀ y ∈ l, 0 ≤ y ∧ y < 256 := fun y hy => hr y (List.mem_cons_of_mem _ hy)
    have rg := leN_range l hr'
    obtain ⟨v0, v1⟩ : 0 ≤ leN l ∧ leN l < 72057594037927936 := by
      refine ⟨rg.1, Int.lt_of_lt_of_le rg.2 ?_⟩
      have h7 : l.length ≤ 7 := by omega
      have this : 256 ^ l.length ≤ 72057594037927936 := Nat.le_trans (Nat.pow_le_pow_right (n := 256) (by decide) h7) (by decide)
      rw [show (256 : Int) ^ l.length = ((256 ^ l.length : Nat) : Int) by rw [Int.natCast_pow]; rfl]
      generalize 256 ^ l.length = z at this
      omega
    have ih' := ih k (by omega) hr' (by omega)
    clear rg hr hr' ih
    simp only [spec_l2number.f]
    rw [if_neg (by simp only [List.length_cons]; omega), if_pos (by simp only [List.length_cons]; omega), if_pos (by simp only [List.length_cons]; omega), List.drop_succ_cons, List.drop_zero, ih', Option.bind_some]
    have e0 : rd (x :: l) 0 = x := rfl
    rw [e0, u64_of x hx.1 (by omega), u64_of (256 * leN l) (by omega) (by omega), u64_of _ (by omega) (by omega)]
    rfl
set_option maxHeartbeats 2000000 in
set_option maxRecDepth 100000 in
theorem spec_DecodeSnapshot.calls (A : Option Addr) (c : Nat) (l : List Int) (w : World) (h0 : Kd.C (Kd.int .u8) w A l.length l) (hc : l.length ≤ c) (hr : ∀ x ∈ l, 0 ≤ x ∧ x < 256) (hl2 : l.length ≤ 2097152) :
    Calls Try.prog 32 #[.slice A l.length c] w fun e w' => ∃ v1 : Value, e = .returned (.tuple #[.int .u64 (decF l).1, v1, .int .i64 (decF l).2.2]) ∧ Kd.R (Kd.int .u8) 5 w' w.heap.size (fun _ => True) v1 (decF l).2.1 ∧ Below w.heap.size w w' := by
  have R0 := Aside0.mk h0
  have HR := Aside0.mk hr
  clear h0 hr
  by_cases hl : l.length < 20
  · have d1 : decide (l.length < 20) = true := decide_eq_true (by omega)
    have d2 : decide ((l.length : Int) < 20) = true := decide_eq_true (by omega)
    go_enter Try.func32, Try.ntmps32
    go_wp2_with fail
    unfold decF
    rw [if_pos hl]
    refine bodyPost_ret (v := .tuple #[.int .u64 0, .slice none 0 0, .int .i64 13]) ?_ rfl ?_
    · simp [results, Try.results32, go_sem]
    · exact ⟨_, rfl, Kd.R_nil _ _ _ _ _, by repeat (first | exact Below.refl _ _ | apply below_alloc)⟩
  have d1 : decide (l.length < 20) = false := decide_eq_false (by omega)
  have d2 : decide ((l.length : Int) < 20) = false := decide_eq_false (by omega)
  obtain ⟨i0, hi0, _, hsz0, _⟩ := info_parts info5
  obtain ⟨A1, hcut1, hA1, hC1⟩ := print_mid_of (P := Try.prog) (Value.int .u8) 0 22 5 .i64 .i64 Try.underlying22 hi0 hsz0 A c l 4 12 (by omega) (by omega) (by omega) hc
  obtain ⟨A2, hcut2, hA2, hC2⟩ := print_mid_of (P := Try.prog) (Value.int .u8) 0 22 5 .i64 .i64 Try.underlying22 hi0 hsz0 A c l 16 ((l.length : Int) - 4) (by omega) (by omega) (by omega) hc
  have hd : decF l = if snapB (leN ((l.take (12 : Int).toNat).drop (4 : Int).toNat)) ((l.take ((l.length : Int) - 4).toNat).drop (16 : Int).toNat) = l then (leN ((l.take (12 : Int).toNat).drop (4 : Int).toNat), (l.take ((l.length : Int) - 4).toNat).drop (16 : Int).toNat, 0) else (0, [], 13) := by
    unfold decF
    rw [if_neg hl, show ((l.length : Int) - 4).toNat = l.length - 4 by omega]
    rfl
  have n1 := number_f ((l.take (12 : Int).toNat).drop (4 : Int).toNat) 3000000 (by simp; omega) (fun x hx => HR.out x (List.mem_of_mem_take (List.mem_of_mem_drop hx))) (by simp; omega)
  have rg := leN_range ((l.take (12 : Int).toNat).drop (4 : Int).toNat) (fun x hx => HR.out x (List.mem_of_mem_take (List.mem_of_mem_drop hx)))
  rw [show ((l.take (12 : Int).toNat).drop (4 : Int).toNat).length = 8 by simp; omega] at rg
  have rb : ∀ x ∈ (l.take ((l.length : Int) - 4).toNat).drop (16 : Int).toNat, 0 ≤ x ∧ x < 256 := fun x hx => HR.out x (List.mem_of_mem_take (List.mem_of_mem_drop hx))
  have q2l : ((l.take ((l.length : Int) - 4).toNat).drop (16 : Int).toNat).length ≤ 2097152 := by simp; omega
  generalize (l.take (12 : Int).toNat).drop (4 : Int).toNat = q1 at hcut1 hA1 hC1 hd n1 rg
  generalize (l.take ((l.length : Int) - 4).toNat).drop (16 : Int).toNat = q2 at hcut2 hA2 hC2 hd rb q2l
  generalize leN q1 = s at hd n1 rg
  have e1 := spec_snap_f s q2 rg.1 (by have := rg.2; omega) (by omega) rb 3000000 (by omega)
  have b1 : Lib.bytesOf (snapB s q2) = Lib.bytesOf l → snapB s q2 = l := bytesOf_inj (snapB_range s q2 rb) HR.out
  generalize snapB s q2 = t at hd e1 b1
  have R1 := Aside0.mk (Kd.C_of_reads (h1 := fun _ => rfl) (hA1 _ (Kd.reads_of_C R0.out)))
  have R2 := Aside0.mk (Kd.C_of_reads (h1 := fun _ => rfl) (hA2 _ (Kd.reads_of_C R0.out)))
  have N1 := Aside0.mk n1
  have E1 := Aside0.mk e1
  have B1 := Aside0.mk b1
  have HD := Aside0.mk hd
  have C1 := spec_l1copy_f q2 (by omega)
  have hw : wrap64 ((l.length : Int) - 4) = (l.length : Int) - 4 := by unfold wrap64; omega
  clear hA1 hA2 hi0 hsz0 n1 e1 b1 hd rb rg
  go_enter Try.func32, Try.ntmps32
  go_wp2_with fail
  refine (spec_l2number.calls 3000000 A1 _ q1 s _ R1.out hC1 N1.out).mono ?_
  rintro e w1 ⟨rfl, hb⟩
  have HB := Aside0.mk (below_step (Below.refl w.heap.size w) hb)
  clear hb
  go_wp2_with fail
  refine (spec_l1copy.calls A2 _ q2 q2 _ (Kd.C_below R2.out HB.out) hC2 C1).mono ?_
  rintro e w2 ⟨v, rfl, ho, hb⟩
  obtain ⟨B, d, rfl⟩ := Kd.R_slice ho
  have HV := Aside0.mk (Kd.R_lower ho (below_size HB.out))
  replace HB := Aside0.mk (below_step HB.out hb)
  clear ho hb
  go_wp2_with fail
  have hbq : ((strOfNums t).toList == (strOfNums l).toList) = decide (t = l) := by
    rw [Lib.strOfNums_toList, Lib.strOfNums_toList]
    by_cases e : t = l
    · subst e
      simp
    · rw [decide_eq_false e]
      exact beq_eq_false_iff_ne.2 (fun h => e (B1.out h))
  have hcv0 := Kd.C_string (P := Try.prog) (c := c) Try.underlying22 Try.underlying5 Try.underlying9 (Kd.C_drew (Kd.C_below R0.out HB.out))
  go_region_with (first | (go_at_call 20; refine (spec_EncodeSnapshot.calls 3000000 s B d q2 t _ (by repeat (first | exact (Kd.R_reads' HV.out).2.2 | refine Kd.C_drew ?_)) (Kd.R_reads' HV.out).2.1 E1.out).mono ?_; rintro e w3 ⟨v3, rfl, ho3, hb3⟩; obtain ⟨T, tc, rfl⟩ := Kd.R_slice ho3; have hb4 : Below w2.heap.size w2 w3 := (below_drew1 (Below.refl w2.heap.size w2)).trans hb3; have HB3 := Aside0.mk (below_step HB.out hb4); have HV3 := Aside0.mk (Kd.R_below HV.out hb4); have hcv := Kd.C_string (P := Try.prog) (c := tc) Try.underlying22 Try.underlying5 Try.underlying9 (Kd.R_reads' ho3).2.2; have hcv3 := Kd.C_string (P := Try.prog) (c := c) Try.underlying22 Try.underlying5 Try.underlying9 (Kd.C_below R0.out HB3.out); clear ho3 hb3 hb4))
  all_goals
    (try rw [hbq])
    by_cases ht : t = l
    · have ht' : decide (t = l) = true := decide_eq_true ht
      rw [ht']
      go_wp2_with fail
      rw [HD.out, if_pos ht]
      refine bodyPost_ret (v := .tuple #[.int .u64 s, .slice B q2.length d, .int .i64 0]) ?_ rfl ?_
      · simp [results, Try.results32, go_sem]
      · exact ⟨_, rfl, HV3.out, HB3.out⟩
    · have ht' : decide (t = l) = false := decide_eq_false ht
      rw [ht']
      go_wp2_with fail
      rw [HD.out, if_neg ht]
      refine bodyPost_ret (v := .tuple #[.int .u64 0, .slice none 0 0, .int .i64 13]) ?_ rfl ?_
      · simp [results, Try.results32, go_sem]
      · exact ⟨_, rfl, Kd.R_nil _ _ _ _ _, HB3.out⟩
end Go.Proofs.Ytbapokpkgonjkaa.Print

/- What a log is read as, plainly. -/
namespace Go.Proofs.Ytbapokpkgonjkaa.Print
open Go.RowKit Go.Proofs.YtbapokpkgonjkaaW.PrintWords Go.Proofs.YtbapokpkgonjkaaW.PrintLast Go.Proofs.YtbapokpkgonjkaaW.PrintMore
set_option linter.unusedVariables false
set_option linter.unusedSimpArgs false
/-- b[lo:hi] -/
def cutL (b : List Int) (lo hi : Nat) : List Int := (b.take hi).drop lo
def recN (b : List Int) (p : Nat) : Nat := (leN (cutL b p (p + 2))).toNat
def recOf (b : List Int) (p : Nat) : S45 := ⟨leN (cutL b (p + 2) (p + 10)), cutL b (p + 10) (p + 10 + recN b p)⟩
/-- There is a whole record at p. -/
def recOk (b : List Int) (p : Nat) : Bool := decide (p + 14 ≤ b.length) && (decide (recN b p ≤ 1000) && (decide (p + 14 + recN b p ≤ b.length) && decide (recB (recOf b p).f0 (recOf b p).f1 = cutL b p (p + 14 + recN b p))))
/-- It goes on from the last one. -/
def goesOn (out : List S45) (r : S45) : Bool := match out.getLast? with
  | none => true
  | some x => !decide (x.f0 = 18446744073709551615) && decide (r.f0 = x.f0 + 1)
def logL : Nat → List Int → Nat → List S45 → List S45 × Nat
  | 0, _, p, out => (out, p)
  | k + 1, b, p, out => if recOk b p && goesOn out (recOf b p) then logL k b (p + (14 + recN b p)) (out ++ [recOf b p]) else (out, p)
/-- A log's records and how many bytes they take. -/
def logF (b : List Int) : List S45 × Nat := logL (b.length + 1) b 0 []
theorem recOk_room {b : List Int} {p : Nat} (h : recOk b p = true) : p + 14 + recN b p ≤ b.length := by
  simp only [recOk, Bool.and_eq_true, decide_eq_true_eq] at h
  exact h.2.2.1
theorem logL_bounds (b : List Int) : ∀ (k p : Nat) (out : List S45), p ≤ b.length → (∀ x ∈ out, x.f1.length ≤ 1000) → 14 * out.length ≤ p → (logL k b p out).2 ≤ b.length ∧ (∀ x ∈ (logL k b p out).1, x.f1.length ≤ 1000) ∧ 14 * (logL k b p out).1.length ≤ (logL k b p out).2 := by
  intro k
  induction k with
  | zero => intro p out hp ho hl; exact ⟨hp, ho, hl⟩
  | succ k ih =>
    intro p out hp ho hl
    simp only [logL]
    split
    · rename_i h
      simp only [Bool.and_eq_true] at h
      have hr := recOk_room h.1
      have h' := h.1
      simp only [recOk, Bool.and_eq_true, decide_eq_true_eq] at h'
      refine ih _ _ (by omega) ?_ (by simp only [List.length_append, List.length_singleton]; omega)
      intro x hx
      rcases List.mem_append.1 hx with hx | hx
      · exact ho x hx
      · rw [List.mem_singleton.1 hx]
        simp only [recOf, cutL, List.length_drop, List.length_take]
        omega
    · exact ⟨hp, ho, hl⟩
theorem logF_bounds (b : List Int) : (logF b).2 ≤ b.length ∧ (∀ x ∈ (logF b).1, x.f1.length ≤ 1000) ∧ 14 * (logF b).1.length ≤ (logF b).2 :=
  logL_bounds b _ 0 [] (by omega) (by simp) (by simp)
end Go.Proofs.Ytbapokpkgonjkaa.Print

/- A row of records that a call owns, as one fact; the statements' helpers on such rows, told by it. -/
namespace Go.Proofs.Ytbapokpkgonjkaa.Print
open Go.RowKit Go.Proofs.YtbapokpkgonjkaaW.PrintWords Go.Proofs.YtbapokpkgonjkaaW.PrintLast Go.Proofs.YtbapokpkgonjkaaW.PrintMore
set_option linter.unusedVariables false
set_option linter.unusedSimpArgs false
/-- The row xs, all its blocks from lo up to hi. -/
structure SK (w0 W : World) (lo hi : Nat) (A : Option Addr) (c : Nat) (xs : List S45) : Prop where
  r : Kd.S k45 45 W w0.heap.size (fun k => lo ≤ k ∧ k < hi) (.slice A xs.length c) xs
theorem SK.reads {w0 W : World} {lo hi : Nat} {A : Option Addr} {c : Nat} {xs : List S45} (h : SK w0 W lo hi A c xs) : Kd.C k45 W A xs.length xs ∧ xs.length ≤ c := ⟨(Kd.S_reads' h.r).2.2, (Kd.S_reads' h.r).2.1⟩
theorem SK.of {w0 w W : World} {v : Value} {xs : List S45} (h : Kd.S k45 45 W w.heap.size (fun _ => True) v xs) (hB : Below w0.heap.size w0 w) : ∃ A c, v = .slice A xs.length c ∧ SK w0 W w.heap.size W.heap.size A c xs := by
  obtain ⟨A, c, rfl⟩ := Kd.S_slice h
  exact ⟨A, c, rfl, ⟨Kd.S_lower (Kd.S_mono (Kd.S_bound h) (fun k hk => ⟨hk.2.1, hk.2.2.1⟩)) hB.size⟩⟩
theorem SK.below {w0 W W' : World} {lo hi : Nat} {A : Option Addr} {c : Nat} {xs : List S45} (h : SK w0 W lo hi A c xs) (hb : Below W.heap.size W W') : SK w0 W' lo hi A c xs := ⟨Kd.S_below h.r hb⟩
theorem SK.kept {w0 W W' : World} {lo hi : Nat} {A : Option Addr} {c : Nat} {xs : List S45} {S : Nat → Prop} (h : SK w0 W lo hi A c xs) (hk : Kept W W' S) (hS : ∀ k, lo ≤ k → k < hi → ¬ S k) : SK w0 W' lo hi A c xs := ⟨Kd.S_kept h.r hk (fun k h => hS k h.1 h.2)⟩
theorem endR_bound (xs : List S45) (h : ∀ x ∈ xs, x.f1.length ≤ 1000) : ∀ m, endR xs m ≤ m + xs.length * 1001 := by
  induction xs with
  | nil => intro m; simp [endR]
  | cons x r ih =>
    intro m
    have h1 := ih (fun y hy => h y (List.mem_cons_of_mem _ hy)) (m + 1 + x.f1.length)
    have h2 := h x List.mem_cons_self
    simp only [endR, List.length_cons]
    omega
theorem eqRecordS_sk (w0 w1 : World) (lo hi lo' hi' : Nat) (A : Option Addr) (c : Nat) (xs : List S45) (B : Option Addr) (d : Nat) (w : World) (hd : SK w0 w lo hi A c xs) (hd' : SK w1 w lo' hi' B d xs) (hn : xs.length ≤ 2097152) (hb : ∀ x ∈ xs, x.f1.length ≤ 1000) :
    Calls Try.prog 36 #[.slice A xs.length c, .slice B xs.length d] w fun e w' => e = .returned (.bool true) ∧ Below w.heap.size w w' :=
  laws_eqRecordS.calls 3000000 A c xs B d xs true w hd.reads.1 hd.reads.2 hd'.reads.1 hd'.reads.2 (eqRecordS_self xs (by omega) 1000 hb (by omega) 3000000 (by omega))
theorem markRecordS_sk (m : Nat) (w0 : World) (lo hi : Nat) (A : Option Addr) (c : Nat) (xs : List S45) (w : World) (hB : Below w0.heap.size w0 w) (hd : SK w0 w lo hi A c xs) (hm : endR xs m ≤ 100000000) :
    Calls Try.prog 37 #[.slice A xs.length c, .int .i64 m] w fun e w' => e = .returned (.int .i64 (endR xs m : Int)) ∧ SK w0 w' lo hi A c (markR xs m) ∧ Below w0.heap.size w0 w' ∧ Kept w w' (fun k => lo ≤ k ∧ k < hi) := by
  refine (laws_markRecordS_calls m w0 w _ A c xs hB hd.r hm).mono ?_
  rintro e w' ⟨rfl, hs, hb, hk⟩
  exact ⟨rfl, ⟨by rw [markR_length]; exact hs⟩, hb, hk⟩
theorem heldRecordS_sk (m : Nat) (w0 : World) (lo hi : Nat) (A : Option Addr) (c : Nat) (xs : List S45) (w : World) (hd : SK w0 w lo hi A c (markR xs m)) (hn : xs.length ≤ 2097152) (hm : endR xs m ≤ 100000000) :
    Calls Try.prog 38 #[.slice A xs.length c, .int .i64 m] w fun e w' => e = .returned (.int .i64 (endR xs m : Int)) ∧ Below w.heap.size w w' := by
  have h := laws_heldRecordS.calls 200000000 A c (markR xs m) m _ w hd.reads.1 hd.reads.2 (heldRecordS_f xs m (by omega) hm 200000000 (by omega))
  rw [markR_length] at h
  refine h.mono ?_
  rintro e w' ⟨rfl, hb⟩
  exact ⟨rfl, hb.below⟩
end Go.Proofs.Ytbapokpkgonjkaa.Print

/- The law of a range over an iterator that turns a box of its own between two rounds. -/
namespace Go.Proofs.Ytbapokpkgonjkaa.Print
open Go Go.RowKit
set_option linter.unusedVariables false
variable {F : Fence} {n : Nat} {P : Program}
/-- What the iterator may do between two rounds: draw, make blocks, write cells of the block b. -/
def Between (b : Nat) (A B : World) : Prop := (∃ row, A.grownBy B row ∧ ∀ r, row = some r → r = b) ∧ ∀ (cs : Array Value) (t : TypeId) (fr : Nat × Nat), A.heap[b]? = some (.cells cs t fr) → ∃ cs', B.heap[b]? = some (.cells cs' t fr)
/-- An invariant that the iterator's own steps leave true. -/
def Stays {β : Type} (b : Nat) (J : β → World → Prop) : Prop := ∀ s A B, J s A → Between b A B → J s B
/-- The block b holds cells. -/
def CellsAt (b : Nat) (W : World) : Prop := ∃ o : Obj, W.heap[b]? = some o ∧ o.isCells = true
theorem Between.others {b : Nat} {A B : World} (h : Between b A B) (hc : CellsAt b A) : KeepsOthers A B := by
  obtain ⟨⟨row, hg, hr⟩, _⟩ := h
  refine KeepsOthers.of_grownBy hg (fun j o hj ho => ?_)
  obtain ⟨o', ho', hc'⟩ := hc
  rw [hr j hj, ho'] at ho
  cases ho
  exact hc'
theorem rangeFunc_boxed {α : Type} {g : Operand} {ps : Array Tmp} {assign body : Code} {Q : Exit → Act → World → Prop} {a : Act} {w : World}
    (hro : F.round = none) (h1 : 1 ≤ n) {gf : Nat} {lb : Array Value} (hg : a.eval g = .func (.func gf) #[] lb) (hFg : F.fn gf) (eg : ∀ args w, (callFunc gf args).run P w = .ok (.enter gf args) w)
    {encs : α → Array Value} (b : Nat) (Kp : World → World → Prop) (ok : List α → α → World → World → Prop) (S Sp : List α → Prop) (hps : ∀ x, (encs x).size = ps.size) (hbw : b < w.heap.size)
    (hKt : ∀ {A B C : World}, Kp A B → Kp B C → Kp A C) (hKb : ∀ (W : World) (l : Nat) (o' : Obj), w.heap.size ≤ l → l < W.heap.size → Kp W (W.putObj l o'))
    (I Ix : List α → World → Prop) (hI : OwnFrom w.heap.size I) (hIx : OwnFrom w.heap.size Ix) (hIs : Stays b I) (hIxs : Stays b Ix) (hIc : ∀ s W, I s W → CellsAt b W) (hIxc : ∀ s W, Ix s W → CellsAt b W) (h0 : I [] w)
    (hseq : ∀ (l : Nat) (J Jx : List α → World → Prop) (W : World), Below w.heap.size w W → Stays b J → Stays b Jx →
      (∀ pre x Wi W1, J pre Wi → Between b Wi W1 → ok pre x Wi W1 → YieldAt F (n - 1 - 1) P l (encs x) W1 fun e W' => (e = .returned (.bool true) ∧ J (pre ++ [x]) W' ∧ Kp W1 W') ∨ (e = .returned (.bool false) ∧ Jx (pre ++ [x]) W')) →
      J [] W → CallsIn F (n - 1) P gf (#[.func (.yield l) #[] #[]] ++ lb) W fun e W' => (∃ v, e = .returned v) ∧ ((∃ xs, S xs ∧ J xs W') ∨ (∃ pre, Sp pre ∧ Jx pre W')))
    (Ax : List α → α → Act → World → Prop) (hAx : ∀ pre x a', OwnFrom w.heap.size (fun (_ : Unit) W => Ax pre x a' W)) (xid : Nat)
    (hassign : ∀ (l : Nat) (pre : List α) (x : α) (Wi W : World) (K : Act → World → Prop), I pre Wi → Between b Wi W → I pre W → ok pre x Wi W → (∀ a' W', KeepsOthers W W' → Kp W W' → Ax pre x a' W' → K a' W') →
      assign.wpIn (F.inRound l) (n - 1 - 1) P (Exit.then K (fun _ _ _ => False)) { tmps := (ps.zip (encs x)).foldl (fun t (p, v) => t.setIfInBounds p v) a.tmps, defers := [] } W)
    (hbody : ∀ (l : Nat) (pre : List α) (x : α) (a' : Act) (W : World), Ax pre x a' W → body.wpIn (F.inRound l) (n - 1 - 1) P (fun e _ W' => KeepsOthers W W' ∧ ((e = .normal ∧ Kp W W' ∧ I (pre ++ [x]) W') ∨ (e = .exit xid ∧ Ix (pre ++ [x]) W'))) a' W)
    (hdone : ∀ (D : Nat) (xs : List α) (W : World), w.heap.size ≤ D → S xs → I xs W → W.heap[D]? = some (.deferred (some [])) → Q .normal { a with defers := { target := .collected D, args := #[] } :: a.defers } W)
    (hstop : ∀ (D : Nat) (pre : List α) (W : World), w.heap.size ≤ D → Sp pre → Ix pre W → W.heap[D]? = some (.deferred (some [])) → (Code.exit xid).wpIn F n P Q { a with defers := { target := .collected D, args := #[] } :: a.defers } W) :
    (Code.rangeFunc g ps assign body).wpIn F n P Q a w := by
  apply wpIn_rangeFunc
  intro fn hfn
  rw [hro]
  -- the record of the loop, at the states that it comes through
  have hex : ∃ rec : LoopState → Option Code → Loop, rec = fun st pe => { state := st, pending := pe, fn, tmps := a.tmps, params := ps, assign, body, defers := w.heap.size } := ⟨_, rfl⟩
  obtain ⟨rec, hrec⟩ := hex
  have hpar : ∀ st pe, (rec st pe).params = ps := fun _ _ => by rw [hrec]
  generalize hD : w.heap.size = D at *
  have hex : ∃ V, (w.alloc (.deferred (some []))).alloc (.loop (rec .ready none)) = V := ⟨_, rfl⟩
  obtain ⟨V, hV⟩ := hex
  have hVb : Below D w V := by
    rw [← hV, ← hD]
    exact ((Below.refl _ w).alloc (Nat.le_refl _) _).alloc (by simp) _
  have hVl : V.heap[D + 1]? = some (.loop (rec .ready none)) := by
    rw [← hV, ← hD]
    have := World.alloc_heap_new (w.alloc (.deferred (some []))) (.loop (rec .ready none))
    rwa [World.size_alloc] at this
  have hVd : V.heap[D]? = some (.deferred (some [])) := by
    rw [← hV, ← hD]
    exact (Below.heap_alloc _ _ _ (by simp)).trans (World.alloc_heap_new w _)
  have hVi : I [] V := by
    rw [← hV]
    exact hI.alloc _ (hI.alloc _ h0)
  refine ⟨D + 1, [{ target := .collected D, args := #[] }], V, { target := .fn (.func gf) lb, args := #[.func (.yield (D + 1)) #[] #[]] }, V, gf, #[.func (.yield (D + 1)) #[] #[]] ++ lb, V, ?_, ?_, ?_, ?_, fun _ => h1, ?_⟩
  · have := run_enterLoop_outer (P := P) (w := w) fn a.tmps ps assign body
    rw [← hV, hrec]
    rw [hD] at this
    exact this
  · simp only [resolve, hg]
    simp [go_sem]
  · intro f' hf'
    simp [Target.leads] at hf'
    subst hf'
    exact hFg
  · simp [invoke, go_sem, eg]
  have hlb : ∀ {r : Nat} {A : World}, CellsAt b A → ∀ {o : Obj}, A.heap[r]? = some o → o.isCells = false → r ≠ b := fun hc o ho hn e => by
    obtain ⟨o', ho', hc'⟩ := hc
    rw [e, ho'] at ho
    cases ho
    rw [hn] at hc'
    cases hc'
  refine (hseq (D + 1) (fun s W => I s W ∧ (W.heap[D + 1]? = some (.loop (rec .ready none)) ∧ W.heap[D]? = some (.deferred (some []))))
    (fun s W => Ix s W ∧ (W.heap[D + 1]? = some (.loop (rec .done (some (.exit xid)))) ∧ W.heap[D]? = some (.deferred (some [])))) V hVb
    (fun s A B hs hb => ⟨hIs s A B hs.1 hb, (hb.others (hIc s A hs.1)).same _ _ hs.2.1 rfl, (hb.others (hIc s A hs.1)).same _ _ hs.2.2 rfl⟩)
    (fun s A B hs hb => ⟨hIxs s A B hs.1 hb, (hb.others (hIxc s A hs.1)).same _ _ hs.2.1 rfl, (hb.others (hIxc s A hs.1)).same _ _ hs.2.2 rfl⟩)
    ?_ ⟨hVi, hVl, hVd⟩).mono ?_
  · rintro pre x Wi W ⟨hi0, hl0, hk0⟩ hbt hx
    have hi := hIs _ _ _ hi0 hbt
    have hl := (hbt.others (hIc _ _ hi0)).same _ _ hl0 rfl
    have hk := (hbt.others (hIc _ _ hi0)).same _ _ hk0 rfl
    have hlt : D + 1 < W.heap.size := (Array.getElem?_eq_some_iff.1 hl).1
    have hy := run_yield (P := P) (args := encs x) hl (by rw [hpar]; exact hps x)
    refine ⟨fn, (ps.zip (encs x)).foldl (fun t (p, v) => t.setIfInBounds p v) a.tmps, assign, body, by rw [hrec] at hy; exact hy, ?_⟩
    refine roundIn_of_wpIn hfn (hassign _ pre x Wi W _ hi0 hbt hi hx ?_)
    intro a' W' hko' hkp' hax
    have hl' := hko'.same _ _ hl rfl
    have hk' := hko'.same _ _ hk rfl
    have hlt' : D + 1 < W'.heap.size := (Array.getElem?_eq_some_iff.1 hl').1
    refine ⟨_, run_beginRound hl' (by rw [hrec]), ?_⟩
    generalize hX : W'.putObj (D + 1) (.loop { rec .ready none with state := .busy }) = X
    have hXl : X.heap[D + 1]? = some (.loop { rec .ready none with state := .busy }) := by
      rw [← hX]
      exact World.putObj_heap_same hlt'
    have hXd : X.heap[D]? = some (.deferred (some [])) := by
      rw [← hX]
      exact (World.putObj_heap_other (by omega)).trans hk'
    have hXi : Ax pre x a' X := by
      rw [← hX]
      exact (hAx pre x a').putObj (s := ()) _ hax (by omega) hl' rfl
    have hXk : Kp W X := by
      rw [← hX]
      exact hKt hkp' (hKb _ _ _ (by omega) hlt')
    refine wpIn_mono (hbody _ pre x a' X hXi) ?_
    rintro e a3 Y ⟨hko, hp⟩
    have hYl := hko.same _ _ hXl rfl
    have hYd := hko.same _ _ hXd rfl
    have hYlt : D + 1 < Y.heap.size := (Array.getElem?_eq_some_iff.1 hYl).1
    rcases hp with ⟨rfl, hkp, hin⟩ | ⟨rfl, hin⟩
    · have hr := run_endRound (P := P) none hYl
      rw [hrec] at hr
      refine ⟨_, _, hr, .inl ⟨rfl, ⟨hI.putObj _ hin (by omega) hYl rfl, ?_, ?_⟩, hKt (hKt hXk hkp) (hKb _ _ _ (by omega) hYlt)⟩⟩
      · rw [World.putObj_heap_same hYlt, hrec]
        rfl
      · exact (World.putObj_heap_other (by omega)).trans hYd
    · have hr := run_endRound (P := P) (some (.exit xid)) hYl
      rw [hrec] at hr
      refine ⟨_, _, hr, .inr ⟨rfl, hIx.putObj _ hin (by omega) hYl rfl, ?_, ?_⟩⟩
      · rw [World.putObj_heap_same hYlt, hrec]
        rfl
      · exact (World.putObj_heap_other (by omega)).trans hYd
  · rintro e Y ⟨⟨v, rfl⟩, hp⟩
    rcases hp with ⟨xs, hS, hi, hl, hk⟩ | ⟨pre, hS, hi, hl, hk⟩
    · have hr := run_endLoop (P := P) hl (by rw [hrec]; simp)
      rw [hrec] at hr
      exact ⟨none, _, hr, hdone D xs _ (by omega) hS (hI.putObj _ hi (by omega) hl rfl) ((World.putObj_heap_other (by omega)).trans hk)⟩
    · have hr := run_endLoop (P := P) hl (by rw [hrec]; simp)
      rw [hrec] at hr
      exact ⟨some _, _, hr, hstop D pre _ (by omega) hS (hIx.putObj _ hi (by omega) hl rfl) ((World.putObj_heap_other (by omega)).trans hk)⟩
end Go.Proofs.Ytbapokpkgonjkaa.Print
