/- The disk's files at work: (*file).ok, ValidDisk. -/
import Derived.Test.YtbapokpkgonjkaaPrint0
namespace Go.Proofs.Ytbapokpkgonjkaa.Print
open Go.RowKit Go.Proofs.YtbapokpkgonjkaaW.PrintWords Go.Proofs.YtbapokpkgonjkaaW.PrintLast Go.Proofs.YtbapokpkgonjkaaW.PrintMore
set_option linter.unusedVariables false
set_option linter.unusedSimpArgs false

def okFile (n : Nat) (s : Int) : Bool := decide ((n : Int) ≤ 200000) && (decide (0 ≤ s) && decide (s ≤ (n : Int)))

set_option maxHeartbeats 400000 in
set_option maxRecDepth 100000 in
theorem file_ok (g o n c : Nat) (A : Option Addr) (s : Int) (w : World) (h0 : w.cell? ⟨g, o, none⟩ = some (.slice A n c)) (h1 : w.cell? ⟨g, o + 1, none⟩ = some (.int .i64 s)) :
    Calls Try.prog 60 #[.pointer (some ⟨g, o, none⟩)] w fun e w' => e = .returned (.bool (okFile n s)) ∧ Drawn0 w w' := by
  by_cases c1 : (n : Int) ≤ 200000
  · by_cases c2 : 0 ≤ s
    · have k1 : decide ((n : Int) ≤ 200000) = true := decide_eq_true c1
      have k2 : decide (0 ≤ s) = true := decide_eq_true c2
      have HF : Aside0 (okFile n s = decide (s ≤ (n : Int))) := ⟨by unfold okFile; rw [k1, k2]; rfl⟩
      go_enter Try.func60, Try.ntmps60
      go_wp2_with fail
      go_quiet (fail)
      go_wp2_with fail
      go_ret
      exact ⟨by rw [HF.out]; rfl, by repeat (first | exact Drawn0.refl _ | apply Drawn0.step)⟩
    · have k1 : decide ((n : Int) ≤ 200000) = true := decide_eq_true c1
      have k2 : decide (0 ≤ s) = false := decide_eq_false c2
      have HF : Aside0 (okFile n s = false) := ⟨by unfold okFile; rw [k1, k2]; rfl⟩
      go_enter Try.func60, Try.ntmps60
      go_wp2_with fail
      go_quiet (fail)
      go_wp2_with fail
      go_ret
      exact ⟨by rw [HF.out]; rfl, by repeat (first | exact Drawn0.refl _ | apply Drawn0.step)⟩
  · have k1 : decide ((n : Int) ≤ 200000) = false := decide_eq_false c1
    have HF : Aside0 (okFile n s = false) := ⟨by unfold okFile; rw [k1]; rfl⟩
    go_enter Try.func60, Try.ntmps60
    go_wp2_with fail
    go_quiet (fail)
    go_wp2_with fail
    go_ret
    exact ⟨by rw [HF.out]; rfl, by repeat (first | exact Drawn0.refl _ | apply Drawn0.step)⟩

def impl_ValidDisk.f (l0_0 : List Int) (a0_1 : Int) (l0_2 : List Int) (a0_3 : Int) (l0_4 : List Int) (a0_5 : Int) : Option Bool := some (okFile l0_0.length a0_1 && (okFile l0_2.length a0_3 && okFile l0_4.length a0_5))

set_option maxHeartbeats 400000 in
set_option maxRecDepth 100000 in
/-- ValidDisk at whatever lengths: it draws and makes memory of its own. -/
theorem validDisk_any (A0_0 : Option Addr) (n0 c0_0 : Nat) (a0_1 : Int) (A0_2 : Option Addr) (n2 c0_2 : Nat) (a0_3 : Int) (A0_4 : Option Addr) (n4 c0_4 : Nat) (a0_5 : Int) (w : World) :
    Calls Try.prog 18 #[.agg #[.slice A0_0 n0 c0_0, .int .i64 a0_1, .slice A0_2 n2 c0_2, .int .i64 a0_3, .slice A0_4 n4 c0_4, .int .i64 a0_5]] w fun e w' => e = .returned (.bool (okFile n0 a0_1 && (okFile n2 a0_3 && okFile n4 a0_5))) ∧ Below w.heap.size w w' := by
  rcases h0 : okFile n0 a0_1 with _ | _
  · go_enter Try.func18, Try.ntmps18
    go_wp2_with fail
    refine (file_ok _ _ n0 c0_0 A0_0 a0_1 _ (by go_simp) (by go_simp)).mono ?_
    rintro e w' ⟨rfl, ⟨q1, rfl⟩⟩
    go_wp2_with fail
    go_ret
    exact ⟨rfl, by repeat (first | exact Below.refl _ _ | apply below_alloc | apply pw_below_drewN | apply below_drew1)⟩
  · rcases h2 : okFile n2 a0_3 with _ | _
    · go_enter Try.func18, Try.ntmps18
      go_wp2_with fail
      refine (file_ok _ _ n0 c0_0 A0_0 a0_1 _ (by go_simp) (by go_simp)).mono ?_
      rintro e w' ⟨rfl, ⟨q1, rfl⟩⟩
      go_wp2_with fail
      refine (file_ok _ _ n2 c0_2 A0_2 a0_3 _ (by go_simp) (by go_simp)).mono ?_
      rintro e w' ⟨rfl, ⟨q2, rfl⟩⟩
      go_wp2_with fail
      go_ret
      exact ⟨rfl, by repeat (first | exact Below.refl _ _ | apply below_alloc | apply pw_below_drewN | apply below_drew1)⟩
    · go_enter Try.func18, Try.ntmps18
      go_wp2_with fail
      refine (file_ok _ _ n0 c0_0 A0_0 a0_1 _ (by go_simp) (by go_simp)).mono ?_
      rintro e w' ⟨rfl, ⟨q1, rfl⟩⟩
      go_wp2_with fail
      refine (file_ok _ _ n2 c0_2 A0_2 a0_3 _ (by go_simp) (by go_simp)).mono ?_
      rintro e w' ⟨rfl, ⟨q2, rfl⟩⟩
      go_wp2_with fail
      refine (file_ok _ _ n4 c0_4 A0_4 a0_5 _ (by go_simp) (by go_simp)).mono ?_
      rintro e w' ⟨rfl, ⟨q3, rfl⟩⟩
      go_wp2_with fail
      go_ret
      exact ⟨rfl, by repeat (first | exact Below.refl _ _ | apply below_alloc | apply pw_below_drewN | apply below_drew1)⟩

theorem impl_ValidDisk.calls (A0_0 : Option Addr) (c0_0 : Nat) (l0_0 : List Int) (a0_1 : Int) (A0_2 : Option Addr) (c0_2 : Nat) (l0_2 : List Int) (a0_3 : Int) (A0_4 : Option Addr) (c0_4 : Nat) (l0_4 : List Int) (a0_5 : Int) (r : Bool) (w : World) (hr0_0 : Kd.C (Kd.int .u8) w A0_0 l0_0.length l0_0) (hc0_0 : l0_0.length ≤ c0_0) (hr0_2 : Kd.C (Kd.int .u8) w A0_2 l0_2.length l0_2) (hc0_2 : l0_2.length ≤ c0_2) (hr0_4 : Kd.C (Kd.int .u8) w A0_4 l0_4.length l0_4) (hc0_4 : l0_4.length ≤ c0_4) (h : impl_ValidDisk.f l0_0 a0_1 l0_2 a0_3 l0_4 a0_5 = some r) :
    Calls Try.prog 18 #[.agg #[.slice A0_0 l0_0.length c0_0, .int .i64 a0_1, .slice A0_2 l0_2.length c0_2, .int .i64 a0_3, .slice A0_4 l0_4.length c0_4, .int .i64 a0_5]] w fun e w' => e = .returned (.bool r) ∧ Below w.heap.size w w' := by
  obtain rfl := Option.some.inj h
  exact validDisk_any _ _ _ _ _ _ _ _ _ _ _ _ _

end Go.Proofs.Ytbapokpkgonjkaa.Print
