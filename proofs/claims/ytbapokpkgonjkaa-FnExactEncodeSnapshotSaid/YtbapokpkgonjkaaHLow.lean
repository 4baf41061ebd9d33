/- lowFirst: a number in n bytes, the lowest first; numberOf: the number that bytes are. Conditions: n from 0 to 8; at most 8 bytes, each from 0 to 255. -/
import Derived.Test.YtbapokpkgonjkaaPrint0
import Derived.Laws.BitsAllLaws
namespace Go.Proofs.Ytbapokpkgonjkaa.Print
open Go.RowKit Go.Proofs.YtbapokpkgonjkaaW.PrintWords Go.Proofs.YtbapokpkgonjkaaW.PrintLast Go.Proofs.YtbapokpkgonjkaaW.PrintMore
set_option linter.unusedVariables false
set_option linter.unusedSimpArgs false

/-- the lowest n bytes of v -/
def leB (v : Int) (n : Nat) : List Int := (List.range n).map fun i => v / 2 ^ (8 * i) % 256
theorem leB_length (v : Int) (n : Nat) : (leB v n).length = n := by simp [leB]
theorem leB_succ (v : Int) (n : Nat) : leB v (n + 1) = leB v n ++ [v / 2 ^ (8 * n) % 256] := by simp [leB, List.range_succ]

def impl_lowFirst.f (a0 : Int) (a1 : Int) : Option (List Int) := if 0 ≤ a1 ∧ a1 ≤ 8 then some (leB a0 a1.toNat) else none

theorem low_step (v : Int) (n i : Nat) (hi : i < n) : (leB v i ++ List.replicate (n - i) 0).set i (v / 2 ^ (8 * i) % 256) = leB v (i + 1) ++ List.replicate (n - (i + 1)) 0 := by
  rw [leB_succ, List.set_append_right _ _ (by rw [leB_length]; omega), leB_length, Nat.sub_self, show n - i = (n - (i + 1)) + 1 by omega, List.replicate_succ, List.set_cons_zero, List.append_assoc]
  rfl

set_option maxHeartbeats 400000 in
set_option maxRecDepth 100000 in
theorem impl_lowFirst.calls (a0 : Int) (a1 : Int) (r : List Int) (w : World) (h : impl_lowFirst.f a0 a1 = some r) :
    Calls Try.prog 65 #[.int .u64 a0, .int .i64 a1] w fun e w' => ∃ v0_ : Value, e = .returned (v0_) ∧ Kd.R (Kd.int .u8) 5 w' w.heap.size (fun _ => True) v0_ r ∧ Below w.heap.size w w' := by
  unfold impl_lowFirst.f at h
  split at h
  case isFalse => cases h
  rename_i hn
  obtain ⟨h0, h8⟩ := hn
  obtain ⟨n, rfl⟩ := Int.eq_ofNat_of_zero_le h0
  rw [Int.toNat_natCast] at h
  obtain rfl := Option.some.inj h
  clear h
  have hn8 : n ≤ 8 := by omega
  go_enter Try.func65, Try.ntmps65
  go_wp2_with ((with_reducible refine gate_dst (N := 8) rfl ?_); refine Kd.R_make (Kd.int .u8) _ 5 rfl (N := 8) rfl 22 _ _ rfl (n : Int) rfl rfl Try.underlying22 (.int .u8 0) 1 info5 rfl (by decide) (by omega) 0 (ok := fun _ => True) (okp := fun _ => True) rfl (fun _ hk => hk) trivial (by omega) (by omega) (Below.refl _ _) (Nat.le_refl _) ?_; intro v1 w1 ho hb hg_ hnew_; clear hg_ hnew_; rw [Int.toNat_natCast] at ho; obtain ⟨A1, c1, rfl⟩ := Kd.R_slice ho; rw [List.length_replicate] at ho; have HO1 := Aside0.mk ho; have HB1 := Aside0.mk hb; clear ho hb)
  go_loopw [11] (fun v11 wr => ∃ i : Nat, i ≤ n ∧ v11 = .int .i64 i ∧ Aside0 (Kd.R (Kd.int .u8) 5 wr w.heap.size (fun _ => True) (.slice A1 n c1) (leB a0 i ++ List.replicate (n - i) 0)) ∧ Aside0 (Below w.heap.size w wr)) (fun v11 _ => n - (intOf v11).toNat)
  case atStart => exact ⟨0, Nat.zero_le _, rfl, HO1, HB1⟩
  case round =>
    clear HO1 HB1
    obtain ⟨i, hi, rfl, HO, HB⟩ := hrel
    by_cases hlt : i < n
    · have hlen : (leB a0 i ++ List.replicate (n - i) 0).length = n := by rw [List.length_append, leB_length, List.length_replicate]; omega
      obtain ⟨g9, c9, e9, gb9, gl9, cl9, HG9⟩ := Kd.R_form HO.out (by rw [hlen]; omega)
      obtain ⟨rfl, -, rfl⟩ : A1 = some ⟨g9, 0, none⟩ ∧ n = _ ∧ c1 = c9 := by simpa using e9
      clear e9
      obtain ⟨hx9, hf9⟩ := Kd.R_celln 0 HO.out (i : Int) (by omega) (by omega)
      have HP := Kd.R_putg HO.out (i : Int) (a0 / 2 ^ (8 * i) % 256)
      rw [Int.toNat_natCast] at hx9 hf9 HP
      rw [low_step a0 n i hlt] at HP
      have HPP := Aside0.mk HP.1
      have HBB := Aside0.mk (HB.out.setCell (p := ⟨g9, i, none⟩) gb9 (.int .u8 (a0 / 2 ^ (8 * i) % 256)))
      clear HP HG9 HO HB
      have hs : 8 * i ≤ 56 := by omega
      have hl2 : (leB a0 (i + 1) ++ List.replicate (n - (i + 1)) 0).length = n := by rw [List.length_append, leB_length, List.length_replicate]; omega
      go_wp2_with fail
      refine ⟨⟨i + 1, by omega, by go_num, ⟨?_⟩, HBB⟩, by simp [intOf]; omega⟩
      exact HPP.out
    · obtain rfl : i = n := by omega
      have hO := HO.out
      rw [Nat.sub_self, List.replicate_zero, List.append_nil] at hO
      have HO1 := Aside0.mk hO
      clear hO HO
      go_wp2_with fail
      go_ret
      exact ⟨_, rfl, HO1.out, HB.out⟩

/-- the number that bytes are, the lowest first -/
def leN : List Int → Int
  | [] => 0
  | x :: r => x + 256 * leN r
theorem leN_range (l : List Int) (h : ∀ x ∈ l, 0 ≤ x ∧ x < 256) : 0 ≤ leN l ∧ leN l < 256 ^ l.length := by
  induction l with
  | nil => simp [leN]
  | cons x r ih =>
    obtain ⟨a, b⟩ := ih (fun y hy => h y (List.mem_cons_of_mem _ hy))
    obtain ⟨c, d⟩ := h x List.mem_cons_self
    simp only [leN, List.length_cons, Int.pow_succ]
    omega
theorem leN_snoc (l : List Int) (x : Int) : leN (l ++ [x]) = leN l + 256 ^ l.length * x := by
  induction l with
  | nil => simp [leN]
  | cons y r ih =>
    simp only [List.cons_append, leN, ih, List.length_cons, Int.pow_succ, Int.mul_add]
    rw [Int.mul_comm (256 ^ r.length) 256, Int.mul_assoc]
    omega

theorem pow256 (i : Nat) : (256 : Int) ^ i = 2 ^ (8 * i) := by
  rw [Int.pow_mul]
  rfl
theorem or_step (v c : Int) (i : Nat) (hi : i < 8) (v0 : 0 ≤ v) (v1 : v < 256 ^ i) (c0 : 0 ≤ c) (c1 : c < 256) : Go.bits .or .u64 v (IntKind.u64.wrap (c * 2 ^ (8 * i))) = v + 256 ^ i * c := by
  obtain ⟨V, rfl⟩ := Int.eq_ofNat_of_zero_le v0
  obtain ⟨C, rfl⟩ := Int.eq_ofNat_of_zero_le c0
  rw [pow256] at v1 ⊢
  have hv : V < 2 ^ (8 * i) := by exact_mod_cast v1
  have hc : C < 256 := by omega
  have hm : C * 2 ^ (8 * i) < 18446744073709551616 := by
    have h1 : C * 2 ^ (8 * i) ≤ 255 * 2 ^ (8 * i) := Nat.mul_le_mul_right _ (by omega)
    have h2 : 2 ^ (8 * i) ≤ 2 ^ 56 := Nat.pow_le_pow_right (by omega) (by omega)
    omega
  have hw : IntKind.u64.wrap ((C : Int) * 2 ^ (8 * i)) = ((C * 2 ^ (8 * i) : Nat) : Int) := by
    have e : (C : Int) * 2 ^ (8 * i) = ((C * 2 ^ (8 * i) : Nat) : Int) := by simp
    rw [e]
    simp [IntKind.wrap, IntKind.bits, IntKind.signed]
    omega
  have hV : V < 18446744073709551616 := by
    have h2 : 2 ^ (8 * i) ≤ 2 ^ 56 := Nat.pow_le_pow_right (by omega) (by omega)
    omega
  rw [hw, u64_or_nat V _ hV hm, Nat.or_comm, Nat.mul_comm, ← Nat.two_pow_add_eq_or_of_lt hv]
  simp
  omega

def impl_numberOf.f (l0 : List Int) : Option Int := if l0.length ≤ 8 ∧ (∀ x ∈ l0, 0 ≤ x ∧ x < 256) then some (leN l0) else none
set_option maxHeartbeats 400000 in
set_option maxRecDepth 100000 in
theorem impl_numberOf.calls (A0 : Option Addr) (c0 : Nat) (l0 : List Int) (r : Int) (w : World) (hr0 : Kd.C (Kd.int .u8) w A0 l0.length l0) (hc0 : l0.length ≤ c0) (h : impl_numberOf.f l0 = some r) :
    Calls Try.prog 69 #[.slice A0 l0.length c0] w fun e w' => e = .returned (.int .u64 r) ∧ Drawn0 w w' := by
  unfold impl_numberOf.f at h
  split at h
  case isFalse => cases h
  rename_i hn
  obtain ⟨h8, hb⟩ := hn
  obtain rfl := Option.some.inj h
  clear h
  have HB := Aside0.mk hb
  have HR := Aside0.mk hr0
  clear hb hr0
  go_enter Try.func69, Try.ntmps69
  go_wp2_with fail
  go_loop [3, 8] (fun v3 v8 => ∃ i : Nat, i ≤ l0.length ∧ v8 = .int .i64 i ∧ v3 = .int .u64 (leN (l0.take i))) (fun _ v8 => l0.length - (intOf v8).toNat)
  case atStart => exact ⟨0, Nat.zero_le _, rfl, rfl⟩
  case round =>
    obtain ⟨i, hi, rfl, rfl⟩ := hrel
    by_cases hlt : i < l0.length
    · obtain ⟨ad, rfl, hcell⟩ := Kd.at_int HR.out i (by omega) (by omega)
      rw [Int.toNat_natCast] at hcell
      have hs : 8 * i ≤ 56 := by omega
      have hx := HB.out (l0.getD i 0) (by rw [List.getD_eq_getElem?_getD, List.getElem?_eq_getElem hlt]; exact List.getElem_mem _)
      obtain ⟨x0, x1⟩ := hx
      have hrd : rd l0 (i : Int) = l0.getD i 0 := by unfold rd; rw [Int.toNat_natCast]
      rw [hrd] at hcell
      clear hrd
      have hG : l0.getD i 0 = l0[i] := by rw [List.getD_eq_getElem?_getD, List.getElem?_eq_getElem hlt]; rfl
      rw [hG] at hcell x0 x1
      clear hG
      have hr := leN_range (l0.take i) (fun y hy => HB.out y (List.mem_of_mem_take hy))
      rw [List.length_take, Nat.min_eq_left hi] at hr
      have hstep : Go.bits .or .u64 (leN (l0.take i)) (IntKind.u64.wrap (l0[i] * 2 ^ (8 * i))) = leN (l0.take (i + 1)) := by
        rw [or_step _ _ i (by omega) hr.1 hr.2 x0 x1, List.take_succ_eq_append_getElem hlt, leN_snoc, List.length_take, Nat.min_eq_left hi]
      have HS := Aside0.mk hstep
      clear hstep hr
      go_wp2_with fail
      exact ⟨⟨i + 1, by omega, by go_num, by rw [← HS.out]⟩, by simp [intOf]; omega⟩
    · obtain rfl : i = l0.length := by omega
      rw [List.take_length]
      go_wp2_with fail
      go_ret
      exact ⟨rfl, Drawn0.refl _⟩

end Go.Proofs.Ytbapokpkgonjkaa.Print
