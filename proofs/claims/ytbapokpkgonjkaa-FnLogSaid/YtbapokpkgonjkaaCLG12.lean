/- Texts of this session, joined by its own program. -/
import Derived.Test.YtbapokpkgonjkaaCLG6
import Derived.Test.YtbapokpkgonjkaaCLG7
import Derived.Test.YtbapokpkgonjkaaCLG11
import Derived.Test.YtbapokpkgonjkaaCLG0
import Derived.WalkKit
import Derived.Below
namespace Go.Proofs.Ytbapokpkgonjkaa.Print
open Go.RowKit Go.Proofs.YtbapokpkgonjkaaW.PrintWords Go.Proofs.YtbapokpkgonjkaaW.PrintLast Go.Proofs.YtbapokpkgonjkaaW.PrintMore
set_option linter.unusedVariables false
set_option linter.unusedSimpArgs false
theorem wrapU_range (x : Int) : 0 ≤ IntKind.u64.wrap x ∧ IntKind.u64.wrap x < 18446744073709551616 := by
  have e : IntKind.u64.wrap x = x % 18446744073709551616 := by simp [IntKind.wrap, IntKind.signed, IntKind.bits]
  rw [e]
  omega
theorem take_ok (l : List Int) (hb : Bytes l) (i : Int) (hi : 0 ≤ i) : ∃ t, laws_take.f l i = some t ∧ 0 ≤ t ∧ t < 256 := by
  unfold laws_take.f
  by_cases c : (l.length : Int) = 0
  · rw [if_pos c]; exact ⟨0, rfl, by omega, by omega⟩
  · have h0 : 0 ≤ Int.tmod i (l.length : Int) := Int.tmod_nonneg _ hi
    have h1 : Int.tmod i (l.length : Int) < (l.length : Int) := Int.tmod_lt_of_pos _ (by omega)
    rw [if_neg c, if_pos h0, if_pos h1]
    have r := rd_range hb _ h0 h1
    have e1 : wrap64 (rd l (Int.tmod i (l.length : Int))) = rd l (Int.tmod i (l.length : Int)) := by unfold wrap64; omega
    rw [e1]
    exact ⟨_, rfl, r.1, r.2⟩
theorem drawSeq_ok (s : List Int) (p : Int) (hs : Bytes s) (hl : s.length ≤ 500) (h0 : 0 ≤ p) (h1 : p ≤ 500) : ∃ v q, spec_l2drawSeq.f s p = some (v, q) ∧ 0 ≤ v ∧ v < 18446744073709551616 ∧ 0 ≤ q ∧ q ≤ 500 := by
  unfold spec_l2drawSeq.f
  obtain ⟨t, q, hq, t0, t1, q0, q1⟩ := next_ok s p hs hl h0 h1
  rw [hq, Option.bind_some]
  simp only
  split
  · exact ⟨_, _, rfl, (wrapU_range _).1, (wrapU_range _).2, q0, q1⟩
  · split
    · exact ⟨_, _, rfl, (wrapU_range _).1, (wrapU_range _).2, q0, q1⟩
    · rw [if_pos (wrapU_range _).1]
      exact ⟨_, _, rfl, (wrapU_range _).1, (wrapU_range _).2, q0, q1⟩
theorem drawRecord_ok (l : List Int) (hb : Bytes l) (k : Nat) (hk : 300000 < k) : ∃ v b, spec_DrawEncodeRecord.f k l = some (v, b) ∧ 0 ≤ v ∧ v < 18446744073709551616 ∧ Bytes b ∧ b.length ≤ 2000 := by
  unfold spec_DrawEncodeRecord.f
  obtain ⟨s, e0, hl, hs⟩ := open_ok l hb
  rw [e0, Option.bind_some]
  simp only
  obtain ⟨t, q, hq, t0, t1, q0, q1⟩ := next_ok s 0 hs hl (by omega) (by omega)
  rw [hq, Option.bind_some]
  simp only
  obtain ⟨v, q2, hv, v0, v1, r0, r1⟩ := drawSeq_ok s q hs hl q0 q1
  rw [hv, Option.bind_some]
  simp only
  split
  · have e : Int.tmod t 3 = t % 3 := Int.tmod_eq_emod_of_nonneg t0
    have e2 : wrap64 (999 + t % 3) = 999 + t % 3 := by unfold wrap64; omega
    rw [e, e2, fill_ok _ _ (by omega) (by omega) k hk, Option.bind_some]
    exact ⟨v, _, rfl, v0, v1, bytes_replicate _ _ (by omega), by rw [List.length_replicate]; omega⟩
  · obtain ⟨b, q3, hb3, b1, b2, _⟩ := drawBytes_ok s q2 hs hl r0 r1 k (by omega)
    rw [hb3, Option.bind_some]
    exact ⟨v, b, rfl, v0, v1, b2, by omega⟩
theorem recB_bytes (a : Int) (l : List Int) (hb : Bytes l) : Bytes (recB a l) := by
  unfold recB
  split
  · intro x hx; cases hx
  · intro x hx
    rcases List.mem_append.1 hx with hx | hx
    · exact rec_range a l hb x hx
    · exact leB_range _ _ x hx
theorem bytes_append {a b : List Int} (ha : Bytes a) (hb : Bytes b) : Bytes (a ++ b) := fun x hx => (List.mem_append.1 hx).elim (ha x) (hb x)
theorem xor_byte (a b : Int) : 0 ≤ Go.bits .xor .u8 a b ∧ Go.bits .xor .u8 a b < 256 := by
  unfold Go.bits
  have h : ∀ n : Int, 0 ≤ IntKind.u8.wrap n ∧ IntKind.u8.wrap n < 256 := fun n => by
    have e : IntKind.u8.wrap n = n % 256 := by simp [IntKind.wrap, IntKind.signed, IntKind.bits]
    rw [e]; omega
  exact h _
theorem drawLog_j4 (x6 : List Int) (x10 x11 : Int) (b : Bool) (hb : Bytes x6) (hl : x6.length ≤ 20000) (h0 : 0 ≤ x10) (h1 : x10 < 256) (g0 : 0 ≤ x11) (g1 : x11 < 100000) (hz : b = true → 0 < x6.length) (k : Nat) (hk : 300001 < k) : ∃ r, spec_DrawReadLog.j4 k x6 x10 x11 b = some r ∧ Bytes r ∧ r.length ≤ 30000 := by
  obtain ⟨k, rfl⟩ : ∃ m, k = m + 1 := ⟨k - 1, by omega⟩
  simp only [spec_DrawReadLog.j4]
  have e8 : Int.tmod x10 8 = x10 % 8 := Int.tmod_eq_emod_of_nonneg h0
  have ed : Int.tdiv x10 8 = x10 / 8 := Int.tdiv_eq_ediv_of_nonneg h0
  have ew : wrap64 (x10 / 8) = x10 / 8 := by unfold wrap64; omega
  have fin : ∀ y : List Int, Bytes y → y.length ≤ 20000 → ∃ r, (if Int.tmod x10 8 = 2 then ((spec_l1fill.f k ((x11) % 256) (wrap64 (Int.tdiv x10 8))).bind fun t => (if y.length + t.length < 140737488355328 then (some (y ++ t)) else none)) else (some y)) = some r ∧ Bytes r ∧ r.length ≤ 30000 := by
    intro y hy hyl
    split
    · rw [ed, ew, fill_ok _ _ (by omega) (by omega) k (by omega), Option.bind_some, if_pos (by rw [List.length_replicate]; omega)]
      exact ⟨_, rfl, bytes_append hy (bytes_replicate _ _ (by omega)), by rw [List.length_append, List.length_replicate]; omega⟩
    · exact ⟨y, rfl, hy, by omega⟩
  split
  · rename_i hbt
    have hp := hz hbt
    have c0 : 0 ≤ Int.tmod x11 (x6.length : Int) := Int.tmod_nonneg _ g0
    have c1 : Int.tmod x11 (x6.length : Int) < (x6.length : Int) := Int.tmod_lt_of_pos _ (by omega)
    rw [if_neg (by omega), if_pos c0, if_pos c1, if_pos (wrapU_range _).1, Option.bind_some]
    refine fin _ ?_ (by rw [List.length_set]; exact hl)
    intro x hx
    rcases List.mem_or_eq_of_mem_set hx with hx | hx
    · exact hb x hx
    · rw [hx]; exact xor_byte _ _
  · exact fin x6 hb hl
theorem drawLog_j3 (x6 : List Int) (x10 x11 : Int) (hb : Bytes x6) (hl : x6.length ≤ 20000) (h0 : 0 ≤ x10) (h1 : x10 < 256) (g0 : 0 ≤ x11) (g1 : x11 < 100000) (k : Nat) (hk : 300002 < k) : ∃ r, spec_DrawReadLog.j3 k x6 x10 x11 = some r ∧ Bytes r ∧ r.length ≤ 30000 := by
  obtain ⟨k, rfl⟩ : ∃ m, k = m + 1 := ⟨k - 1, by omega⟩
  simp only [spec_DrawReadLog.j3]
  split
  · exact drawLog_j4 x6 x10 x11 _ hb hl h0 h1 g0 g1 (fun _ => by omega) k (by omega)
  · exact drawLog_j4 x6 x10 x11 _ hb hl h0 h1 g0 g1 (fun h => by cases h) k (by omega)
theorem drawLog_j2 (x6 : List Int) (x10 x11 : Int) (b : Bool) (hb : Bytes x6) (hl : x6.length ≤ 20000) (h0 : 0 ≤ x10) (h1 : x10 < 256) (g0 : 0 ≤ x11) (g1 : x11 < 100000) (hz : b = true → 0 < x6.length) (k : Nat) (hk : 300003 < k) : ∃ r, spec_DrawReadLog.j2 k x6 x10 x11 b = some r ∧ Bytes r ∧ r.length ≤ 30000 := by
  obtain ⟨k, rfl⟩ : ∃ m, k = m + 1 := ⟨k - 1, by omega⟩
  simp only [spec_DrawReadLog.j2]
  split
  · rename_i hbt
    have hp := hz hbt
    have c0 : 0 ≤ Int.tmod x11 (x6.length : Int) := Int.tmod_nonneg _ g0
    have c1 : Int.tmod x11 (x6.length : Int) < (x6.length : Int) := Int.tmod_lt_of_pos _ (by omega)
    rw [if_neg (by omega), if_pos c0, if_pos (by omega)]
    exact drawLog_j3 _ x10 x11 (fun x hx => hb x (List.mem_of_mem_take hx)) (by rw [List.length_take]; omega) h0 h1 g0 g1 k (by omega)
  · exact drawLog_j3 x6 x10 x11 hb hl h0 h1 g0 g1 k (by omega)
theorem drawLog_l0 (s : List Int) (hs : Bytes s) (hl : s.length ≤ 500) : ∀ (d k : Nat) (x4 x5 : Int) (x6 : List Int) (x7 p : Int), x4 ≤ 6 → 0 ≤ x7 → x4 - x7 ≤ (d : Int) → (x6.length : Int) ≤ 2100 * x7 → Bytes x6 → x7 ≤ 6 → 0 ≤ x5 → x5 < 18446744073709551616 → 0 ≤ p → p ≤ 500 → 400000 + 2 * d < k → ∃ r, spec_DrawReadLog.l0 k x4 x5 x6 x7 s p = some r ∧ Bytes r ∧ r.length ≤ 30000 := by
  intro d
  induction d with
  | zero =>
    intro k x4 x5 x6 x7 p h4 h7 hd hx hb h76 h50 h51 p0 p1 hk
    obtain ⟨k, rfl⟩ : ∃ m, k = m + 1 := ⟨k - 1, by omega⟩
    simp only [spec_DrawReadLog.l0]
    rw [if_neg (by omega)]
    obtain ⟨t1, q1, e1, t10, t11, a1, b1⟩ := next_ok s p hs hl p0 p1
    obtain ⟨t2, q2, e2, t20, t21, a2, b2⟩ := next_ok s q1 hs hl a1 b1
    obtain ⟨t3, q3, e3, t30, t31, a3, b3⟩ := next_ok s q2 hs hl a2 b2
    rw [e1, Option.bind_some]
    simp only
    rw [e2, Option.bind_some]
    simp only
    rw [e3, Option.bind_some]
    simp only
    have ew : wrap64 (wrap64 (wrap64 (t2 * 256) + 1) + t3) = t2 * 256 + 1 + t3 := by unfold wrap64; omega
    rw [ew]
    split
    · exact drawLog_j2 x6 t1 _ _ hb (by omega) t10 t11 (by omega) (by omega) (fun _ => by omega) k (by omega)
    · exact drawLog_j2 x6 t1 _ _ hb (by omega) t10 t11 (by omega) (by omega) (fun h => by cases h) k (by omega)
  | succ d ih =>
    intro k x4 x5 x6 x7 p h4 h7 hd hx hb h76 h50 h51 p0 p1 hk
    by_cases c : x7 < x4
    · obtain ⟨k, rfl⟩ : ∃ m, k = m + 1 := ⟨k - 1, by omega⟩
      simp only [spec_DrawReadLog.l0]
      rw [if_pos c]
      obtain ⟨b, q1, e1, b1, b2, a1, a2⟩ := drawBytes_ok s p hs hl p0 p1 k (by omega)
      rw [e1, Option.bind_some]
      simp only
      rw [spec_rec_f x5 b h50 h51 b2 k (by omega), Option.bind_some, if_pos (by have := recB_length x5 b; omega), Option.bind_some]
      obtain ⟨t, q2, e2, t0, t1, u0, u1⟩ := next_ok s q1 hs hl a1 a2
      rw [e2, Option.bind_some]
      simp only
      have hrl : (recB x5 b).length = 14 + b.length := recB_len x5 b (by omega)
      have ew : wrap64 (x7 + 1) = x7 + 1 := by unfold wrap64; omega
      have j1 : ∀ x5' : Int, 0 ≤ x5' → x5' < 18446744073709551616 → ∃ r, spec_DrawReadLog.j1 k x4 x5' (x6 ++ recB x5 b) x7 t s q2 = some r ∧ Bytes r ∧ r.length ≤ 30000 := by
        intro x5' g0 g1
        obtain ⟨k, rfl⟩ : ∃ m, k = m + 1 := ⟨k - 1, by omega⟩
        simp only [spec_DrawReadLog.j1]
        rw [ew]
        split
        · rw [show spec_l2little.f k 1001 2 = some (leB 1001 2) from little_f 2 k 1001 (by omega) (by omega) (by omega) (by omega), Option.bind_some, fill_ok 1 1009 (by omega) (by omega) k (by omega), Option.bind_some, if_pos (by rw [leB_length, List.length_replicate]; omega)]
          have hbb : Bytes (leB 1001 2 ++ List.replicate (1009 : Int).toNat 1) := bytes_append (leB_range _ _) (bytes_replicate _ _ (by omega))
          have hll : (leB 1001 2 ++ List.replicate (1009 : Int).toNat (1 : Int)).length = 1011 := by rw [List.length_append, leB_length, List.length_replicate]; rfl
          rw [spec_summed_f _ (by rw [hll]; omega) hbb k (by rw [hll]; omega), Option.bind_some, if_pos (by simp only [List.length_append, hll, leB_length, hrl] at *; omega)]
          refine ih k x4 x5' _ (x7 + 1) q2 h4 (by omega) (by omega) ?_ (bytes_append (bytes_append hb (recB_bytes _ _ b2)) (bytes_append hbb (leB_range _ _))) (by omega) g0 g1 u0 u1 (by omega)
          rw [List.length_append, List.length_append, List.length_append, hll, leB_length, hrl]
          omega
        · refine ih k x4 x5' _ (x7 + 1) q2 h4 (by omega) (by omega) ?_ (bytes_append hb (recB_bytes _ _ b2)) (by omega) g0 g1 u0 u1 (by omega)
          rw [List.length_append, hrl]
          omega
      split
      · exact j1 _ (wrapU_range _).1 (wrapU_range _).2
      · exact j1 _ (wrapU_range _).1 (wrapU_range _).2
    · exact ih k x4 x5 x6 x7 p h4 h7 (by omega) hx hb h76 h50 h51 p0 p1 (by omega)
theorem DrawReadLog_ok (l : List Int) (hb : Bytes l) (k : Nat) (hk : 500000 < k) : ∃ r, spec_DrawReadLog.f k l = some r ∧ Bytes r ∧ r.length ≤ 30000 := by
  unfold spec_DrawReadLog.f
  obtain ⟨s, e0, hl, hs⟩ := open_ok l hb
  rw [e0, Option.bind_some]
  simp only
  obtain ⟨t, q, hq, t0, t1, q0, q1⟩ := next_ok s 0 hs hl (by omega) (by omega)
  rw [hq, Option.bind_some]
  simp only
  obtain ⟨v, q2, hv, v0, v1, r0, r1⟩ := drawSeq_ok s q hs hl q0 q1
  rw [hv, Option.bind_some]
  simp only
  have e : Int.tmod t 7 = t % 7 := Int.tmod_eq_emod_of_nonneg t0
  rw [e]
  exact drawLog_l0 s hs hl 6 k (t % 7) v [] 0 q2 (by omega) (by omega) (by omega) (by simp) (by intro x hx; cases hx) (by omega) v0 v1 r0 r1 (by omega)
def recF (first : Int) (body : List Int) (i : Nat) : S45 := ⟨first + i, ((i : Int) % 256) :: body⟩
def recsF (first : Int) (body : List Int) : Nat → Nat → List S45
  | _, 0 => []
  | i, n + 1 => recF first body i :: recsF first body (i + 1) n
theorem recsF_length (first : Int) (body : List Int) : ∀ n i, (recsF first body i n).length = n := by
  intro n
  induction n with
  | zero => intro i; rfl
  | succ n ih => intro i; simp [recsF, ih]
theorem recsF_at (first : Int) (body : List Int) : ∀ n i j (h : j < n), (recsF first body i n)[j]'(by rw [recsF_length]; exact h) = recF first body (i + j) := by
  intro n
  induction n with
  | zero => intro i j h; omega
  | succ n ih =>
    intro i j h
    cases j with
    | zero => simp [recsF]
    | succ j =>
      simp only [recsF, List.getElem_cons_succ]
      rw [ih (i + 1) j (by omega)]
      congr 1
      omega
theorem recsF_snoc (first : Int) (body : List Int) : ∀ n i, recsF first body i (n + 1) = recsF first body i n ++ [recF first body (i + n)] := by
  intro n
  induction n with
  | zero => intro i; simp [recsF]
  | succ n ih =>
    intro i
    rw [recsF, ih (i + 1)]
    rw [recsF]
    simp only [List.cons_append]
    rw [show i + 1 + n = i + (n + 1) by omega]
theorem recsF_mem (first : Int) (body : List Int) : ∀ n i, ∀ x ∈ recsF first body i n, ∃ j, j < i + n ∧ x = recF first body j := by
  intro n
  induction n with
  | zero => intro i x hx; cases hx
  | succ n ih =>
    intro i x hx
    rcases List.mem_cons.1 hx with rfl | hx
    · exact ⟨i, by omega, rfl⟩
    · obtain ⟨j, h1, h2⟩ := ih (i + 1) x hx
      exact ⟨j, by omega, h2⟩
theorem chain_recsF (first : Int) (body : List Int) (h0 : 0 ≤ first) : ∀ n i (out : List S45), first + ((i + n : Nat) : Int) < 18446744073709551615 → (∀ y, out.getLast? = some y → y.f0 + 1 = first + (i : Int)) → chainR out (recsF first body i n) := by
  intro n
  induction n with
  | zero => intro i out _ _; trivial
  | succ n ih =>
    intro i out hb hl
    refine ⟨?_, ih (i + 1) _ (by omega) ?_⟩
    · unfold goesOn
      cases e : out.getLast? with
      | none => rfl
      | some y =>
        have := hl y e
        simp only [recF]
        have e1 : ¬ y.f0 = 18446744073709551615 := by omega
        have e2 : first + (i : Int) = y.f0 + 1 := by omega
        simp [e1, e2]
    · intro y hy
      rw [List.getLast?_append] at hy
      simp only [List.getLast?_singleton, Option.some_or, Option.some.injEq] at hy
      subst hy
      simp only [recF]
      omega
theorem logO_of {l : List Int} (hb : Bytes l) (hl : l.length ≤ 2097152) : logO l = some ((logF l).1, ((logF l).2 : Int)) := by
  unfold logO
  rw [if_pos ⟨hb, hl⟩]
theorem flatR_bytes (rs : List S45) (h : ∀ x ∈ rs, Bytes x.f1) : Bytes (flatR rs) := by
  induction rs with
  | nil => intro x hx; cases hx
  | cons x r ih =>
    rw [flatR_cons]
    exact bytes_append (recB_bytes _ _ (h x List.mem_cons_self)) (ih (fun y hy => h y (List.mem_cons_of_mem _ hy)))
theorem flatR_lenB (rs : List S45) (h : ∀ x ∈ rs, x.f1.length ≤ 1000) : (flatR rs).length ≤ 1014 * rs.length := by
  induction rs with
  | nil => simp [flatR]
  | cons x r ih =>
    rw [flatR_cons, List.length_append, recB_len _ _ (h x List.mem_cons_self), List.length_cons]
    have := ih (fun y hy => h y (List.mem_cons_of_mem _ hy))
    have := h x List.mem_cons_self
    omega
theorem flatR_recsF_len (first : Int) (body : List Int) (hl : body.length + 1 ≤ 1000) : ∀ n i, (flatR (recsF first body i n)).length = n * (15 + body.length) := by
  intro n
  induction n with
  | zero => intro i; simp [recsF, flatR]
  | succ n ih =>
    intro i
    rw [recsF, flatR_cons, List.length_append, ih, recF, recB_len _ _ (by simp; omega)]
    simp only [List.length_cons]
    rw [Nat.succ_mul]
    omega
theorem sameB_self (l : List Int) (hl : l.length ≤ 140737488351232) (k : Nat) (hk : l.length < k) : laws_sameB.f k l l = some true := by
  unfold laws_sameB.f
  rw [if_pos rfl]
  have key : ∀ (d k i : Nat), i + d = l.length → d < k → laws_sameB.l0 k l l (i : Int) = some true := by
    intro d
    induction d with
    | zero =>
      intro k i hi hk
      obtain ⟨k, rfl⟩ : ∃ m, k = m + 1 := ⟨k - 1, by omega⟩
      simp only [laws_sameB.l0]
      rw [if_neg (by omega)]
    | succ d ih =>
      intro k i hi hk
      obtain ⟨k, rfl⟩ : ∃ m, k = m + 1 := ⟨k - 1, by omega⟩
      simp only [laws_sameB.l0]
      rw [if_pos (by omega)]
      repeat rw [if_pos (by first | rfl | trivial | omega)]
      rw [wrap_up i (by omega)]
      exact ih k (i + 1) (by omega) (by omega)
  exact key l.length k 0 (by omega) hk
theorem fnLog_l2 (odd : List Int) (size : Nat) (rs : List S45) (hflat : flatR rs = odd.take size) (hsz : size ≤ odd.length) (hol : odd.length ≤ 30000) (hr : ∀ x ∈ rs, 0 ≤ x.f0 ∧ x.f0 < 18446744073709551616 ∧ ∀ y ∈ x.f1, 0 ≤ y ∧ y < 256) (hr2 : ∀ x ∈ rs, x.f1.length ≤ 1000) (hn : rs.length ≤ 30000) :
    ∀ (d k i : Nat), i + d = rs.length → 100000 + d < k → laws_FnLog.l2 k odd (size : Int) rs (flatR (rs.take i)) (i : Int) = some true := by
  intro d
  induction d with
  | zero =>
    intro k i hi hk
    obtain ⟨k, rfl⟩ : ∃ m, k = m + 1 := ⟨k - 1, by omega⟩
    simp only [laws_FnLog.l2]
    rw [if_neg (by omega), if_pos (by omega), if_pos (by omega), Int.toNat_natCast, List.take_of_length_le (by omega), hflat, sameB_self _ (by rw [List.length_take]; omega) k (by rw [List.length_take]; omega), Option.bind_some]
  | succ d ih =>
    intro k i hi hk
    obtain ⟨k, rfl⟩ : ∃ m, k = m + 1 := ⟨k - 1, by omega⟩
    simp only [laws_FnLog.l2]
    have hi' : i < rs.length := by omega
    obtain ⟨g0, g1, g2⟩ := hr rs[i] (List.getElem_mem hi')
    rw [if_pos (by omega), if_pos (by omega), rd_T45_at rs i hi', impl_rec_f _ _ g0 g1 g2 k (by omega), Option.bind_some]
    have hlen : (flatR (rs.take i)).length ≤ 1014 * i := by
      have := flatR_lenB (rs.take i) (fun x hx => hr2 x (List.mem_of_mem_take hx))
      rw [List.length_take] at this
      omega
    rw [if_pos (by have := recB_length rs[i].f0 rs[i].f1; omega), wrap_up i (by omega), ← flatR_snoc, List.take_append_getElem hi']
    exact ih k (i + 1) (by omega) (by omega)
theorem fnLog_l1 (code : List Int) (hb : Bytes code) (first : Int) (body : List Int) (n : Nat) (hn : n ≤ 5) (hf : 0 ≤ first ∧ first ≤ 1000000000000) (hbl : body.length + 1 ≤ 1000) :
    ∀ (d k i : Nat), i + d = n → 700000 + d < k → laws_FnLog.l1 k code (n : Int) (recsF first body 0 n) (i : Int) first body = some true := by
  intro d
  induction d with
  | zero =>
    intro k i hi hk
    obtain ⟨k, rfl⟩ : ∃ m, k = m + 1 := ⟨k - 1, by omega⟩
    simp only [laws_FnLog.l1]
    obtain ⟨odd, ho, hob, hol⟩ := DrawReadLog_ok code hb k (by omega)
    obtain ⟨b1, b2, b3⟩ := logF_bounds odd
    obtain ⟨c1, c2⟩ := logF_bytes odd hob
    have hs : spec_ReadLog.f odd = some ((logF odd).1, ((logF odd).2 : Int)) := logO_of hob (by omega)
    have hm : impl_ReadLog.f odd = some ((logF odd).1, ((logF odd).2 : Int)) := logO_of hob (by omega)
    rw [if_neg (by omega), ho, Option.bind_some, hs, Option.bind_some, Option.bind_some, hm, Option.bind_some]
    simp only [if_true]
    obtain ⟨k, rfl⟩ : ∃ m, k = m + 1 := ⟨k - 1, by omega⟩
    simp only [laws_FnLog.j5]
    rw [if_neg (by simp)]
    have h := fnLog_l2 odd (logF odd).2 (logF odd).1 c1 b1 hol c2 b2 (by omega) (logF odd).1.length k 0 (by omega) (by omega)
    simpa [flatR] using h
  | succ d ih =>
    intro k i hi hk
    obtain ⟨k, rfl⟩ : ∃ m, k = m + 1 := ⟨k - 1, by omega⟩
    simp only [laws_FnLog.l1]
    have hi' : i < (recsF first body 0 n).length := by rw [recsF_length]; omega
    have e1 : IntKind.u64.wrap (i : Int) = (i : Int) := u64_of _ (by omega) (by omega)
    have e2 : IntKind.u64.wrap (first + (i : Int)) = first + (i : Int) := u64_of _ (by omega) (by omega)
    have e3 : wrap64 (1 + (body.length : Int)) = 1 + (body.length : Int) := by unfold wrap64; omega
    rw [rd_T45_at _ i hi', recsF_at first body n 0 i (by omega), Nat.zero_add, e1, e2, e3]
    clear e1 e2 e3
    simp only [recF, List.length_cons, List.drop_succ_cons, List.drop_zero]
    have hr0 : rd ((i : Int) % 256 :: body) 0 = (i : Int) % 256 := rfl
    rw [if_pos (by omega), if_pos (by omega), if_pos (by rw [recsF_length]; omega), if_pos trivial, if_pos (by omega), if_pos (by omega), hr0, if_pos rfl, if_pos (by omega), sameB_self body (by omega) k (by omega), Option.bind_some, if_pos rfl, wrap_up i (by omega)]
    exact ih k (i + 1) (by omega) (by omega)
set_option maxHeartbeats 1000000 in
theorem fnLog_l0 (code more : List Int) (hb : Bytes code) (hm : Bytes more) (first : Int) (body : List Int) (hbody : Bytes body) (n : Nat) (hn : n ≤ 5) (hf : 0 ≤ first ∧ first ≤ 1000000000000) (hbl : body.length ≤ 1000) :
    ∀ (d k i : Nat), i + d = n → 800000 + d < k → laws_FnLog.l0 k code more (n : Int) (flatR (recsF first body 0 i)) (i : Int) first body = some true := by
  intro d
  induction d with
  | zero =>
    intro k i hi hk
    obtain rfl : i = n := by omega
    obtain ⟨k, rfl⟩ : ∃ m, k = m + 1 := ⟨k - 1, by omega⟩
    simp only [laws_FnLog.l0]
    have e1 : IntKind.u64.wrap (i : Int) = (i : Int) := u64_of _ (by omega) (by omega)
    have e2 : IntKind.u64.wrap (first + (i : Int)) = first + (i : Int) := u64_of _ (by omega) (by omega)
    rw [if_pos (by omega), Option.bind_some, if_pos (by simp only [List.length_singleton]; omega), Option.bind_some]
    simp only [List.singleton_append, List.length_cons]
    by_cases hbig : ((body.length + 1 : Nat) : Int) > 1000
    · rw [if_pos hbig]
    · rw [if_neg hbig, e1, e2]
      clear e1 e2
      have hbc : Bytes ((i : Int) % 256 :: body) := fun x hx => by
        rcases List.mem_cons.1 hx with rfl | hx
        · omega
        · exact hbody x hx
      rw [impl_rec_f _ _ (by omega) (by omega) hbc k (by omega), Option.bind_some]
      have hl := recB_len (first + (i : Int)) ((i : Int) % 256 :: body) (by simp only [List.length_cons]; omega)
      have e3 : wrap64 (14 + ((body.length + 1 : Nat) : Int)) = 14 + ((body.length + 1 : Nat) : Int) := by unfold wrap64; omega
      simp only [hl, e3]
      clear e3
      simp only [List.length_cons]
      rw [if_pos (by omega), if_pos trivial]
      obtain ⟨t, ht, t0, t1⟩ := take_ok more hm 1 (by omega)
      rw [ht, Option.bind_some, if_neg (by omega)]
      generalize hj : Int.tmod t ((14 + (body.length + 1) : Nat) : Int) = j
      have j0 : 0 ≤ j := by rw [← hj]; exact Int.tmod_nonneg _ t0
      have j1 : j < ((14 + (body.length + 1) : Nat) : Int) := by rw [← hj]; exact Int.tmod_lt_of_pos _ (by omega)
      rw [if_pos j0, if_pos (by omega), Option.bind_some]
      have hfl := flatR_recsF_len first body (by omega) i 0
      have hfl2 : (flatR (recsF first body 0 i)).length ≤ 5 * 1015 := by
        rw [hfl]
        exact Nat.mul_le_mul hn (by omega)
      have htl : ((recB (first + (i : Int)) ((i : Int) % 256 :: body)).take j.toNat).length ≤ 1014 := by rw [List.length_take, hl]; simp only [List.length_cons]; omega
      rw [if_pos (by omega), wrap_up i (by omega)]
      obtain ⟨k, rfl⟩ : ∃ m, k = m + 1 := ⟨k - 1, by omega⟩
      simp only [laws_FnLog.l0]
      rw [if_neg (by omega)]
      have hmem := recsF_mem first body i 0
      have hx : ∀ x ∈ recsF first body 0 i, 0 ≤ x.f0 ∧ x.f0 < 18446744073709551616 ∧ x.f1.length ≤ 1000 := by
        intro x hx
        obtain ⟨q, hq, rfl⟩ := hmem x hx
        simp only [recF, List.length_cons]
        omega
      have hxb : ∀ x ∈ recsF first body 0 i, Bytes x.f1 := by
        intro x hx y hy
        obtain ⟨q, hq, rfl⟩ := hmem x hx
        simp only [recF] at hy
        rcases List.mem_cons.1 hy with rfl | hy
        · omega
        · exact hbody y hy
      have hR := logF_recs (recsF first body 0 i) ((recB (first + (i : Int)) ((i : Int) % 256 :: body)).take j.toNat) hx (chain_recsF first body hf.1 i 0 [] (by omega) (by simp)) (torn_rec _ _ _ (by simp only [List.length_cons]; omega) _ (by simp only [List.length_cons]; omega))
      have hbytes : Bytes (flatR (recsF first body 0 i) ++ (recB (first + (i : Int)) ((i : Int) % 256 :: body)).take j.toNat) := bytes_append (flatR_bytes _ hxb) (fun x hx => recB_bytes _ _ hbc x (List.mem_of_mem_take hx))
      have hI : impl_ReadLog.f (flatR (recsF first body 0 i) ++ (recB (first + (i : Int)) ((i : Int) % 256 :: body)).take j.toNat) = some (recsF first body 0 i, ((flatR (recsF first body 0 i)).length : Int)) := by
        have := logO_of hbytes (by rw [List.length_append]; omega)
        rw [hR] at this
        exact this
      rw [hI, Option.bind_some]
      simp only
      have e5 : wrap64 (15 + (body.length : Int)) = 15 + (body.length : Int) := by unfold wrap64; omega
      have hmul : (i : Int) * (15 + (body.length : Int)) = ((flatR (recsF first body 0 i)).length : Int) := by rw [hfl]; simp
      have e6 : wrap64 ((i : Int) * (15 + (body.length : Int))) = ((flatR (recsF first body 0 i)).length : Int) := by rw [hmul]; unfold wrap64; omega
      rw [if_pos (by rw [recsF_length]), e5, e6]
      clear e5 e6 hmul
      obtain ⟨k, rfl⟩ : ∃ m, k = m + 1 := ⟨k - 1, by omega⟩
      simp only [laws_FnLog.j3]
      rw [if_neg (by simp)]
      exact fnLog_l1 code hb first body i hn hf (by omega) i k 0 (by omega) (by omega)
  | succ d ih =>
    intro k i hi hk
    obtain ⟨k, rfl⟩ : ∃ m, k = m + 1 := ⟨k - 1, by omega⟩
    simp only [laws_FnLog.l0]
    have e1 : IntKind.u64.wrap (i : Int) = (i : Int) := u64_of _ (by omega) (by omega)
    have e2 : IntKind.u64.wrap (first + (i : Int)) = first + (i : Int) := u64_of _ (by omega) (by omega)
    rw [if_pos (by omega), Option.bind_some, if_pos (by simp only [List.length_singleton]; omega), Option.bind_some]
    simp only [List.singleton_append, List.length_cons]
    by_cases hbig : ((body.length + 1 : Nat) : Int) > 1000
    · rw [if_pos hbig]
    · rw [if_neg hbig, e1, e2]
      clear e1 e2
      have hbc : Bytes ((i : Int) % 256 :: body) := fun x hx => by
        rcases List.mem_cons.1 hx with rfl | hx
        · omega
        · exact hbody x hx
      rw [impl_rec_f _ _ (by omega) (by omega) hbc k (by omega), Option.bind_some]
      have hl := recB_len (first + (i : Int)) ((i : Int) % 256 :: body) (by simp only [List.length_cons]; omega)
      have e3 : wrap64 (14 + ((body.length + 1 : Nat) : Int)) = 14 + ((body.length + 1 : Nat) : Int) := by unfold wrap64; omega
      simp only [hl, e3]
      clear e3
      simp only [List.length_cons]
      have hfl2 : (flatR (recsF first body 0 i)).length ≤ 5 * 1015 := by
        rw [flatR_recsF_len first body (by omega) i 0]
        exact Nat.mul_le_mul (by omega) (by omega)
      rw [if_pos (by omega), if_neg (by omega), if_pos (by omega), wrap_up i (by omega)]
      have := ih k (i + 1) (by omega) (by omega)
      rw [recsF_snoc, flatR_snoc, Nat.zero_add] at this
      exact this
theorem FnLog_f (l0 l1 : List Int) (hb : Bytes l0) (hm : Bytes l1) : ∃ k, laws_FnLog.f k l0 l1 = some true := by
  refine ⟨1000000, ?_⟩
  have h1 : ∀ b : Bool, (∃ k, 1000000 = k + 1 ∧ (b = false → True)) := fun b => ⟨999999, rfl, fun _ => trivial⟩
  unfold laws_FnLog.f
  have main : ∀ b : Bool, laws_FnLog.j0 (999999 + 1) l0 l1 b = some true := by
    intro b
    simp only [laws_FnLog.j0]
    split
    · rfl
    · obtain ⟨v, body, hd, v0, v1, hbb, hbl⟩ := drawRecord_ok l0 hb 999999 (by omega)
      obtain ⟨t, ht, t0, t1⟩ := take_ok l1 hm 0 (by omega)
      rw [hd, Option.bind_some, ht, Option.bind_some]
      simp only
      have e : Int.tmod t 5 = t % 5 := Int.tmod_eq_emod_of_nonneg t0
      have e2 : wrap64 (1 + t % 5) = 1 + t % 5 := by unfold wrap64; omega
      rw [e, e2]
      have j1 : ∀ b : Bool, (b = false → body.length ≤ 1000 ∧ v ≤ 1000000000000) → laws_FnLog.j1 (999998 + 1) l0 l1 (1 + t % 5) b v body = some true := by
        intro b hbf
        simp only [laws_FnLog.j1]
        split
        · rfl
        · rename_i hne
          obtain ⟨g1, g2⟩ := hbf (by cases b <;> simp_all)
          obtain ⟨n, hn⟩ := Int.eq_ofNat_of_zero_le (show 0 ≤ 1 + t % 5 by omega)
          rw [hn]
          have := fnLog_l0 l0 l1 hb hm v body hbb n (by omega) ⟨v0, g2⟩ g1 n 999998 0 (by omega) (by omega)
          simpa [recsF, flatR] using this
      split
      · exact j1 true (fun h => by cases h)
      · exact j1 _ (fun h => ⟨by omega, by have := of_decide_eq_false h; omega⟩)
  split
  · exact main true
  · exact main _
theorem FnLog_walk (A0 : Option Addr) (c0 : Nat) (l0 : List Int) (A1 : Option Addr) (c1 : Nat) (l1 : List Int) (w : World) (h0 : Kd.C (Kd.int .u8) w A0 l0.length l0) (hc0 : l0.length ≤ c0) (hb0 : ∀ x ∈ l0, 0 ≤ x ∧ x < 256) (h1 : Kd.C (Kd.int .u8) w A1 l1.length l1) (hc1 : l1.length ≤ c1) (hb1 : ∀ x ∈ l1, 0 ≤ x ∧ x < 256) :
    Calls Try.prog 14 #[.slice A0 l0.length c0, .slice A1 l1.length c1] w fun e w' => e = .returned (.bool true) ∧ Below w.heap.size w w' := by
  obtain ⟨k, hk⟩ := FnLog_f l0 l1 hb0 hb1
  exact laws_FnLog.calls k A0 c0 l0 A1 c1 l1 w h0 hc0 h1 hc1 hk
end Go.Proofs.Ytbapokpkgonjkaa.Print
namespace Go.Proofs.Ytbapokpkgonjkaa.fnLog
open Go.ChangeShapes Go.WideShapes Go.ChangeAt Go.RowKit Print
open Go.ChangeMaps (open_string shut_string)
open Go.Proofs.YtbapokpkgonjkaaW.PrintWords Go.Proofs.YtbapokpkgonjkaaW.PrintLast Go.Proofs.YtbapokpkgonjkaaW.PrintMore
set_option linter.unusedVariables false
theorem own : ownKnob Try.prog.godebug = none := by kernel_rfl
theorem laidOut : laidOutB Try.prog = true := by kernel_rfl
set_option maxRecDepth 100000 in
theorem lifted (os : Os) (started : os.Started) (H : Type) (enc : TypeId × Value → H) :
    ReturnsInHanded {} Try.checked os 14 .any (Rows.fnLogSpec.pre6 enc Try.prog Try.f14 Rows.fnLogRow.domain false) (Rows.fnLogSpec.post enc Try.prog Try.f14 false true false false) := by
  refine returnsInHanded_of_change_sized (C := Try.checked) own started (by kernel_rfl) Try.func14
    (ChangeSpec.witness6 (enc := enc) (C := Try.checked) false ⟨#[], #[.slice none 0 0, .slice none 0 0], []⟩ 8 (by kernel_rfl) (by kernel_rfl) (by kernel_rfl) (by kernel_rfl)) ?_
  intro W base args ds gs before hval0 hW hcnd hsz0 _
  have hsz : (DataW.weightsEach Try.prog (Try.f14.params.toList ++ Rows.fnLogSpec.plain.varTypes Try.prog) (ds ++ gs)).all (· ≤ reachBytes) = true := hsz0
  have hval : ∀ (j : Nat) t v, Try.f14.params[j]? = some t → args[j]? = some v → Value.okWide Try.prog W .any base t v := hval0
  have hW' := hW
  obtain ⟨p, q, hA0, hV, rfl, hfz, hnd⟩ := hW
  have hA : DataW.TrodAll enc Try.prog W 0 (fun _ => true) true Try.f14.params.toList args.toList ds p := hA0
  rw [Try.params14] at hA hval hsz
  obtain ⟨v0, vs0, d0, ds0, p0, q0, hargs, rfl, rfl, h0, r0⟩ := trodAll_cons hA
  obtain ⟨v1, vs1, d1, ds1, p1, q1, rfl, rfl, rfl, h1, r1⟩ := trodAll_cons r0
  obtain ⟨rfl, rfl, rfl⟩ := trodAll_nil r1
  obtain rfl : args = #[v0, v1] := by cases args; simp_all
  obtain ⟨rfl, rfl⟩ := trodVars_none hV
  have k0 := h0
  have lt0 : ∀ x ∈ p0, x.block < W.heap.size := by obtain ⟨m, hm⟩ := k0; exact DataW.trod_lt m _ _ _ hm
  have k1 := h1
  have lt1 : ∀ x ∈ p1, x.block < W.heap.size := by obtain ⟨m, hm⟩ := k1; exact DataW.trod_lt m _ _ _ hm
  obtain ⟨A0, c0, l0, rfl, hd0, hc0, g0, w0⟩ := bytes_open hsz (j := 0) rfl rfl (hval 0 22 v0 rfl rfl) h0
  obtain ⟨A1, c1, l1, rfl, hd1, hc1, g1, w1⟩ := bytes_open hsz (j := 1) rfl rfl (hval 1 22 v1 rfl rfl) h1
  clear hA0 hval0 hsz0 hsz
  refine (FnLog_walk A0 c0 l0 A1 c1 l1 W hd0 hc0 (byte_range w0) hd1 hc1 (byte_range w1)).mono fun e W' ⟨he, bel⟩ => ?_
  subst he
  exact ⟨_, rfl, _, _, _, [], _, [], hW', trodAll_mk1 (shut_bool Try.underlying4 _), (trodAll_cons_mk (Below.trod laidOut (by kernel_rfl) (of_decide_eq_true (by kernel_rfl)) k0 bel lt0) (trodAll_cons_mk (Below.trod laidOut (by kernel_rfl) (of_decide_eq_true (by kernel_rfl)) k1 bel lt1) trodAll_mk0)), rfl, bel.frame _, fun h => by cases h⟩
theorem over : Rows.fnLogRow.holds Try.pinned (OpenSpec.ofChange Rows.fnLogSpec) :=
  OpenClaim.holds_of_wide 14 Try.f14 rfl rfl rfl rfl rfl rfl rfl ⟨rfl, rfl, rfl, rfl, rfl⟩ rfl rfl rfl rfl rfl (by kernel_rfl) Try.func14 (by kernel_rfl)
    (of_decide_eq_true (by kernel_rfl)) (by unfold Func.isWrapper; first | (rw [if_pos (by decide +kernel)]; kernel_rfl) | (rw [if_neg (by decide +kernel)]; exact ⟨rfl, rfl⟩))
    (fun os started H enc _ => lifted os started H enc)
theorem proved : Rows.FnLogSaid := over
end Go.Proofs.Ytbapokpkgonjkaa.fnLog
namespace Go.Proofs.Ytbapokpkgonjkaa
theorem fnLog_holds : Rows.FnLogSaid := fnLog.proved
end Go.Proofs.Ytbapokpkgonjkaa
