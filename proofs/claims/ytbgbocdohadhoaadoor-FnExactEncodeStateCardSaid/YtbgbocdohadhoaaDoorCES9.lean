/- Texts of this session, joined by its own program. -/
import Derived.WalkSpells
import Derived.Laws.CopyRow
import Derived.Test.YtbgbocdohadhoaaDoorCES8
namespace Go.Proofs.YtbgbocdohadhoaaDoor.Print
open Go Go.RowKit Go.Proofs.YtbgbocdohadhoaaDoorW.PrintWords Go.Proofs.YtbgbocdohadhoaaDoorW.PrintLast Go.Proofs.YtbgbocdohadhoaaDoorW.PrintMore
set_option linter.unusedVariables false
set_option linter.unusedSimpArgs false
theorem valIC : ValIC := fun e g n t As cs xs An cn ns w h1 hc1 h2 hc2 hs hx hm => by
 have h := impl_ValidState_calls e g n t As cs xs An cn ns w h1 hc1 h2 hc2 ⟨hs.x, hs.n, hs.e, hs.m⟩ ⟨hx, hm⟩
 rw [valid_eq] at h
 exact h
def spec_l3var.f : Nat → Int → Option (List Int)
 | 0, _ => none
 | k + 1, a0 => if a0 < 128 then (some (([(a0) % 256] : List Int))) else ((some (([(IntKind.u64.wrap ((Int.tmod a0 128) + 128)) % 256] : List Int) : List Int)).bind fun y347 => ((spec_l3var.f k (IntKind.u64.wrap (Int.tdiv a0 128))).bind fun t350 => (if y347.length + t350.length < 140737488355328 then (some (y347 ++ t350)) else (none))))
set_option maxHeartbeats 8000000 in
set_option maxRecDepth 100000 in
theorem spec_l3var.calls (k : Nat) : ∀ (a0 : Int) (r : List Int) (w : World) (h : spec_l3var.f k a0 = some r),
  Calls Tryd.prog 105 #[.int .u64 a0] w fun e w' => ∃ v0_ : Value, e = .returned (v0_) ∧ Kd.R (Kd.int .u8) 5 w' w.heap.size (fun _ => True) v0_ r ∧ Below w.heap.size w w' := by
 induction k using Nat.strongRecOn with
 | _ k ih =>
 intro a0 r w h
 cases k with
 | zero => exact absurd h (by simp [spec_l3var.f])
 | succ k =>
 simp only [spec_l3var.f] at h
 have HB := Aside0.mk (Below.refl w.heap.size w)
 have H : (if a0 < 128 then (some (([(a0) % 256] : List Int))) else ((some (([(IntKind.u64.wrap ((Int.tmod a0 128) + 128)) % 256] : List Int) : List Int)).bind fun y347 => ((spec_l3var.f k (IntKind.u64.wrap (Int.tdiv a0 128))).bind fun t350 => (if y347.length + t350.length < 140737488355328 then (some (y347 ++ t350)) else (none))))) = some r := h
 clear h
 by_cases c2 : a0 < 128
 ·
  rw [if_pos c2] at H
  have c2b0 : decide (a0 < 128) = true := decide_eq_true c2
  clear c2
  obtain ⟨y344, hy344⟩ : ∃ y_ : List Int, y_ = (([(a0) % 256] : List Int)) := ⟨_, rfl⟩
  replace H : (some y344) = some r := by first | (rw [hy344]; with_reducible exact H) | (have H2_ := (Option.bind_some _ _).symm.trans H; rw [hy344]; with_reducible exact H2_) | (have H2_ := (Option.bind_some _ _).symm.trans H; with_reducible exact H2_) | with_reducible exact H | (rw [hy344]; exact H) | exact H
  have Ny344 := Aside0.mk hy344
  clear hy344
  obtain rfl := Option.some.inj H
  go_enter Tryd.func105, Tryd.ntmps105
  go_wp2_with (first | ((with_reducible refine gate_dst (N := 8) rfl ?_); refine Kd.R_lit (Kd.int .u8) _ 5 ?hg (N := 8) ?hd (xs := ([(a0) % 256] : List Int)) (inner := [.int .u8 ((a0) % 256)]) (ok := fun _ => True) (okp := fun _ => True) ?hr ?hp (fun _ hk => hk) trivial (Below.refl _ _) (Nat.le_refl _) (by simp) ?_; (case hd => rfl); (case hg => rfl); (case hr => first | (go_simp; done) | (go_simp; rfl)); (case hp => exact (Reps.one (show Kd.M (Kd.int .u8) _ _ _ ((a0) % 256) [.int .u8 ((a0) % 256)] from rfl) (Reps.none _ _))); intro v345 w3 ho4 hb hg_ hnew_; clear hg_ hnew_; (first | rw [← Ny344.out] at ho4 | (simp only [Int.reduceToNat] at ho4; rw [← Ny344.out] at ho4)); have n0_ := Aside0.mk (Kd.R_lower ho4 (below_size (by repeat (first | (with_reducible first | exact HB.out | apply below_alloc | apply pw_below_drewN | apply below_drew1) | exact HB.out)))); have n1_ := Aside0.mk (below_step (by repeat (first | (with_reducible first | exact HB.out | apply below_alloc | apply pw_below_drewN | apply below_drew1) | exact HB.out)) hb); clear HB; have HO346 := n0_; have HB := n1_; clear n0_ n1_; clear hb ho4))
  go_ret
  exact ⟨_, by first | rfl | (simp [errW_none, errW_some] <;> rfl) | (simp [*, errW_none, errW_some] <;> rfl), by (with_reducible repeat (first | apply Kd.R_alloc | apply Kd.R_drewN | apply Kd.R_drew)); exact HO346.out, by repeat (first | (with_reducible first | exact HB.out | apply below_alloc | apply pw_below_drewN | apply below_drew1) | exact HB.out)⟩
 ·
  rw [if_neg c2] at H
  have c2b0 : decide (a0 < 128) = false := decide_eq_false c2
  clear c2
  obtain ⟨y347, hy347⟩ : ∃ y_ : List Int, y_ = (([(IntKind.u64.wrap ((Int.tmod a0 128) + 128)) % 256] : List Int)) := ⟨_, rfl⟩
  replace H : ((spec_l3var.f k (IntKind.u64.wrap (Int.tdiv a0 128))).bind fun t350 => (if y347.length + t350.length < 140737488355328 then (some (y347 ++ t350)) else (none))) = some r := by first | (rw [hy347]; with_reducible exact H) | (have H2_ := (Option.bind_some _ _).symm.trans H; rw [hy347]; with_reducible exact H2_) | (have H2_ := (Option.bind_some _ _).symm.trans H; with_reducible exact H2_) | with_reducible exact H | (rw [hy347]; exact H) | exact H
  have Ny347 := Aside0.mk hy347
  clear hy347
  replace H := Option.bind_eq_some_iff.mp H
  obtain ⟨t350, A50, H⟩ := H
  replace H : (if y347.length + t350.length < 140737488355328 then (some (y347 ++ t350)) else (none)) = some r := H
  have A5 := Aside0.mk A50
  clear A50
  by_cases c6 : y347.length + t350.length < 140737488355328
  ·
   rw [if_pos c6] at H
   have LMc6 := Aside0.mk c6
   clear c6
   obtain ⟨y353, hy353⟩ : ∃ y_ : List Int, y_ = (y347 ++ t350) := ⟨_, rfl⟩
   replace H : (some y353) = some r := by first | (rw [hy353]; with_reducible exact H) | (have H2_ := (Option.bind_some _ _).symm.trans H; rw [hy353]; with_reducible exact H2_) | (have H2_ := (Option.bind_some _ _).symm.trans H; with_reducible exact H2_) | with_reducible exact H | (rw [hy353]; exact H) | exact H
   have Ny353 := Aside0.mk hy353
   clear hy353
   obtain rfl := Option.some.inj H
   go_enter Tryd.func105, Tryd.ntmps105
   go_wp2_with (first | ((with_reducible refine gate_dst (N := 13) rfl ?_); refine Kd.R_lit (Kd.int .u8) _ 5 ?hg (N := 13) ?hd (xs := ([(IntKind.u64.wrap ((Int.tmod a0 128) + 128)) % 256] : List Int)) (inner := [.int .u8 ((IntKind.u64.wrap ((Int.tmod a0 128) + 128)) % 256)]) (ok := fun _ => True) (okp := fun _ => True) ?hr ?hp (fun _ hk => hk) trivial (Below.refl _ _) (Nat.le_refl _) (by simp) ?_; (case hd => rfl); (case hg => rfl); (case hr => first | (go_simp; done) | (go_simp; rfl)); (case hp => exact (Reps.one (show Kd.M (Kd.int .u8) _ _ _ ((IntKind.u64.wrap ((Int.tmod a0 128) + 128)) % 256) [.int .u8 ((IntKind.u64.wrap ((Int.tmod a0 128) + 128)) % 256)] from rfl) (Reps.none _ _))); intro v348 w7 ho8 hb hg_ hnew_; clear hg_ hnew_; (first | rw [← Ny347.out] at ho8 | (simp only [Int.reduceToNat] at ho8; rw [← Ny347.out] at ho8)); have n0_ := Aside0.mk (Kd.R_lower ho8 (below_size (by repeat (first | (with_reducible first | exact HB.out | apply below_alloc | apply pw_below_drewN | apply below_drew1) | exact HB.out)))); have n1_ := Aside0.mk (below_step (by repeat (first | (with_reducible first | exact HB.out | apply below_alloc | apply pw_below_drewN | apply below_drew1) | exact HB.out)) hb); clear HB; have HO349 := n0_; have HB := n1_; clear n0_ n1_; clear hb ho8) | ((with_reducible refine gate_callee (f := 105) rfl ?_); refine goesL_ (some 17) rfl rfl Tryd.func105 (by kernel_rfl) rfl #[.int .u64 (IntKind.u64.wrap (Int.tdiv a0 128))] rfl (by (try simp only [List.map_toArray, List.map_cons, List.map_nil]); first | done | rfl | (simp only [List.length_drop, List.length_take]; rfl)) ?_; (with_reducible refine (ih k (by omega) (IntKind.u64.wrap (Int.tdiv a0 128)) t350 _ A5.out).mono ?_); rintro e w9 ⟨v351, rfl, ho0, hb⟩; refine ⟨_, rfl, ?_⟩; have n0_ := Aside0.mk (Kd.R_elder' (by (with_reducible repeat (first | apply Kd.R_alloc | apply Kd.R_drewN | apply Kd.R_drew)); exact HO349.out) (Kd.R_base ho0) hb); have n1_ := Aside0.mk (Kd.R_lower (Kd.R_new' ho0 (Kd.R_lt (by (with_reducible repeat (first | apply Kd.R_alloc | apply Kd.R_drewN | apply Kd.R_drew)); exact HO349.out))) (below_size (by repeat (first | (with_reducible first | exact HB.out | apply below_alloc | apply pw_below_drewN | apply below_drew1) | exact HB.out)))); have n2_ := Aside0.mk (below_step (by repeat (first | (with_reducible first | exact HB.out | apply below_alloc | apply pw_below_drewN | apply below_drew1) | exact HB.out)) hb); clear HO349; clear HB; have HO349 := n0_; have HO352 := n1_; have HB := n2_; clear n0_ n1_ n2_; (try clear hb); (try clear hb2); (try clear hk); (try clear hi); (try clear ho0); obtain ⟨Ao11, co11, eo11⟩ := Kd.R_slice HO352.out; subst eo11) | ((with_reducible refine gate_builtin (b := .append) (xs := #[.tmp 14, .tmp 17]) rfl ?_); at_builtin; refine Kd.R_append_rows (Kd.int .u8) (w0 := w) w.heap.size rfl (.tmp 14) (.tmp 17) 22 5 (.int .u8 0) 1 rfl Tryd.underlying22 info5 rfl (by decide) (by omega) v348 y347 t350 _ _ _ (fun k_ => some k_ ≠ (.slice Ao11 t350.length co11 : Value).ownBlock) (fun _ => False) rfl rfl ?aO ?aR (fun _ _ h => h) (fun _ h => h.elim) ?aF ?aB ?aS ?aL ?_; (case aR => repeat (first | exact (Kd.R_reads' HO352.out).2.2 | (with_reducible refine Kd.C_alloc ?_ _) | (with_reducible refine Kd.C_drewN ?_ _) | (with_reducible refine Kd.C_drew ?_))); (case aB => exact (by repeat (first | (with_reducible first | exact HB.out | apply below_alloc | apply pw_below_drewN | apply below_drew1) | exact HB.out))); (case aF => exact (fun k_ hk => Kd.fresh' (Kd.R_lt (by (with_reducible repeat (first | apply Kd.R_alloc | apply Kd.R_drewN | apply Kd.R_drew)); exact HO352.out)) k_ hk)); (case aO => exact (by (with_reducible repeat (first | apply Kd.R_alloc | apply Kd.R_drewN | apply Kd.R_drew)); exact Kd.R_mono HO349.out (fun _ hk => hk.2))); (case aS => exact (below_size (by repeat (first | (with_reducible first | exact HB.out | apply below_alloc | apply pw_below_drewN | apply below_drew1) | exact HB.out)))); (case aL => have := LMc6.out; omega); intro v354 w10 ho hb hg hat; rw [← Ny353.out] at ho; have n0_ := Aside0.mk (Kd.R_after (ok := (fun _ => True)) (by (with_reducible repeat (first | apply Kd.R_alloc | apply Kd.R_drewN | apply Kd.R_drew)); exact HO352.out) hg hat); have n1_ := Aside0.mk (hb); have n2_ := Aside0.mk (ho); clear HO352; clear HB; clear HO349; have HO352 := n0_; have HB := n1_; have HO355 := n2_; clear n0_ n1_ n2_; clear ho hb hg hat))
   go_ret
   exact ⟨_, by first | rfl | (simp [errW_none, errW_some] <;> rfl) | (simp [*, errW_none, errW_some] <;> rfl), by (with_reducible repeat (first | apply Kd.R_alloc | apply Kd.R_drewN | apply Kd.R_drew)); exact Kd.R_mono HO355.out (fun _ hk => trivial), by repeat (first | (with_reducible first | exact HB.out | apply below_alloc | apply pw_below_drewN | apply below_drew1) | exact HB.out)⟩
  ·
   rw [if_neg c6] at H
   exact absurd H (by simp)
def spec_l3text.f (k : Nat) (l0 : List Int) : Option (List Int) := (spec_l3var.f k (IntKind.u64.wrap ((l0.length : Int)))).bind fun t356 => (if t356.length + l0.length < 140737488355328 then (some (t356 ++ l0)) else (none))
set_option maxHeartbeats 8000000 in
set_option maxRecDepth 100000 in
theorem spec_l3text.calls (k : Nat) (A0 : Option Addr) (c0 : Nat) (l0 : List Int) (r : List Int) (w : World) (hr0 : Kd.C (Kd.int .u8) w A0 l0.length l0) (hc0 : l0.length ≤ c0) (h : spec_l3text.f k l0 = some r) :
  Calls Tryd.prog 106 #[.slice A0 l0.length c0] w fun e w' => ∃ v0_ : Value, e = .returned (v0_) ∧ Kd.R (Kd.int .u8) 5 w' w.heap.size (fun _ => True) v0_ r ∧ Below w.heap.size w w' := by
 have HR0 := Aside0.mk hr0
 have HC0 := Aside0.mk hc0
 clear hr0 hc0
 have HB := Aside0.mk (Below.refl w.heap.size w)
 have H : ((spec_l3var.f k (IntKind.u64.wrap ((l0.length : Int)))).bind fun t356 => (if t356.length + l0.length < 140737488355328 then (some (t356 ++ l0)) else (none))) = some r := h
 clear h
 replace H := Option.bind_eq_some_iff.mp H
 obtain ⟨t356, A20, H⟩ := H
 replace H : (if t356.length + l0.length < 140737488355328 then (some (t356 ++ l0)) else (none)) = some r := H
 have A2 := Aside0.mk A20
 clear A20
 by_cases c3 : t356.length + l0.length < 140737488355328
 ·
  rw [if_pos c3] at H
  have LMc3 := Aside0.mk c3
  clear c3
  obtain ⟨y359, hy359⟩ : ∃ y_ : List Int, y_ = (t356 ++ l0) := ⟨_, rfl⟩
  replace H : (some y359) = some r := by first | (rw [hy359]; with_reducible exact H) | (have H2_ := (Option.bind_some _ _).symm.trans H; rw [hy359]; with_reducible exact H2_) | (have H2_ := (Option.bind_some _ _).symm.trans H; with_reducible exact H2_) | with_reducible exact H | (rw [hy359]; exact H) | exact H
  have Ny359 := Aside0.mk hy359
  clear hy359
  obtain rfl := Option.some.inj H
  go_enter Tryd.func106, Tryd.ntmps106
  go_wp2_with (first | ((with_reducible refine gate_callee (f := 105) rfl ?_); refine goesL_ (some 6) rfl rfl Tryd.func105 (by kernel_rfl) rfl #[.int .u64 (IntKind.u64.wrap ((l0.length : Int)))] rfl (by (try simp only [List.map_toArray, List.map_cons, List.map_nil]); first | done | rfl | (simp only [List.length_drop, List.length_take]; rfl)) ?_; (with_reducible refine (spec_l3var.calls k (IntKind.u64.wrap ((l0.length : Int))) t356 _ A2.out).mono ?_); rintro e w4 ⟨v357, rfl, ho0, hb⟩; refine ⟨_, rfl, ?_⟩; have n0_ := Aside0.mk (Kd.R_lower ho0 (below_size (by repeat (first | (with_reducible first | exact HB.out | apply below_alloc | apply pw_below_drewN | apply below_drew1) | exact HB.out)))); have n1_ := Aside0.mk (below_step (by repeat (first | (with_reducible first | exact HB.out | apply below_alloc | apply pw_below_drewN | apply below_drew1) | exact HB.out)) hb); clear HB; have HO358 := n0_; have HB := n1_; clear n0_ n1_; (try clear hb); (try clear hb2); (try clear hk); (try clear hi); (try clear ho0)) | ((with_reducible refine gate_builtin (b := .append) (xs := #[.tmp 6, .tmp 7]) rfl ?_); at_builtin; refine Kd.R_append_rows (Kd.int .u8) (w0 := w) w.heap.size rfl (.tmp 6) (.tmp 7) 22 5 (.int .u8 0) 1 rfl Tryd.underlying22 info5 rfl (by decide) (by omega) v357 t356 l0 _ _ _ (fun _ => True) (fun _ => False) rfl rfl ?aO ?aR (fun _ _ h => h) (fun _ h => h.elim) ?aF ?aB ?aS ?aL ?_; (case aR => repeat (first | exact (Kd.C_below HR0.out HB.out) | (with_reducible refine Kd.C_alloc ?_ _) | (with_reducible refine Kd.C_drewN ?_ _) | (with_reducible refine Kd.C_drew ?_))); (case aB => exact (by repeat (first | (with_reducible first | exact HB.out | apply below_alloc | apply pw_below_drewN | apply below_drew1) | exact HB.out))); (case aF => exact (fun _ _ => trivial)); (case aO => exact (by (with_reducible repeat (first | apply Kd.R_alloc | apply Kd.R_drewN | apply Kd.R_drew)); exact HO358.out)); (case aS => exact (below_size (by repeat (first | (with_reducible first | exact HB.out | apply below_alloc | apply pw_below_drewN | apply below_drew1) | exact HB.out)))); (case aL => have := LMc3.out; omega); intro v360 w5 ho hb hg hat; rw [← Ny359.out] at ho; have n0_ := Aside0.mk (hb); have n1_ := Aside0.mk (ho); clear HB; clear HO358; have HB := n0_; have HO361 := n1_; clear n0_ n1_; clear ho hb hg hat))
  go_ret
  exact ⟨_, by first | rfl | (simp [errW_none, errW_some] <;> rfl) | (simp [*, errW_none, errW_some] <;> rfl), by (with_reducible repeat (first | apply Kd.R_alloc | apply Kd.R_drewN | apply Kd.R_drew)); exact HO361.out, by repeat (first | (with_reducible first | exact HB.out | apply below_alloc | apply pw_below_drewN | apply below_drew1) | exact HB.out)⟩
 ·
  rw [if_neg c3] at H
  exact absurd H (by simp)
def varB : Nat → Int → List Int
 | 0, _ => []
 | k + 1, v => if v < 128 then [v] else (v % 128 + 128) :: varB k (v / 128)
def varN (v : Int) : List Int := varB 10 v
def textB (b : List Int) : List Int := varN (b.length : Int) ++ b
theorem varB_length (k : Nat) : ∀ v, (varB k v).length ≤ k := by
 induction k with
 | zero => intro v; simp [varB]
 | succ k ih =>
  intro v
  simp only [varB]
  split
  ·
   simp
  ·
   have := ih (v / 128)
   simp only [List.length_cons]
   omega
theorem varN_length (v : Int) : (varN v).length ≤ 10 := varB_length 10 v
theorem u64_idI (v : Int) (h0 : 0 ≤ v) (h1 : v < 18446744073709551616) : IntKind.u64.wrap v = v := by
 have e : IntKind.u64.wrap v = v % 18446744073709551616 := by simp [IntKind.wrap, IntKind.signed, IntKind.bits]
 rw [e]
 omega
theorem var_f (n : Nat) : ∀ (k : Nat) (v : Int), 0 ≤ v → v < 18446744073709551616 → v < 128 ^ n → n ≤ 10 → 0 < n → n ≤ k → spec_l3var.f k v = some (varB n v) := by
 induction n with
 | zero => intro k v _ _ _ _ h; omega
 | succ n ih =>
  intro k v h0 h1 hv hn _ hk
  obtain ⟨k, rfl⟩ : ∃ m, k = m + 1 := ⟨k - 1, by omega⟩
  simp only [spec_l3var.f, varB]
  by_cases c : v < 128
  ·
   rw [if_pos c, if_pos c, show v % 256 = v by omega]
  ·
   rw [if_neg c, if_neg c, Option.bind_some]
   have e1 : Int.tmod v 128 = v % 128 := Int.tmod_eq_emod_of_nonneg h0
   have e2 : Int.tdiv v 128 = v / 128 := Int.tdiv_eq_ediv_of_nonneg h0
   have h128 : v / 128 < 128 ^ n := by
    rw [Int.ediv_lt_iff_lt_mul (by omega)]
    rw [Int.pow_succ] at hv
    exact hv
   have hn0 : 0 < n := by
    rcases Nat.eq_zero_or_pos n with rfl | h
    ·
     simp at hv; omega
    ·
     exact h
   rw [e1, e2, u64_idI _ (by omega) (by omega), u64_idI _ (by omega) (by omega), ih k (v / 128) (by omega) (by omega) h128 (by omega) hn0 (by omega), Option.bind_some, if_pos (by have := varB_length n (v / 128); simp only [List.length_singleton]; omega), show (v % 128 + 128) % 256 = v % 128 + 128 by omega]
   rfl
theorem varN_f (k : Nat) (v : Int) (h0 : 0 ≤ v) (h1 : v < 18446744073709551616) (hk : 10 ≤ k) : spec_l3var.f k v = some (varN v) :=
 var_f 10 k v h0 h1 (Int.lt_trans h1 (by decide)) (by omega) (by omega) hk
theorem textB_length (b : List Int) : (textB b).length ≤ 10 + b.length := by
 unfold textB
 rw [List.length_append]
 have := varN_length (b.length : Int)
 omega
theorem text_f (k : Nat) (b : List Int) (hb : b.length ≤ 140737488350000) (hk : 10 ≤ k) : spec_l3text.f k b = some (textB b) := by
 unfold spec_l3text.f
 rw [u64_idI _ (by omega) (by omega), varN_f k _ (by omega) (by omega) hk, Option.bind_some, if_pos (by have := varN_length (b.length : Int); omega)]
 rfl
theorem var_ok (v : Int) (h0 : 0 ≤ v) (h1 : v < 18446744073709551616) (w : World) : Calls Tryd.prog 105 #[.int .u64 v] w fun e w' => ∃ B d, e = .returned (.slice B (varN v).length d) ∧ Kd.R (Kd.int .u8) 5 w' w.heap.size (fun _ => True) (.slice B (varN v).length d) (varN v) ∧ Below w.heap.size w w' := by
 refine (spec_l3var.calls 10 v _ w (varN_f 10 v h0 h1 (by omega))).mono ?_
 rintro e w' ⟨u, rfl, hr, hb⟩
 obtain ⟨B, d, rfl⟩ := Kd.R_slice hr
 exact ⟨B, d, rfl, hr, hb⟩
theorem text_ok (A : Option Addr) (c : Nat) (l : List Int) (hl : l.length ≤ 140737488350000) (w : World) (h : Kd.C (Kd.int .u8) w A l.length l) (hc : l.length ≤ c) : Calls Tryd.prog 106 #[.slice A l.length c] w fun e w' => ∃ B d, e = .returned (.slice B (textB l).length d) ∧ Kd.R (Kd.int .u8) 5 w' w.heap.size (fun _ => True) (.slice B (textB l).length d) (textB l) ∧ Below w.heap.size w w' := by
 refine (spec_l3text.calls 10 A c l _ w h hc (text_f 10 l hl (by omega))).mono ?_
 rintro e w' ⟨u, rfl, hr, hb⟩
 obtain ⟨B, d, rfl⟩ := Kd.R_slice hr
 exact ⟨B, d, rfl, hr, hb⟩
theorem readsNone2 {α : Type} {R : α → List Value → Prop} {size : Nat} {w : World} {n : Nat} {l : List α} (h : ReadsRow R size w none n l) : l = [] := by
 rcases Nat.eq_zero_or_pos n with h0 | h0
 ·
  exact List.eq_nil_of_length_eq_zero (by rw [h.1, h0])
 ·
  obtain ⟨ad, e, _⟩ := h.2.2 h0
  cases e
theorem lit_empty2 (w : World) : Kd.R (Kd.int .u8) 5 (w.alloc (.cells #[] 5)) w.heap.size (fun _ => True) (.slice (some ⟨w.heap.size, 0, none⟩) 0 0) [] :=
 ⟨fun _ _ => trivial, [], own_lit w w.heap.size 5 .u8 [] (Nat.le_refl _) (by decide), ⟨rfl, fun j p h => by simp at h⟩⟩
def slices_Clone_byte_byte.f (l0 : List Int) : Option (List Int) := if l0.length < 140737488355328 then some l0 else none
set_option maxHeartbeats 400000 in
set_option maxRecDepth 100000 in
theorem slices_Clone_byte_byte.calls (A0 : Option Addr) (c0 : Nat) (l0 : List Int) (r : List Int) (w : World) (hr0 : Kd.C (Kd.int .u8) w A0 l0.length l0) (hc0 : l0.length ≤ c0) (h : slices_Clone_byte_byte.f l0 = some r) :
  Calls Tryd.prog 130 #[.slice A0 l0.length c0] w fun e w' => ∃ v0_ : Value, e = .returned (v0_) ∧ Kd.R (Kd.int .u8) 5 w' w.heap.size (fun _ => True) v0_ r ∧ Below w.heap.size w w' := by
 unfold slices_Clone_byte_byte.f at h
 split at h
 case isFalse => cases h
 rename_i hl0
 have HL := Aside0.mk hl0
 clear hl0
 obtain rfl := Option.some.inj h
 clear h
 have HR := Aside0.mk hr0
 clear hr0
 have ke : ∀ (a : Option Addr) (n c : Nat) (W : World), (binOp .eql 22 (.slice a n c) (.slice none 0 0)).run Tryd.prog W = .ok (.bool a.isNone) W := fun a n c W => Lib.run_eql_slice_nil W 22 5 a n c 0 0 Tryd.underlying22
 rcases A0 with _ | ad
 ·
  obtain rfl := readsNone2 HR.out
  go_enter Tryd.func130, Tryd.ntmps130
  go_wp2_with fail
  go_ret
  exact ⟨_, rfl, Kd.R_nil _ _ _ _ _, Below.refl _ _⟩
 ·
  go_enter Tryd.func130, Tryd.ntmps130
  go_wp2_with ((with_reducible refine gate_builtin (b := .append) (xs := #[.tmp 5, .tmp 6]) rfl ?_); at_builtin; refine Kd.R_append_rows (Kd.int .u8) (w0 := w) w.heap.size rfl (.tmp 5) (.tmp 6) 22 5 (.int .u8 0) 1 rfl Tryd.underlying22 info5 rfl (by decide) (by omega) (.slice (some ⟨w.heap.size, 0, none⟩) 0 0) ([] : List Int) l0 _ _ _ (fun _ => True) (fun _ => False) rfl rfl (lit_empty2 w) (Kd.C_alloc HR.out _) (fun _ _ h => h) (fun _ h => h.elim) (fun _ _ => trivial) (below_alloc (Below.refl _ _) _) (below_size (below_alloc (Below.refl _ _) _)) (by have := HL.out; simp only [List.length_nil]; omega) ?_; intro v1 w1 ho hb hg hat)
  go_ret
  exact ⟨_, rfl, ho, hb⟩
theorem readsNone3 {α : Type} {R : α → List Value → Prop} {size : Nat} {w : World} {n : Nat} {l : List α} (h : ReadsRow R size w none n l) : l = [] := by
 rcases Nat.eq_zero_or_pos n with h0 | h0
 ·
  exact List.eq_nil_of_length_eq_zero (by rw [h.1, h0])
 ·
  obtain ⟨ad, e, _⟩ := h.2.2 h0
  cases e
theorem lit_emptyU (w : World) : Kd.R (Kd.int .u64) 26 (w.alloc (.cells #[] 26)) w.heap.size (fun _ => True) (.slice (some ⟨w.heap.size, 0, none⟩) 0 0) [] :=
 ⟨fun _ _ => trivial, [], own_lit w w.heap.size 26 .u64 [] (Nat.le_refl _) (by decide), ⟨rfl, fun j p h => by simp at h⟩⟩
def slices_Clone_u64.f (l0 : List Int) : Option (List Int) := if l0.length < 17592186044416 then some l0 else none
set_option maxHeartbeats 400000 in
set_option maxRecDepth 100000 in
theorem slices_Clone_u64.calls (A0 : Option Addr) (c0 : Nat) (l0 : List Int) (r : List Int) (w : World) (hr0 : Kd.C (Kd.int .u64) w A0 l0.length l0) (hc0 : l0.length ≤ c0) (h : slices_Clone_u64.f l0 = some r) :
  Calls Tryd.prog 131 #[.slice A0 l0.length c0] w fun e w' => ∃ v0_ : Value, e = .returned (v0_) ∧ Kd.R (Kd.int .u64) 26 w' w.heap.size (fun _ => True) v0_ r ∧ Below w.heap.size w w' := by
 unfold slices_Clone_u64.f at h
 split at h
 case isFalse => cases h
 rename_i hl0
 have HL := Aside0.mk hl0
 clear hl0
 obtain rfl := Option.some.inj h
 clear h
 have HR := Aside0.mk hr0
 clear hr0
 have ke : ∀ (a : Option Addr) (n c : Nat) (W : World), (binOp .eql 40 (.slice a n c) (.slice none 0 0)).run Tryd.prog W = .ok (.bool a.isNone) W := fun a n c W => Lib.run_eql_slice_nil W 40 26 a n c 0 0 Tryd.underlying40
 rcases A0 with _ | ad
 ·
  obtain rfl := readsNone3 HR.out
  go_enter Tryd.func131, Tryd.ntmps131
  go_wp2_with fail
  go_ret
  exact ⟨_, rfl, Kd.R_nil _ _ _ _ _, Below.refl _ _⟩
 ·
  go_enter Tryd.func131, Tryd.ntmps131
  go_wp2_with ((with_reducible refine gate_builtin (b := .append) (xs := #[.tmp 5, .tmp 6]) rfl ?_); at_builtin; refine Kd.R_append_rows (Kd.int .u64) (w0 := w) w.heap.size rfl (.tmp 5) (.tmp 6) 40 26 (.int .u64 0) 8 rfl Tryd.underlying40 info26 rfl (by decide) (by omega) (.slice (some ⟨w.heap.size, 0, none⟩) 0 0) ([] : List Int) l0 _ _ _ (fun _ => True) (fun _ => False) rfl rfl (lit_emptyU w) (Kd.C_alloc HR.out _) (fun _ _ h => h) (fun _ h => h.elim) (fun _ _ => trivial) (below_alloc (Below.refl _ _) _) (below_size (below_alloc (Below.refl _ _) _)) (by have := HL.out; simp only [List.length_nil]; omega) ?_; intro v1 w1 ho hb hg hat)
  go_ret
  exact ⟨_, rfl, ho, hb⟩
theorem cloneB_ok (A : Option Addr) (c : Nat) (l : List Int) (w : World) (h : Kd.C (Kd.int .u8) w A l.length l) (hc : l.length ≤ c) (hl : l.length ≤ 2097152) :
  Calls Tryd.prog 130 #[.slice A l.length c] w fun e w' => ∃ B d, e = .returned (.slice B l.length d) ∧ Kd.R (Kd.int .u8) 5 w' w.heap.size (fun _ => True) (.slice B l.length d) l ∧ Below w.heap.size w w' := by
 refine (slices_Clone_byte_byte.calls A c l l w h hc (by unfold slices_Clone_byte_byte.f; rw [if_pos (by omega)])).mono ?_
 rintro e w' ⟨v, rfl, hr, hb⟩
 obtain ⟨B, d, rfl⟩ := Kd.R_slice hr
 exact ⟨B, d, rfl, hr, hb⟩
theorem cloneU_ok (A : Option Addr) (c : Nat) (l : List Int) (w : World) (h : Kd.C (Kd.int .u64) w A l.length l) (hc : l.length ≤ c) (hl : l.length ≤ 2097152) :
  Calls Tryd.prog 131 #[.slice A l.length c] w fun e w' => ∃ B d, e = .returned (.slice B l.length d) ∧ Kd.R (Kd.int .u64) 26 w' w.heap.size (fun _ => True) (.slice B l.length d) l ∧ Below w.heap.size w w' := by
 refine (slices_Clone_u64.calls A c l l w h hc (by unfold slices_Clone_u64.f; rw [if_pos (by omega)])).mono ?_
 rintro e w' ⟨v, rfl, hr, hb⟩
 obtain ⟨B, d, rfl⟩ := Kd.R_slice hr
 exact ⟨B, d, rfl, hr, hb⟩
set_option maxHeartbeats 4000000 in
set_option maxRecDepth 100000 in
theorem nodeCopy_ok (A0 : Option Addr) (c0 : Nat) (l0 : List Int) (A1 : Option Addr) (c1 : Nat) (l1 : List Int) (o m : Int) (A4 : Option Addr) (c4 : Nat) (l4 : List Int) (ep ge : Int) (A7 : Option Addr) (c7 : Nat) (l7 : List Int) (w : World)
  (h0 : Kd.C (Kd.int .u8) w A0 l0.length l0) (k0 : l0.length ≤ c0) (h1 : Kd.C (Kd.int .u8) w A1 l1.length l1) (k1 : l1.length ≤ c1) (h4 : Kd.C (Kd.int .u64) w A4 l4.length l4) (k4 : l4.length ≤ c4) (h7 : Kd.C (Kd.int .u64) w A7 l7.length l7) (k7 : l7.length ≤ c7)
  (s0 : l0.length ≤ 2097152) (s1 : l1.length ≤ 2097152) (s4 : l4.length ≤ 2097152) (s7 : l7.length ≤ 2097152) :
  Calls Tryd.prog 107 #[.agg #[.slice A0 l0.length c0, .slice A1 l1.length c1, .int .u64 o, .int .i64 m, .slice A4 l4.length c4, .int .u64 ep, .int .u64 ge, .slice A7 l7.length c7]] w fun r w' => ∃ B0 d0 B1 d1 B4 d4 B7 d7, r = .returned (.agg #[.slice B0 l0.length d0, .slice B1 l1.length d1, .int .u64 o, .int .i64 m, .slice B4 l4.length d4, .int .u64 ep, .int .u64 ge, .slice B7 l7.length d7]) ∧
   aNo.M w' w.heap.size (fun _ => True) ⟨l0, l1, o, m, l4, ep, ge, l7⟩ [.slice B0 l0.length d0, .slice B1 l1.length d1, .int .u64 o, .int .i64 m, .slice B4 l4.length d4, .int .u64 ep, .int .u64 ge, .slice B7 l7.length d7] ∧ Below w.heap.size w w' := by
 have K0 := Aside0.mk (fun (W : World) (hW : Below w.heap.size w W) => cloneB_ok A0 c0 l0 W (Kd.C_below h0 hW) k0 s0)
 have K1 := Aside0.mk (fun (W : World) (hW : Below w.heap.size w W) => cloneB_ok A1 c1 l1 W (Kd.C_below h1 hW) k1 s1)
 have K4 := Aside0.mk (fun (W : World) (hW : Below w.heap.size w W) => cloneU_ok A4 c4 l4 W (Kd.C_below h4 hW) k4 s4)
 have K7 := Aside0.mk (fun (W : World) (hW : Below w.heap.size w W) => cloneU_ok A7 c7 l7 W (Kd.C_below h7 hW) k7 s7)
 clear h0 k0 h1 k1 h4 k4 h7 k7 s0 s1 s4 s7
 go_enter Tryd.func107, Tryd.ntmps107
 go_upto_region 1 with (fail)
 have bx := blk_alloc (blk_new w (.cells #[.slice A0 l0.length c0, .slice A1 l1.length c1, .int .u64 o, .int .i64 m, .slice A4 l4.length c4, .int .u64 ep, .int .u64 ge, .slice A7 l7.length c7] 76)) (.cells #[.slice none 0 0, .slice none 0 0, .int .u64 0, .int .i64 0, .slice none 0 0, .int .u64 0, .int .u64 0, .slice none 0 0] 76)
 have bz := blk_new (w.alloc (.cells #[.slice A0 l0.length c0, .slice A1 l1.length c1, .int .u64 o, .int .i64 m, .slice A4 l4.length c4, .int .u64 ep, .int .u64 ge, .slice A7 l7.length c7] 76)) (.cells #[.slice none 0 0, .slice none 0 0, .int .u64 0, .int .i64 0, .slice none 0 0, .int .u64 0, .int .u64 0, .slice none 0 0] 76)
 simp only [World.size_alloc] at bz
 have hB := below_alloc (below_alloc (Below.refl w.heap.size w) (.cells #[.slice A0 l0.length c0, .slice A1 l1.length c1, .int .u64 o, .int .i64 m, .slice A4 l4.length c4, .int .u64 ep, .int .u64 ge, .slice A7 l7.length c7] 76)) (.cells #[.slice none 0 0, .slice none 0 0, .int .u64 0, .int .i64 0, .slice none 0 0, .int .u64 0, .int .u64 0, .slice none 0 0] 76)
 have hlt := blk_lt bz
 generalize (w.alloc (.cells #[.slice A0 l0.length c0, .slice A1 l1.length c1, .int .u64 o, .int .i64 m, .slice A4 l4.length c4, .int .u64 ep, .int .u64 ge, .slice A7 l7.length c7] 76)).alloc (.cells #[.slice none 0 0, .slice none 0 0, .int .u64 0, .int .i64 0, .slice none 0 0, .int .u64 0, .int .u64 0, .slice none 0 0] 76) = W0 at *
 have BX := Aside0.mk bx
 have BZ := Aside0.mk bz
 have HB := Aside0.mk hB
 have S0 := Aside0.mk hlt
 clear bx bz hB hlt
 obtain ⟨x0, x1, x2, x3, x4, x5, x6, x7⟩ := cells8 BX.out
 clear x2 x3 x4 x5 x6 x7
 go_cut [] (fun wc => ∃ (B0 : Option Addr) (d0 : Nat) (B1 : Option Addr) (d1 : Nat) (s1 s2 : Nat), Aside0 (wc.heap[w.heap.size]? = some (.cells #[.slice B0 l0.length d0, .slice B1 l1.length d1, .int .u64 o, .int .i64 m, .slice A4 l4.length c4, .int .u64 ep, .int .u64 ge, .slice A7 l7.length c7] 76 (0, 0))) ∧ Aside0 (wc.heap[w.heap.size + 1]? = some (.cells #[.slice none 0 0, .slice none 0 0, .int .u64 0, .int .i64 0, .slice none 0 0, .int .u64 0, .int .u64 0, .slice none 0 0] 76 (0, 0))) ∧ Aside0 (Kd.R (Kd.int .u8) 5 wc w.heap.size (fun k => w.heap.size + 2 ≤ k ∧ k < s1) (.slice B0 l0.length d0) l0) ∧ Aside0 (Kd.R (Kd.int .u8) 5 wc w.heap.size (fun k => s1 ≤ k ∧ k < s2) (.slice B1 l1.length d1) l1) ∧ Aside0 (w.heap.size + 2 ≤ s1 ∧ s1 ≤ s2 ∧ s2 ≤ wc.heap.size) ∧ Aside0 (Below w.heap.size w wc))
 case first =>
  go_region_with (first | (go_at_call 130; refine (K0.out _ (by with_reducible repeat (first | exact HB.out | apply below_drew1))).mono ?_; rintro r W0a ⟨B0, d0, rfl, hr, hb0⟩; have hb : Below W0.heap.size W0 W0a := (by first | exact hb0 | exact (below_drew1 (Below.refl W0.heap.size W0)).trans hb0); have HR0 := Aside0.mk (Kd.R_mono (Kd.R_bound hr) (ok' := fun k => W0.heap.size ≤ k ∧ k < W0a.heap.size) (fun k hk => ⟨hk.2.1, hk.2.2.1⟩)); clear hr hb0; replace BX := Aside0.mk (blk_below BX.out hb); replace BZ := Aside0.mk (blk_below BZ.out hb); replace HB := Aside0.mk (below_step HB.out hb); have SW0a := Aside0.mk hb.size; clear hb x0 x1; have x0 := blk_cell BX.out 0; have x1 := blk_cell BX.out 1; have fz := blk_frozen BX.out 0; have fz2 := blk_frozen BX.out 1; simp only [List.getElem?_toArray, List.getElem?_cons_zero, List.getElem?_cons_succ] at x0 x1) | (go_at_call 130; refine (K1.out _ (by with_reducible repeat (first | exact HB.out | apply below_drew1))).mono ?_; rintro r W0b ⟨B1, d1, rfl, hr, hb0⟩; have hb : Below W0a.heap.size W0a W0b := (by first | exact hb0 | exact (below_drew1 (Below.refl W0a.heap.size W0a)).trans hb0); have HR1 := Aside0.mk (Kd.R_mono (Kd.R_bound hr) (ok' := fun k => W0a.heap.size ≤ k ∧ k < W0b.heap.size) (fun k hk => ⟨hk.2.1, hk.2.2.1⟩)); clear hr hb0; replace HR0 := Aside0.mk (Kd.R_below HR0.out hb); replace BX := Aside0.mk (blk_below BX.out hb); replace BZ := Aside0.mk (blk_below BZ.out hb); replace HB := Aside0.mk (below_step HB.out hb); have SW0b := Aside0.mk hb.size; clear hb x0 x1; have x0 := blk_cell BX.out 0; have x1 := blk_cell BX.out 1; have fz := blk_frozen BX.out 0; have fz2 := blk_frozen BX.out 1; simp only [List.getElem?_toArray, List.getElem?_cons_zero, List.getElem?_cons_succ] at x0 x1))
  all_goals
   go_wp2_with fail
   go_meet
  all_goals
   have s0 := S0.out
   have sa := SW0a.out
   have sb := SW0b.out
   have hs := HB.out.size
   exact ⟨B0, d0, B1, d1, W0a.heap.size, W0b.heap.size, ⟨blk_put (cs := #[.slice B0 l0.length d0, .slice A1 l1.length c1, .int .u64 o, .int .i64 m, .slice A4 l4.length c4, .int .u64 ep, .int .u64 ge, .slice A7 l7.length c7]) (blk_put (cs := #[.slice A0 l0.length c0, .slice A1 l1.length c1, .int .u64 o, .int .i64 m, .slice A4 l4.length c4, .int .u64 ep, .int .u64 ge, .slice A7 l7.length c7]) BX.out 0 _ rfl) 1 _ rfl⟩, ⟨blk_far (blk_far BZ.out (show w.heap.size + 1 ≠ w.heap.size by omega) _) (show w.heap.size + 1 ≠ w.heap.size by omega) _⟩, ⟨Kd.R_far (p := ⟨w.heap.size, 1, none⟩) (Kd.R_far (p := ⟨w.heap.size, 0, none⟩) (Kd.R_mono (ok := fun k => W0.heap.size ≤ k ∧ k < W0a.heap.size) (Kd.R_lower (HR0.out) (by first | omega | (show w.heap.size ≤ W0.heap.size; omega))) (fun k hk => ⟨by have := hk.1; omega, hk.2⟩)) (fun k hk => by have := hk.1; skip; show k ≠ w.heap.size; omega) _) (fun k hk => by have := hk.1; skip; show k ≠ w.heap.size; omega) _⟩, ⟨Kd.R_far (p := ⟨w.heap.size, 1, none⟩) (Kd.R_far (p := ⟨w.heap.size, 0, none⟩) (Kd.R_lower (HR1.out) (by first | omega | (show w.heap.size ≤ W0a.heap.size; omega))) (fun k hk => by have := hk.1; skip; show k ≠ w.heap.size; omega) _) (fun k hk => by have := hk.1; skip; show k ≠ w.heap.size; omega) _⟩, ⟨⟨by omega, by omega, by simp [World.setCell]⟩⟩, ⟨by with_reducible repeat (first | exact HB.out | refine below_set ?_ (by omega))⟩⟩
 case rest =>
  clear BX BZ HB S0
  obtain ⟨B0, d0, B1, d1, s1, s2, BX, BZ, HR0, HR1, SS, HB⟩ := hcut
  have S0 := SS
  go_upto_region 2 with (fail)
  obtain ⟨x0, x1, x2, x3, x4, x5, x6, x7⟩ := cells8 BX.out
  clear x0 x1 x2 x3 x5 x6
  go_cut [] (fun wc => ∃ (B4 : Option Addr) (d4 : Nat) (B7 : Option Addr) (d7 : Nat) (s4 s7 : Nat), Aside0 (wc.heap[w.heap.size]? = some (.cells #[.slice B0 l0.length d0, .slice B1 l1.length d1, .int .u64 o, .int .i64 m, .slice B4 l4.length d4, .int .u64 ep, .int .u64 ge, .slice B7 l7.length d7] 76 (0, 0))) ∧ Aside0 (wc.heap[w.heap.size + 1]? = some (.cells #[.slice none 0 0, .slice none 0 0, .int .u64 0, .int .i64 0, .slice none 0 0, .int .u64 0, .int .u64 0, .slice none 0 0] 76 (0, 0))) ∧ Aside0 (Kd.R (Kd.int .u8) 5 wc w.heap.size (fun k => w.heap.size + 2 ≤ k ∧ k < s1) (.slice B0 l0.length d0) l0) ∧ Aside0 (Kd.R (Kd.int .u8) 5 wc w.heap.size (fun k => s1 ≤ k ∧ k < s2) (.slice B1 l1.length d1) l1) ∧ Aside0 (Kd.R (Kd.int .u64) 26 wc w.heap.size (fun k => s2 ≤ k ∧ k < s4) (.slice B4 l4.length d4) l4) ∧ Aside0 (Kd.R (Kd.int .u64) 26 wc w.heap.size (fun k => s4 ≤ k ∧ k < s7) (.slice B7 l7.length d7) l7) ∧ Aside0 (s2 ≤ s4 ∧ s4 ≤ s7 ∧ s7 ≤ wc.heap.size) ∧ Aside0 (Below w.heap.size w wc))
  case first =>
   go_region_with (first | (go_at_call 131; refine (K4.out _ (by with_reducible repeat (first | exact HB.out | apply below_drew1))).mono ?_; rintro r wca ⟨B4, d4, rfl, hr, hb0⟩; have hb : Below wc.heap.size wc wca := (by first | exact hb0 | exact (below_drew1 (Below.refl wc.heap.size wc)).trans hb0); have HR4 := Aside0.mk (Kd.R_mono (Kd.R_bound hr) (ok' := fun k => wc.heap.size ≤ k ∧ k < wca.heap.size) (fun k hk => ⟨hk.2.1, hk.2.2.1⟩)); clear hr hb0; replace HR0 := Aside0.mk (Kd.R_below HR0.out hb); replace HR1 := Aside0.mk (Kd.R_below HR1.out hb); replace BX := Aside0.mk (blk_below BX.out hb); replace BZ := Aside0.mk (blk_below BZ.out hb); replace HB := Aside0.mk (below_step HB.out hb); have Swca := Aside0.mk hb.size; clear hb x4 x7; have x4 := blk_cell BX.out 4; have x7 := blk_cell BX.out 7; have fz := blk_frozen BX.out 4; have fz2 := blk_frozen BX.out 7; simp only [List.getElem?_toArray, List.getElem?_cons_zero, List.getElem?_cons_succ] at x4 x7) | (go_at_call 131; refine (K7.out _ (by with_reducible repeat (first | exact HB.out | apply below_drew1))).mono ?_; rintro r wcb ⟨B7, d7, rfl, hr, hb0⟩; have hb : Below wca.heap.size wca wcb := (by first | exact hb0 | exact (below_drew1 (Below.refl wca.heap.size wca)).trans hb0); have HR7 := Aside0.mk (Kd.R_mono (Kd.R_bound hr) (ok' := fun k => wca.heap.size ≤ k ∧ k < wcb.heap.size) (fun k hk => ⟨hk.2.1, hk.2.2.1⟩)); clear hr hb0; replace HR0 := Aside0.mk (Kd.R_below HR0.out hb); replace HR1 := Aside0.mk (Kd.R_below HR1.out hb); replace HR4 := Aside0.mk (Kd.R_below HR4.out hb); replace BX := Aside0.mk (blk_below BX.out hb); replace BZ := Aside0.mk (blk_below BZ.out hb); replace HB := Aside0.mk (below_step HB.out hb); have Swcb := Aside0.mk hb.size; clear hb x4 x7; have x4 := blk_cell BX.out 4; have x7 := blk_cell BX.out 7; have fz := blk_frozen BX.out 4; have fz2 := blk_frozen BX.out 7; simp only [List.getElem?_toArray, List.getElem?_cons_zero, List.getElem?_cons_succ] at x4 x7))
   all_goals
    go_wp2_with fail
    go_meet
   all_goals
    have s0 := S0.out
    have sa := Swca.out
    have sb := Swcb.out
    have hs := HB.out.size
    exact ⟨B4, d4, B7, d7, wca.heap.size, wcb.heap.size, ⟨blk_put (cs := #[.slice B0 l0.length d0, .slice B1 l1.length d1, .int .u64 o, .int .i64 m, .slice B4 l4.length d4, .int .u64 ep, .int .u64 ge, .slice A7 l7.length c7]) (blk_put (cs := #[.slice B0 l0.length d0, .slice B1 l1.length d1, .int .u64 o, .int .i64 m, .slice A4 l4.length c4, .int .u64 ep, .int .u64 ge, .slice A7 l7.length c7]) BX.out 4 _ rfl) 7 _ rfl⟩, ⟨blk_far (blk_far BZ.out (show w.heap.size + 1 ≠ w.heap.size by omega) _) (show w.heap.size + 1 ≠ w.heap.size by omega) _⟩, ⟨Kd.R_far (p := ⟨w.heap.size, 7, none⟩) (Kd.R_far (p := ⟨w.heap.size, 4, none⟩) (HR0.out) (fun k hk => by have := hk.1; skip; show k ≠ w.heap.size; omega) _) (fun k hk => by have := hk.1; skip; show k ≠ w.heap.size; omega) _⟩, ⟨Kd.R_far (p := ⟨w.heap.size, 7, none⟩) (Kd.R_far (p := ⟨w.heap.size, 4, none⟩) (HR1.out) (fun k hk => by have := hk.1; have := SS.out; show k ≠ w.heap.size; omega) _) (fun k hk => by have := hk.1; have := SS.out; show k ≠ w.heap.size; omega) _⟩, ⟨Kd.R_far (p := ⟨w.heap.size, 7, none⟩) (Kd.R_far (p := ⟨w.heap.size, 4, none⟩) (Kd.R_mono (ok := fun k => wc.heap.size ≤ k ∧ k < wca.heap.size) (Kd.R_lower (HR4.out) (by first | omega | (show w.heap.size ≤ wc.heap.size; omega))) (fun k hk => ⟨by have := hk.1; have := SS.out; omega, hk.2⟩)) (fun k hk => by have := hk.1; have := SS.out; show k ≠ w.heap.size; omega) _) (fun k hk => by have := hk.1; have := SS.out; show k ≠ w.heap.size; omega) _⟩, ⟨Kd.R_far (p := ⟨w.heap.size, 7, none⟩) (Kd.R_far (p := ⟨w.heap.size, 4, none⟩) (Kd.R_lower (HR7.out) (by first | omega | (show w.heap.size ≤ wca.heap.size; omega))) (fun k hk => by have := hk.1; have := SS.out; show k ≠ w.heap.size; omega) _) (fun k hk => by have := hk.1; have := SS.out; show k ≠ w.heap.size; omega) _⟩, ⟨⟨by have := SS.out; omega, by omega, by simp [World.setCell]⟩⟩, ⟨by with_reducible repeat (first | exact HB.out | refine below_set ?_ (by omega))⟩⟩
  case rest =>
   clear BX BZ HB HR0 HR1
   obtain ⟨B4, d4, B7, d7, s4, s7, BX, BZ, HR0, HR1, HR4, HR7, SS2, HB⟩ := hcut
   obtain ⟨y0, y1, y2, y3, y4, y5, y6, y7⟩ := cells8 BX.out
   obtain ⟨z0, z1, z2, z3, z4, z5, z6, z7⟩ := cells8 BZ.out
   have f0 := blk_frozen BZ.out 0
   have f1 := blk_frozen BZ.out 1
   have f2 := blk_frozen BZ.out 2
   have f3 := blk_frozen BZ.out 3
   have f4 := blk_frozen BZ.out 4
   have f5 := blk_frozen BZ.out 5
   have f6 := blk_frozen BZ.out 6
   have f7 := blk_frozen BZ.out 7
   go_wp2_with fail
   refine bodyPost_ret (results_cell_row rfl _ _ (w.heap.size + 1) 76 #[.slice B0 l0.length d0, .slice B1 l1.length d1, .int .u64 o, .int .i64 m, .slice B4 l4.length d4, .int .u64 ep, .int .u64 ge, .slice B7 l7.length d7] (0, 0) _ rfl (by refine blk_put (cs := #[.slice B0 l0.length d0, .slice B1 l1.length d1, .int .u64 o, .int .i64 m, .slice B4 l4.length d4, .int .u64 ep, .int .u64 ge, .slice none 0 0]) ?_ 7 _ rfl; refine blk_put (cs := #[.slice B0 l0.length d0, .slice B1 l1.length d1, .int .u64 o, .int .i64 m, .slice B4 l4.length d4, .int .u64 ep, .int .u64 0, .slice none 0 0]) ?_ 6 _ rfl; refine blk_put (cs := #[.slice B0 l0.length d0, .slice B1 l1.length d1, .int .u64 o, .int .i64 m, .slice B4 l4.length d4, .int .u64 0, .int .u64 0, .slice none 0 0]) ?_ 5 _ rfl; refine blk_put (cs := #[.slice B0 l0.length d0, .slice B1 l1.length d1, .int .u64 o, .int .i64 m, .slice none 0 0, .int .u64 0, .int .u64 0, .slice none 0 0]) ?_ 4 _ rfl; refine blk_put (cs := #[.slice B0 l0.length d0, .slice B1 l1.length d1, .int .u64 o, .int .i64 0, .slice none 0 0, .int .u64 0, .int .u64 0, .slice none 0 0]) ?_ 3 _ rfl; refine blk_put (cs := #[.slice B0 l0.length d0, .slice B1 l1.length d1, .int .u64 0, .int .i64 0, .slice none 0 0, .int .u64 0, .int .u64 0, .slice none 0 0]) ?_ 2 _ rfl; refine blk_put (cs := #[.slice B0 l0.length d0, .slice none 0 0, .int .u64 0, .int .i64 0, .slice none 0 0, .int .u64 0, .int .u64 0, .slice none 0 0]) ?_ 1 _ rfl; refine blk_put (cs := #[.slice none 0 0, .slice none 0 0, .int .u64 0, .int .i64 0, .slice none 0 0, .int .u64 0, .int .u64 0, .slice none 0 0]) ?_ 0 _ rfl; exact BZ.out) Tryd.underlying76 rfl (by kernel_rfl)) rfl ?_
   have h1 := SS.out
   have h2 := SS2.out
   refine ⟨B0, d0, B1, d1, B4, d4, B7, d7, rfl, ?_, by with_reducible repeat (first | exact HB.out | refine below_set ?_ (by omega))⟩
   refine aNo_mkp _ _ _ ⟨l0, l1, o, m, l4, ep, ge, l7⟩ (fun k => k < s1) (fun k => k < s2) (fun k => k < s4) ?_ ?_ ?_ ?_
   ·
    refine Kd.R_mono (ok := fun k => w.heap.size + 2 ≤ k ∧ k < s1) ?_ (fun k hk => by simp only [true_and]; omega)
    repeat (first | with_reducible exact HR0.out | refine Kd.R_far ?_ (fun k hk => by have := hk.1; simp only [ne_eq]; omega) _)
   ·
    refine Kd.R_mono (ok := fun k => s1 ≤ k ∧ k < s2) ?_ (fun k hk => by simp only [true_and]; omega)
    repeat (first | with_reducible exact HR1.out | refine Kd.R_far ?_ (fun k hk => by have := hk.1; simp only [ne_eq]; omega) _)
   ·
    refine Kd.R_mono (ok := fun k => s2 ≤ k ∧ k < s4) ?_ (fun k hk => by simp only [true_and]; omega)
    repeat (first | with_reducible exact HR4.out | refine Kd.R_far ?_ (fun k hk => by have := hk.1; simp only [ne_eq]; omega) _)
   ·
    refine Kd.R_mono (ok := fun k => s4 ≤ k ∧ k < s7) ?_ (fun k hk => by simp only [true_and]; omega)
    repeat (first | with_reducible exact HR7.out | refine Kd.R_far ?_ (fun k hk => by have := hk.1; simp only [ne_eq]; omega) _)
theorem setRow_other (w : World) (g : Nat) (cs : Array Value) (k : Nat) (h : k ≠ g) : (w.setRow g cs).heap[k]? = w.heap[k]? := by
 unfold World.setRow
 simp only [Array.getElem?_modify]
 rw [if_neg (fun e => h e.symm)]
theorem run_clear_u64 {W : World} {base : Nat} {ok : Nat → Prop} {A : Option Addr} {n c : Nat} {l : List Int} (h : (Kd.int .u64).R 26 W base ok (.slice A n c) l) :
  ∃ W', (∀ ty, (Builtin.clear_ #[40] ty #[.slice A n c]).run Tryd.prog W = .ok (.tuple #[]) W') ∧ W.grownBy W' (Value.slice A n c).ownBlock ∧ (Kd.int .u64).R 26 W' base ok (.slice A 0 c) [] := by
 have hu := Tryd.underlying40
 obtain ⟨h0, inner, ⟨hlen, ho⟩, hr⟩ := h
 rcases ho with ⟨ho, hn⟩ | ⟨g, cap, cur, ho, hb, hg, hnc, hcm, hsz, ht⟩
 ·
  injection ho with e1 e2 e3
  subst e1 e2 e3
  exact ⟨W, fun ty => by simp [Builtin.clear_, run_underlying hu], ⟨rfl, rfl, rfl, Nat.le_refl _, fun _ _ _ => rfl⟩, Kd.R_nil _ _ _ _ _⟩
 ·
  injection ho with e1 e2 e3
  subst e1 e3
  have hR : ∀ (W' : World) (cur' : Array Value), W'.heap[g]? = some (.cells cur' 26 (0, 0)) → cur'.size = cur.size → (Kd.int .u64).R 26 W' base ok (.slice (some ⟨g, 0, none⟩) 0 c) [] := fun W' cur' hg' hs' =>
   ⟨fun k hk => h0 k hk, [], ⟨by simp, Or.inr ⟨g, c, cur', rfl, hb, hg', Nat.zero_le _, hcm, by rw [hs']; exact hsz, by simp⟩⟩, ⟨by simp, fun j p hj => by simp at hj⟩⟩
  rcases Nat.eq_zero_or_pos n with hz | hz
  ·
   subst hz
   exact ⟨W, fun ty => by simp [Builtin.clear_, run_underlying hu], ⟨rfl, rfl, rfl, Nat.le_refl _, fun _ _ _ => rfl⟩, hR W cur hg rfl⟩
  ·
   obtain ⟨m, rfl⟩ : ∃ m, n = m + 1 := ⟨n - 1, by omega⟩
   have hsz1 : cur.size = c * 1 := hsz
   have hst := run_storeCells_at Tryd.prog g 0 26 (Builtin.zeroCells #[.int .u64 0] (m + 1)).toList 0 cur W hg (by simp [Builtin.zeroCells]; omega) (by
    intro v hv
    simp only [Builtin.zeroCells, Array.toList_map, List.mem_map] at hv
    obtain ⟨i, _, rfl⟩ := hv
    have e1 : (#[Value.int IntKind.u64 0] : Array Value).size = 1 := rfl
    rw [e1, Nat.mod_one]
    rfl)
   obtain ⟨cs, hcs⟩ : ∃ cs, (cur.toList.take (0 + 0) ++ (Builtin.zeroCells #[.int .u64 0] (m + 1)).toList ++ cur.toList.drop (0 + 0 + (Builtin.zeroCells #[.int .u64 0] (m + 1)).toList.length)).toArray = cs := ⟨_, rfl⟩
   have hcz : cs.size = cur.size := by
    rw [← hcs]
    simp [Builtin.zeroCells]
    omega
   rw [hcs] at hst
   refine ⟨W.setRow g cs, fun ty => ?_, ⟨rfl, rfl, rfl, by rw [size_setRow]; exact Nat.le_refl _, fun k _ hk => setRow_other W g cs k (fun e => hk (by rw [e]; rfl))⟩, hR _ _ (setRow_heap W g cur cs _ _ hg) hcz⟩
   have hzv : (zeroValue 26).run Tryd.prog W = .ok (.int .u64 0) W := by
    have hi := info26
    cases hq : Tryd.prog.info? 26 with
    | none => rw [hq] at hi; cases hi
    | some i =>
     rw [hq] at hi
     have hz1 : i.zero = some (.int .u64 0) := by
      have := Option.some.inj hi
      exact congrArg Prod.fst this
     simp [zeroValue, typeInfo, hq, hz1]
   have hc0 : (Value.int .u64 0).cells = #[.int .u64 0] := rfl
   simp [Builtin.clear_, run_underlying hu, hzv, hst, hc0]
def durSe (x : Se) : Se := ⟨x.f0, 0, []⟩
def durNo (x : No) : No := ⟨x.f0, x.f1, x.f2, x.f3, x.f4, x.f5, x.f6, []⟩
set_option maxHeartbeats 4000000 in
set_option maxRecDepth 100000 in
theorem durable_ok (e g n t : Int) (As : Option Addr) (cs : Nat) (xs : List Se) (An : Option Addr) (cn : Nat) (ns : List No) (w : World) (h1 : Kd.C kSe w As xs.length xs) (hc1 : xs.length ≤ cs) (h2 : Kd.C kNo w An ns.length ns) (hc2 : ns.length ≤ cn) (hs : SmS xs ns) :
  Calls Tryd.prog 62 #[.agg #[.int .u64 e, .int .u64 g, .int .u64 n, .int .i64 t, .slice As xs.length cs, .slice An ns.length cn]] w fun r w' => ∃ Bs ds Bn dn, r = .returned (.agg #[.int .u64 e, .int .u64 g, .int .u64 n, .int .i64 0, .slice Bs (xs.map durSe).length ds, .slice Bn (ns.map durNo).length dn]) ∧ SK w w' w.heap.size w'.heap.size Bs ds (xs.map durSe) Bn dn (ns.map durNo) ∧ Below w.heap.size w w' := by
 have H1 := Aside0.mk h1
 have H2 := Aside0.mk h2
 have HS := Aside0.mk hs
 have hxl := hs.x
 have hnl := hs.n
 clear h1 hc1 h2 hc2 hs
 go_enter Tryd.func62, Tryd.ntmps62
 go_upto_region 2 with (fail)
 have bs := blk_alloc (blk_alloc (blk_new w (.cells #[.int .u64 e, .int .u64 g, .int .u64 n, .int .i64 t, .slice As xs.length cs, .slice An ns.length cn] 36)) (.cells #[.int .u64 0, .int .u64 0, .int .u64 0, .int .i64 0, .slice none 0 0, .slice none 0 0] 36)) (.cells #[.int .u64 e, .int .u64 g, .int .u64 n, .int .i64 0, .slice none 0 0, .slice none 0 0] 36)
 have bz := blk_alloc (blk_new (w.alloc (.cells #[.int .u64 e, .int .u64 g, .int .u64 n, .int .i64 t, .slice As xs.length cs, .slice An ns.length cn] 36)) (.cells #[.int .u64 0, .int .u64 0, .int .u64 0, .int .i64 0, .slice none 0 0, .slice none 0 0] 36)) (.cells #[.int .u64 e, .int .u64 g, .int .u64 n, .int .i64 0, .slice none 0 0, .slice none 0 0] 36)
 have bo := blk_new ((w.alloc (.cells #[.int .u64 e, .int .u64 g, .int .u64 n, .int .i64 t, .slice As xs.length cs, .slice An ns.length cn] 36)).alloc (.cells #[.int .u64 0, .int .u64 0, .int .u64 0, .int .i64 0, .slice none 0 0, .slice none 0 0] 36)) (.cells #[.int .u64 e, .int .u64 g, .int .u64 n, .int .i64 0, .slice none 0 0, .slice none 0 0] 36)
 have hB := below_alloc (below_alloc (below_alloc (Below.refl w.heap.size w) (.cells #[.int .u64 e, .int .u64 g, .int .u64 n, .int .i64 t, .slice As xs.length cs, .slice An ns.length cn] 36)) (.cells #[.int .u64 0, .int .u64 0, .int .u64 0, .int .i64 0, .slice none 0 0, .slice none 0 0] 36)) (.cells #[.int .u64 e, .int .u64 g, .int .u64 n, .int .i64 0, .slice none 0 0, .slice none 0 0] 36)
 simp only [World.size_alloc] at bz bo
 generalize ((w.alloc (.cells #[.int .u64 e, .int .u64 g, .int .u64 n, .int .i64 t, .slice As xs.length cs, .slice An ns.length cn] 36)).alloc (.cells #[.int .u64 0, .int .u64 0, .int .u64 0, .int .i64 0, .slice none 0 0, .slice none 0 0] 36)).alloc (.cells #[.int .u64 e, .int .u64 g, .int .u64 n, .int .i64 0, .slice none 0 0, .slice none 0 0] 36) = W0 at *
 have BS := Aside0.mk bs
 have BZ := Aside0.mk bz
 have BO := Aside0.mk bo
 have HB := Aside0.mk hB
 clear bs bz bo hB
 obtain ⟨s0, s1, s2, s3, s4, s5⟩ := cells6 BS.out
 go_wp2_with fail
 clear s0 s1 s2 s3 s4 s5
 go_loopg [18] (xs.length + 1) (fun kq v18 w' => ∃ (i : Nat) (B : Option Addr) (d : Nat), v18 = .int .i64 i ∧ Aside0 (kq + i = xs.length + 1 ∧ i ≤ xs.length) ∧ Aside0 (Kd.S aSe 70 w' w.heap.size (fun k => w.heap.size + 3 ≤ k) (.slice B i d) ((xs.take i).map durSe)) ∧ Aside0 (w'.heap[w.heap.size]? = some (.cells #[.int .u64 e, .int .u64 g, .int .u64 n, .int .i64 t, .slice As xs.length cs, .slice An ns.length cn] 36 (0, 0))) ∧ Aside0 (w'.heap[w.heap.size + 1]? = some (.cells #[.int .u64 0, .int .u64 0, .int .u64 0, .int .i64 0, .slice none 0 0, .slice none 0 0] 36 (0, 0))) ∧ Aside0 (w'.heap[w.heap.size + 1 + 1]? = some (.cells #[.int .u64 e, .int .u64 g, .int .u64 n, .int .i64 0, .slice B i d, .slice none 0 0] 36 (0, 0))) ∧ Aside0 (Below w.heap.size w w'))
 case atStart => exact ⟨0, none, 0, rfl, ⟨⟨by omega, by omega⟩⟩, ⟨by rw [List.take_zero]; exact Kd.S_nil _ _ _ _ _⟩, BS, BZ, BO, HB⟩
 case round =>
  clear BS BZ BO HB
  obtain ⟨i, B, d, rfl, HJ, HR, BS, BZ, BO, HB⟩ := hrel
  have hj0 := HJ.out
  by_cases hj : i < xs.length
  ·
   have c1 : decide ((i : Int) < (xs.length : Int)) = true := decide_eq_true (by omega)
   have ci : (0 : Int) ≤ (i : Int) := by omega
   have ci2 : (i : Int) < (xs.length : Int) := by omega
   have HT := Aside0.mk (show (xs.take (i + 1)).map durSe = (xs.take i).map durSe ++ [durSe xs[i]] by rw [List.take_succ_eq_append_getElem hj, List.map_append]; rfl)
   have HLN := Aside0.mk (show ((xs.take i).map durSe).length = i by rw [List.length_map, List.length_take]; omega)
   obtain ⟨ad, A2, c2, eA, hx0, hx1, hx2, hl2, hi2⟩ := at_T70 H1.out (i : Int) ci ci2
   have ex : rd_T70 xs (i : Int) = xs[i] := by unfold rd_T70; rw [Int.toNat_natCast, List.getD_eq_getElem?_getD, List.getElem?_eq_getElem hj]; rfl
   rw [ex] at hx0 hx1 hx2 hl2 hi2
   rw [Int.toNat_natCast] at hx0 hx1 hx2
   cases eA
   have hal : ∀ {a : Addr} {z : Value}, w.cell? a = some z → wr.cell? a = some z := fun hz => (HB.out.cell (World.block_lt_of_cell? w _ hz)).trans hz
   replace hx0 := hal hx0
   replace hx1 := hal hx1
   replace hx2 := hal hx2
   clear hal hl2 hi2 ex
   obtain ⟨y, hy⟩ : ∃ y, xs[i] = y := ⟨_, rfl⟩
   rw [hy] at hx0 hx1 hx2 HT
   clear hy
   obtain ⟨id, dl, q⟩ := y
   simp only at hx0 hx1 hx2
   obtain ⟨x, hxq⟩ : ∃ x, (xs.take i).map durSe = x := ⟨_, rfl⟩
   rw [hxq] at HT HR HLN
   clear hxq
   go_upto_region 5 with (fail)
   have bs := blk_alloc BS.out (.cells #[.int .u64 id, .int .i64 dl, .slice A2 q.length c2] 70)
   have bz := blk_alloc BZ.out (.cells #[.int .u64 id, .int .i64 dl, .slice A2 q.length c2] 70)
   have bo := blk_alloc BO.out (.cells #[.int .u64 id, .int .i64 dl, .slice A2 q.length c2] 70)
   have bn := blk_new wr (.cells #[.int .u64 id, .int .i64 dl, .slice A2 q.length c2] 70)
   have hba := below_alloc (Below.refl wr.heap.size wr) (.cells #[.int .u64 id, .int .i64 dl, .slice A2 q.length c2] 70)
   have HR2 := Aside0.mk (Kd.S_below HR.out hba)
   have HB2 := Aside0.mk (below_step HB.out hba)
   have HG2 := Aside0.mk (blk_lt BO.out)
   generalize wr.heap.size = g2 at *
   generalize wr.alloc (.cells #[.int .u64 id, .int .i64 dl, .slice A2 q.length c2] 70) = W3 at *
   have BS2 := Aside0.mk bs
   have BZ2 := Aside0.mk bz
   have BO2 := Aside0.mk bo
   have BN2 := Aside0.mk bn
   clear bs bz bo bn hba HR HB BS BZ BO hx0 hx1 hx2
   have n0 := (cells3 BN2.out).1
   have o4 := (cells6 BO2.out).2.2.2.2.1
   have HZ := Aside0.mk (show (∀ w5, W3.grownBy w5 (Value.slice B i d).ownBlock → w5.heap[w.heap.size + 1 + 1]? = some (.cells #[.int .u64 e, .int .u64 g, .int .u64 n, .int .i64 0, .slice B i d, .slice none 0 0] 36 (0, 0)) ∧ w5.cell? ⟨w.heap.size + 1 + 1, 4, none⟩ = some (.slice B i d) ∧ w5.frozen? ⟨w.heap.size + 1 + 1, 4, none⟩ = false ∧ w5.heap[w.heap.size]? = some (.cells #[.int .u64 e, .int .u64 g, .int .u64 n, .int .i64 t, .slice (some ad) xs.length cs, .slice An ns.length cn] 36 (0, 0)) ∧ w5.heap[w.heap.size + 1]? = some (.cells #[.int .u64 0, .int .u64 0, .int .u64 0, .int .i64 0, .slice none 0 0, .slice none 0 0] 36 (0, 0))) from fun w5 hg => by
    have hn1 : ∀ {b : Nat} {c : Array Value}, W3.heap[b]? = some (.cells c 36 (0, 0)) → some b ≠ (Value.slice B i d).ownBlock := fun hb => Kd.R_ne (Kd.S_R HR2.out) hb (by decide)
    have h1 := blk_grown BO2.out hg (hn1 BO2.out)
    exact ⟨h1, (cells6 h1).2.2.2.2.1, blk_frozen h1 4, blk_grown BS2.out hg (hn1 BS2.out), blk_grown BZ2.out hg (hn1 BZ2.out)⟩)
   go_wp2_with (first | ((with_reducible refine gate_builtin (b := .append) (xs := #[.tmp 23, .tmp 27]) rfl ?_); at_builtin; refine Kd.S_append aSe (w0 := w) w.heap.size rfl (.tmp 23) (.tmp 27) 33 70 (.agg #[(.int .u64 0), (.int .i64 0), (.slice none 0 0)]) 40 rfl Tryd.underlying33 info70 rfl (by decide) (by omega) (.slice B i d) x (⟨id, 0, []⟩ : Se) [.int .u64 id, .int .i64 0, .slice none 0 0] (fun k => w.heap.size + 3 ≤ k) (fun _ => False) ?eS ?eX ?aP (fun _ hk => hk.elim) ?aF ?aO HB2.out HB2.out.size ?aL ?_; (case eS => first | rfl | simp [Act.eval, Act.put]); (case eX => first | rfl | simp [Act.eval, Act.put]); (case aP => exact aSe_mk _ _ _ (⟨id, 0, []⟩ : Se) (Kd.S_nil _ _ _ _ _)); (case aF => exact (fun k hk => by have := HG2.out; have h3 := blk_lt BN2.out; show w.heap.size + 3 ≤ k; omega)); (case aO => exact Kd.S_mono HR2.out (fun k hk => ⟨hk, fun h => h.elim⟩)); (case aL => have := HLN.out; omega); intro v1 w5 ho hb hg hat; obtain ⟨B1, d1, rfl⟩ := Kd.S_slice ho; have HO5 := Aside0.mk ho; have HB5 := Aside0.mk hb; have HG5 := Aside0.mk hg; have y0 := (HZ.out w5 hg).2.1; have y1 := (HZ.out w5 hg).2.2.1; clear ho hb hg hat))
   have hz := HZ.out w5 HG5.out
   have hj2 := HJ.out
   have e1 := HLN.out
   have eL : (x ++ [(⟨id, 0, []⟩ : Se)]).length = i + 1 := by rw [List.length_append, e1]; rfl
   have HO6 := HO5.out
   rw [eL] at HO6
   obtain ⟨k1, rfl⟩ : ∃ k1, gk = k1 + 1 := ⟨gk - 1, by omega⟩
   go_roundg k1
   case measure => omega
   case rel =>
    rw [e1]
    refine ⟨i + 1, B1, d1, by go_num, ⟨⟨by omega, by omega⟩⟩, ⟨?_⟩, ⟨blk_far hz.2.2.2.1 (show w.heap.size ≠ w.heap.size + 1 + 1 by omega) _⟩, ⟨blk_far hz.2.2.2.2 (show w.heap.size + 1 ≠ w.heap.size + 1 + 1 by omega) _⟩, ⟨blk_put hz.1 4 _ rfl⟩, ⟨below_set HB5.out (by omega)⟩⟩
    rw [HT.out]
    exact Kd.S_far HO6 (fun k hk => by show k ≠ w.heap.size + 1 + 1; have : w.heap.size + 3 ≤ k := hk; omega) _
  ·
   have c1 : decide ((i : Int) < (xs.length : Int)) = false := decide_eq_false (by omega)
   obtain rfl : i = xs.length := by omega
   rw [List.take_length] at HR
   obtain ⟨s0, s1, s2, s3, s4, s5⟩ := cells6 BS.out
   have HSE := Aside0.mk (Kd.S_mono (Kd.S_bound HR.out) (ok' := fun k => w.heap.size + 3 ≤ k ∧ k < wr.heap.size) (fun k hk => ⟨hk.1, hk.2.2.1⟩))
   have HO2 := Aside0.mk (blk_lt BO.out)
   have HTT := Aside0.mk (Nat.le_refl wr.heap.size)
   clear HR H1
   go_wp2_with fail
   clear s0 s1 s2 s3 s4 s5 BS
   obtain ⟨T1, hT1⟩ : ∃ T1, wr.heap.size = T1 := ⟨_, rfl⟩
   have HTT : Aside0 (T1 ≤ wr.heap.size) := ⟨by omega⟩
   rw [hT1] at HSE HO2
   clear hT1
   go_loopg [34] (ns.length + 1) (fun kq v34 w' => ∃ (i2 : Nat) (A : Option Addr) (c : Nat), v34 = .int .i64 i2 ∧ Aside0 (kq + i2 = ns.length + 1 ∧ i2 ≤ ns.length) ∧ Aside0 (Kd.S aNo 76 w' w.heap.size (fun k => T1 ≤ k) (.slice A i2 c) ((ns.take i2).map durNo)) ∧ Aside0 (Kd.S aSe 70 w' w.heap.size (fun k => w.heap.size + 3 ≤ k ∧ k < T1) (.slice B xs.length d) (xs.map durSe)) ∧ Aside0 (w'.heap[w.heap.size + 1]? = some (.cells #[.int .u64 0, .int .u64 0, .int .u64 0, .int .i64 0, .slice none 0 0, .slice none 0 0] 36 (0, 0))) ∧ Aside0 (w'.heap[w.heap.size + 1 + 1]? = some (.cells #[.int .u64 e, .int .u64 g, .int .u64 n, .int .i64 0, .slice B xs.length d, .slice A i2 c] 36 (0, 0))) ∧ Aside0 (Below w.heap.size w w') ∧ Aside0 (T1 ≤ w'.heap.size))
   case atStart => exact ⟨0, none, 0, rfl, ⟨⟨by omega, by omega⟩⟩, ⟨by rw [List.take_zero]; exact Kd.S_nil _ _ _ _ _⟩, HSE, BZ, BO, HB, HTT⟩
   case round =>
    clear HSE BZ BO HB HTT HJ
    obtain ⟨i2, A, c, rfl, HJ, HR, HSE, BZ, BO, HB, HTT⟩ := hrel
    have hj0 := HJ.out
    by_cases hj : i2 < ns.length
    ·
     have c1b : decide ((i2 : Int) < (ns.length : Int)) = true := decide_eq_true (by omega)
     have ci : (0 : Int) ≤ (i2 : Int) := by omega
     have ci2 : (i2 : Int) < (ns.length : Int) := by omega
     have HT := Aside0.mk (show (ns.take (i2 + 1)).map durNo = (ns.take i2).map durNo ++ [durNo ns[i2]] by rw [List.take_succ_eq_append_getElem hj, List.map_append]; rfl)
     have HLN := Aside0.mk (show ((ns.take i2).map durNo).length = i2 by rw [List.length_map, List.length_take]; omega)
     have hsm := HS.out.m ns[i2] (List.getElem_mem hj)
     obtain ⟨ad, C0, k0, C1, k1', C4, k4, C7, k7, eA, hx0, hx1, hx2, hx3, hx4, hx5, hx6, hx7, hl0, hi0, hl1, hi1, hl4, hi4, hl7, hi7⟩ := at_T76 H2.out (i2 : Int) ci ci2
     have ex : rd_T76 ns (i2 : Int) = ns[i2] := by unfold rd_T76; rw [Int.toNat_natCast, List.getD_eq_getElem?_getD, List.getElem?_eq_getElem hj]; rfl
     rw [ex] at hx0 hx1 hx2 hx3 hx4 hx5 hx6 hx7 hl0 hi0 hl1 hi1 hl4 hi4 hl7 hi7
     rw [Int.toNat_natCast] at hx0 hx1 hx2 hx3 hx4 hx5 hx6 hx7
     cases eA
     have hal : ∀ {a : Addr} {z : Value}, w.cell? a = some z → wr.cell? a = some z := fun hz => (HB.out.cell (World.block_lt_of_cell? w _ hz)).trans hz
     replace hx0 := hal hx0
     replace hx1 := hal hx1
     replace hx2 := hal hx2
     replace hx3 := hal hx3
     replace hx4 := hal hx4
     replace hx5 := hal hx5
     replace hx6 := hal hx6
     replace hx7 := hal hx7
     obtain ⟨y, hy⟩ : ∃ y, ns[i2] = y := ⟨_, rfl⟩
     rw [hy] at hx0 hx1 hx2 hx3 hx4 hx5 hx6 hx7 HT hl0 hi0 hl1 hi1 hl4 hi4 hl7 hi7 hsm
     clear hal hy ex
     obtain ⟨l0, l1, o, m, l4, ep, ge, l7⟩ := y
     simp only at hx0 hx1 hx2 hx3 hx4 hx5 hx6 hx7 hl0 hi0 hl1 hi1 hl4 hi4 hl7 hi7 hsm
     have NC := Aside0.mk (fun (W : World) (hW : Below w.heap.size w W) => nodeCopy_ok C0 k0 l0 C1 k1' l1 o m C4 k4 l4 ep ge C7 k7 l7 W (Kd.C_below hi0 hW) hl0 (Kd.C_below hi1 hW) hl1 (Kd.C_below hi4 hW) hl4 (Kd.C_below hi7 hW) hl7 hsm.1.1.1 hsm.1.2 hsm.2.1 hsm.2.2)
     clear hl0 hi0 hl1 hi1 hl4 hi4 hl7 hi7 hsm
     obtain ⟨x, hxq⟩ : ∃ x, (ns.take i2).map durNo = x := ⟨_, rfl⟩
     rw [hxq] at HT HR HLN
     clear hxq
     go_upto_region 10 with (fail)
     have bz := blk_alloc BZ.out (.cells #[.slice C0 l0.length k0, .slice C1 l1.length k1', .int .u64 o, .int .i64 m, .slice C4 l4.length k4, .int .u64 ep, .int .u64 ge, .slice C7 l7.length k7] 76)
     have bo := blk_alloc BO.out (.cells #[.slice C0 l0.length k0, .slice C1 l1.length k1', .int .u64 o, .int .i64 m, .slice C4 l4.length k4, .int .u64 ep, .int .u64 ge, .slice C7 l7.length k7] 76)
     have bn := blk_new wr (.cells #[.slice C0 l0.length k0, .slice C1 l1.length k1', .int .u64 o, .int .i64 m, .slice C4 l4.length k4, .int .u64 ep, .int .u64 ge, .slice C7 l7.length k7] 76)
     have hba := below_alloc (Below.refl wr.heap.size wr) (.cells #[.slice C0 l0.length k0, .slice C1 l1.length k1', .int .u64 o, .int .i64 m, .slice C4 l4.length k4, .int .u64 ep, .int .u64 ge, .slice C7 l7.length k7] 76)
     have HR2 := Aside0.mk (Kd.S_below (Kd.S_mono (Kd.S_bound HR.out) (ok' := fun k => T1 ≤ k ∧ k < wr.heap.size) (fun k hk => ⟨hk.1, hk.2.2.1⟩)) hba)
     have HSE2 := Aside0.mk (Kd.S_below HSE.out hba)
     have HB2 := Aside0.mk (below_step HB.out hba)
     have HG2 := Aside0.mk (blk_lt BO.out)
     have HL2 := Aside0.mk (blk_lt bn)
     have HB2s := Aside0.mk (below_step HB.out hba).size
     generalize wr.heap.size = g2 at *
     generalize wr.alloc (.cells #[.slice C0 l0.length k0, .slice C1 l1.length k1', .int .u64 o, .int .i64 m, .slice C4 l4.length k4, .int .u64 ep, .int .u64 ge, .slice C7 l7.length k7] 76) = W3 at *
     have BZ2 := Aside0.mk bz
     have BO2 := Aside0.mk bo
     have BN2 := Aside0.mk bn
     clear bz bo bn hba HR HSE HB BZ BO hx0 hx1 hx2 hx3 hx4 hx5 hx6 hx7
     obtain ⟨n0, n1, n2, n3, n4, n5, n6, n7⟩ := cells8 BN2.out
     go_wp2_with fail
     refine (NC.out _ HB2.out).mono ?_
     rintro r W4 ⟨B0, d0, B1, d1, B4, d4, B7, d7, rfl, hM, hb⟩
     clear n0 n1 n2 n3 n4 n5 n6 n7 NC
     have BZ3 := Aside0.mk (blk_below BZ2.out hb)
     have BO3 := Aside0.mk (blk_below BO2.out hb)
     have BN3 := Aside0.mk (blk_below BN2.out hb)
     have HR3 := Aside0.mk (Kd.S_below HR2.out hb)
     have HSE3 := Aside0.mk (Kd.S_below HSE2.out hb)
     have HB3 := Aside0.mk (below_step HB2.out hb)
     have HM3 := Aside0.mk (aNo.M_bound hM)
     have hs4 := hb.size
     clear BZ2 BO2 BN2 HR2 HSE2 HB2 hM hb
     obtain ⟨n0, n1, n2, n3, n4, n5, n6, n7⟩ := cells8 BN3.out
     have f0 := blk_frozen BN3.out 0
     have f1 := blk_frozen BN3.out 1
     have f2 := blk_frozen BN3.out 2
     have f3 := blk_frozen BN3.out 3
     have f4 := blk_frozen BN3.out 4
     have f5 := blk_frozen BN3.out 5
     have f6 := blk_frozen BN3.out 6
     have f7 := blk_frozen BN3.out 7
     go_upto_region 11 with (fail)
     clear n0 n1 n2 n3 n4 n5 n6 n7 f0 f1 f2 f3 f4 f5 f6 f7
     have hlt := HL2.out
     have hg0 := HG2.out
     have htt := HTT.out
     have BN4 := Aside0.mk (blk_put (cs := #[.slice B0 l0.length d0, .slice B1 l1.length d1, .int .u64 o, .int .i64 m, .slice B4 l4.length d4, .int .u64 ep, .int .u64 ge, .slice C7 l7.length k7]) (cs' := #[.slice B0 l0.length d0, .slice B1 l1.length d1, .int .u64 o, .int .i64 m, .slice B4 l4.length d4, .int .u64 ep, .int .u64 ge, .slice B7 l7.length d7]) (blk_put (cs := #[.slice B0 l0.length d0, .slice B1 l1.length d1, .int .u64 o, .int .i64 m, .slice B4 l4.length d4, .int .u64 ep, .int .u64 ge, .slice C7 l7.length k7]) (cs' := #[.slice B0 l0.length d0, .slice B1 l1.length d1, .int .u64 o, .int .i64 m, .slice B4 l4.length d4, .int .u64 ep, .int .u64 ge, .slice C7 l7.length k7]) (blk_put (cs := #[.slice B0 l0.length d0, .slice B1 l1.length d1, .int .u64 o, .int .i64 m, .slice B4 l4.length d4, .int .u64 ep, .int .u64 ge, .slice C7 l7.length k7]) (cs' := #[.slice B0 l0.length d0, .slice B1 l1.length d1, .int .u64 o, .int .i64 m, .slice B4 l4.length d4, .int .u64 ep, .int .u64 ge, .slice C7 l7.length k7]) (blk_put (cs := #[.slice B0 l0.length d0, .slice B1 l1.length d1, .int .u64 o, .int .i64 m, .slice C4 l4.length k4, .int .u64 ep, .int .u64 ge, .slice C7 l7.length k7]) (cs' := #[.slice B0 l0.length d0, .slice B1 l1.length d1, .int .u64 o, .int .i64 m, .slice B4 l4.length d4, .int .u64 ep, .int .u64 ge, .slice C7 l7.length k7]) (blk_put (cs := #[.slice B0 l0.length d0, .slice B1 l1.length d1, .int .u64 o, .int .i64 m, .slice C4 l4.length k4, .int .u64 ep, .int .u64 ge, .slice C7 l7.length k7]) (cs' := #[.slice B0 l0.length d0, .slice B1 l1.length d1, .int .u64 o, .int .i64 m, .slice C4 l4.length k4, .int .u64 ep, .int .u64 ge, .slice C7 l7.length k7]) (blk_put (cs := #[.slice B0 l0.length d0, .slice B1 l1.length d1, .int .u64 o, .int .i64 m, .slice C4 l4.length k4, .int .u64 ep, .int .u64 ge, .slice C7 l7.length k7]) (cs' := #[.slice B0 l0.length d0, .slice B1 l1.length d1, .int .u64 o, .int .i64 m, .slice C4 l4.length k4, .int .u64 ep, .int .u64 ge, .slice C7 l7.length k7]) (blk_put (cs := #[.slice B0 l0.length d0, .slice C1 l1.length k1', .int .u64 o, .int .i64 m, .slice C4 l4.length k4, .int .u64 ep, .int .u64 ge, .slice C7 l7.length k7]) (cs' := #[.slice B0 l0.length d0, .slice B1 l1.length d1, .int .u64 o, .int .i64 m, .slice C4 l4.length k4, .int .u64 ep, .int .u64 ge, .slice C7 l7.length k7]) (blk_put (cs := #[.slice C0 l0.length k0, .slice C1 l1.length k1', .int .u64 o, .int .i64 m, .slice C4 l4.length k4, .int .u64 ep, .int .u64 ge, .slice C7 l7.length k7]) (cs' := #[.slice B0 l0.length d0, .slice C1 l1.length k1', .int .u64 o, .int .i64 m, .slice C4 l4.length k4, .int .u64 ep, .int .u64 ge, .slice C7 l7.length k7]) BN3.out 0 _ rfl) 1 _ rfl) 2 _ rfl) 3 _ rfl) 4 _ rfl) 5 _ rfl) 6 _ rfl) 7 _ rfl)
     have BZ4 : Aside0 (((((((((W4.setCell ⟨g2, 0, none⟩ (.slice B0 l0.length d0)).setCell ⟨g2, 1, none⟩ (.slice B1 l1.length d1)).setCell ⟨g2, 2, none⟩ (.int .u64 o)).setCell ⟨g2, 3, none⟩ (.int .i64 m)).setCell ⟨g2, 4, none⟩ (.slice B4 l4.length d4)).setCell ⟨g2, 5, none⟩ (.int .u64 ep)).setCell ⟨g2, 6, none⟩ (.int .u64 ge)).setCell ⟨g2, 7, none⟩ (.slice B7 l7.length d7)).heap[w.heap.size + 1]? = some (.cells #[.int .u64 0, .int .u64 0, .int .u64 0, .int .i64 0, .slice none 0 0, .slice none 0 0] 36 (0, 0))) := ⟨by repeat (first | with_reducible exact BZ3.out | refine blk_far ?_ (show w.heap.size + 1 ≠ g2 by omega) _)⟩
     have BO4 : Aside0 (((((((((W4.setCell ⟨g2, 0, none⟩ (.slice B0 l0.length d0)).setCell ⟨g2, 1, none⟩ (.slice B1 l1.length d1)).setCell ⟨g2, 2, none⟩ (.int .u64 o)).setCell ⟨g2, 3, none⟩ (.int .i64 m)).setCell ⟨g2, 4, none⟩ (.slice B4 l4.length d4)).setCell ⟨g2, 5, none⟩ (.int .u64 ep)).setCell ⟨g2, 6, none⟩ (.int .u64 ge)).setCell ⟨g2, 7, none⟩ (.slice B7 l7.length d7)).heap[w.heap.size + 1 + 1]? = some (.cells #[.int .u64 e, .int .u64 g, .int .u64 n, .int .i64 0, .slice B xs.length d, .slice A i2 c] 36 (0, 0))) := ⟨by repeat (first | with_reducible exact BO3.out | refine blk_far ?_ (show w.heap.size + 1 + 1 ≠ g2 by omega) _)⟩
     have HR4 : Aside0 (Kd.S aNo 76 ((((((((W4.setCell ⟨g2, 0, none⟩ (.slice B0 l0.length d0)).setCell ⟨g2, 1, none⟩ (.slice B1 l1.length d1)).setCell ⟨g2, 2, none⟩ (.int .u64 o)).setCell ⟨g2, 3, none⟩ (.int .i64 m)).setCell ⟨g2, 4, none⟩ (.slice B4 l4.length d4)).setCell ⟨g2, 5, none⟩ (.int .u64 ep)).setCell ⟨g2, 6, none⟩ (.int .u64 ge)).setCell ⟨g2, 7, none⟩ (.slice B7 l7.length d7)) w.heap.size (fun k => T1 ≤ k ∧ k < g2) (.slice A i2 c) x) := ⟨by repeat (first | with_reducible exact HR3.out | refine Kd.S_far ?_ (fun k hk => by have := hk.2; show k ≠ g2; omega) _)⟩
     have HSE4 : Aside0 (Kd.S aSe 70 ((((((((W4.setCell ⟨g2, 0, none⟩ (.slice B0 l0.length d0)).setCell ⟨g2, 1, none⟩ (.slice B1 l1.length d1)).setCell ⟨g2, 2, none⟩ (.int .u64 o)).setCell ⟨g2, 3, none⟩ (.int .i64 m)).setCell ⟨g2, 4, none⟩ (.slice B4 l4.length d4)).setCell ⟨g2, 5, none⟩ (.int .u64 ep)).setCell ⟨g2, 6, none⟩ (.int .u64 ge)).setCell ⟨g2, 7, none⟩ (.slice B7 l7.length d7)) w.heap.size (fun k => w.heap.size + 3 ≤ k ∧ k < T1) (.slice B xs.length d) (xs.map durSe)) := ⟨by repeat (first | with_reducible exact HSE3.out | refine Kd.S_far ?_ (fun k hk => by have := hk.2; show k ≠ g2; omega) _)⟩
     have HB4 : Aside0 (Below w.heap.size w ((((((((W4.setCell ⟨g2, 0, none⟩ (.slice B0 l0.length d0)).setCell ⟨g2, 1, none⟩ (.slice B1 l1.length d1)).setCell ⟨g2, 2, none⟩ (.int .u64 o)).setCell ⟨g2, 3, none⟩ (.int .i64 m)).setCell ⟨g2, 4, none⟩ (.slice B4 l4.length d4)).setCell ⟨g2, 5, none⟩ (.int .u64 ep)).setCell ⟨g2, 6, none⟩ (.int .u64 ge)).setCell ⟨g2, 7, none⟩ (.slice B7 l7.length d7))) := ⟨by with_reducible repeat (first | exact HB3.out | refine below_set ?_ (by omega))⟩
     have HM4 : Aside0 (aNo.M ((((((((W4.setCell ⟨g2, 0, none⟩ (.slice B0 l0.length d0)).setCell ⟨g2, 1, none⟩ (.slice B1 l1.length d1)).setCell ⟨g2, 2, none⟩ (.int .u64 o)).setCell ⟨g2, 3, none⟩ (.int .i64 m)).setCell ⟨g2, 4, none⟩ (.slice B4 l4.length d4)).setCell ⟨g2, 5, none⟩ (.int .u64 ep)).setCell ⟨g2, 6, none⟩ (.int .u64 ge)).setCell ⟨g2, 7, none⟩ (.slice B7 l7.length d7)) W3.heap.size (fun k => W3.heap.size ≤ k) ⟨l0, l1, o, m, l4, ep, ge, l7⟩ [.slice B0 l0.length d0, .slice B1 l1.length d1, .int .u64 o, .int .i64 m, .slice B4 l4.length d4, .int .u64 ep, .int .u64 ge, .slice B7 l7.length d7]) := ⟨by repeat (first | with_reducible exact aNo.M_mono (fun k hk => hk.2.1) HM3.out | refine Kd.M_far ?_ (fun k hk => by have : W3.heap.size ≤ k := hk; show k ≠ g2; omega) _)⟩
     have SW5 : Aside0 (W3.heap.size ≤ ((((((((W4.setCell ⟨g2, 0, none⟩ (.slice B0 l0.length d0)).setCell ⟨g2, 1, none⟩ (.slice B1 l1.length d1)).setCell ⟨g2, 2, none⟩ (.int .u64 o)).setCell ⟨g2, 3, none⟩ (.int .i64 m)).setCell ⟨g2, 4, none⟩ (.slice B4 l4.length d4)).setCell ⟨g2, 5, none⟩ (.int .u64 ep)).setCell ⟨g2, 6, none⟩ (.int .u64 ge)).setCell ⟨g2, 7, none⟩ (.slice B7 l7.length d7)).heap.size) := ⟨by simp only [World.size_setCell]; exact hs4⟩
     clear hs4
     generalize ((((((((W4.setCell ⟨g2, 0, none⟩ (.slice B0 l0.length d0)).setCell ⟨g2, 1, none⟩ (.slice B1 l1.length d1)).setCell ⟨g2, 2, none⟩ (.int .u64 o)).setCell ⟨g2, 3, none⟩ (.int .i64 m)).setCell ⟨g2, 4, none⟩ (.slice B4 l4.length d4)).setCell ⟨g2, 5, none⟩ (.int .u64 ep)).setCell ⟨g2, 6, none⟩ (.int .u64 ge)).setCell ⟨g2, 7, none⟩ (.slice B7 l7.length d7)) = W5 at *
     clear BN3 BZ3 BO3 HR3 HSE3 HB3 HM3
     obtain ⟨p0, p1, p4, v0, v1, v4, v7, ev, hR0, hR1, hR4, hR7⟩ := aNo_open HM4.out
     simp only [List.cons.injEq, and_true] at ev
     obtain ⟨rfl, rfl, _, _, rfl, _, _, rfl⟩ := ev
     obtain ⟨W6, hclr, hg6, hR7b⟩ := run_clear_u64 hR7
     have n7 := (cells8 BN4.out).2.2.2.2.2.2.2
     have own7 : ∀ k, k < W5.heap.size → (k < W3.heap.size ∨ p0 k ∨ p1 k ∨ p4 k) → W6.heap[k]? = W5.heap[k]? := fun k hk hp => hg6.block k hk (fun e => by
      have h := hR7.1 k e.symm
      rcases hp with hp | hp | hp | hp
      ·
       have : W3.heap.size ≤ k := h.1.1.1; omega
      ·
       exact h.1.1.2 hp
      ·
       exact h.1.2 hp
      ·
       exact h.2 hp)
     have BN5 := Aside0.mk ((own7 g2 (blk_lt BN4.out) (Or.inl hlt)).trans BN4.out)
     have BZ5 := Aside0.mk ((own7 _ (blk_lt BZ4.out) (Or.inl (by omega))).trans BZ4.out)
     have BO5 := Aside0.mk ((own7 _ (blk_lt BO4.out) (Or.inl (by omega))).trans BO4.out)
     have HR5 := Aside0.mk (Kd.S_step HR4.out (fun k hk hl => own7 k hl (Or.inl (by have := hk.2; omega))))
     have HSE5 := Aside0.mk (Kd.S_step HSE4.out (fun k hk hl => own7 k hl (Or.inl (by have := hk.2; omega))))
     have hW3 : ∀ k, (Value.slice B7 l7.length d7).ownBlock = some k → W3.heap.size ≤ k := fun k hk => (hR7.1 k hk).1.1.1
     have HB5 := Aside0.mk (HB4.out.grown hg6 HB4.out.size (fun k hk => by have := hW3 k hk; omega))
     have HQ0 := Aside0.mk (Kd.R_step hR0 (fun k hk hl => own7 k hl (Or.inr (Or.inl hk.2))))
     have HQ1 := Aside0.mk (Kd.R_step hR1 (fun k hk hl => own7 k hl (Or.inr (Or.inr (Or.inl hk.2)))))
     have HQ4 := Aside0.mk (Kd.R_step hR4 (fun k hk hl => own7 k hl (Or.inr (Or.inr (Or.inr hk.2)))))
     have HQ7 := Aside0.mk hR7b
     have HCL := Aside0.mk hclr
     have S5 := Aside0.mk hg6.size
     have S4 := Aside0.mk (show T1 ≤ W3.heap.size by omega)
     clear own7 hW3 hR0 hR1 hR4 hR7 hR7b hg6 HM4 BZ4 BO4 HR4 HSE4 HB4
     go_upto_region 12 with (fail)
     clear hclr n7 HCL BN4
     have n7 := (cells8 BN5.out).2.2.2.2.2.2.2
     have f7 := blk_frozen BN5.out 7
     go_upto_region 13 with (fail)
     clear n7 f7
     have BN6 := Aside0.mk (blk_put (cs' := #[.slice B0 l0.length d0, .slice B1 l1.length d1, .int .u64 o, .int .i64 m, .slice B4 l4.length d4, .int .u64 ep, .int .u64 ge, .slice B7 0 d7]) BN5.out 7 (.slice B7 0 d7) rfl)
     have BZ6 := Aside0.mk (blk_far BZ5.out (p := ⟨g2, 7, none⟩) (show w.heap.size + 1 ≠ g2 by omega) (.slice B7 0 d7))
     have BO6 := Aside0.mk (blk_far BO5.out (p := ⟨g2, 7, none⟩) (show w.heap.size + 1 + 1 ≠ g2 by omega) (.slice B7 0 d7))
     have HR6 := Aside0.mk (Kd.S_far (p := ⟨g2, 7, none⟩) HR5.out (fun k hk => by have := hk.2; show k ≠ g2; omega) (.slice B7 0 d7))
     have HSE6 := Aside0.mk (Kd.S_far (p := ⟨g2, 7, none⟩) HSE5.out (fun k hk => by have := hk.2; show k ≠ g2; omega) (.slice B7 0 d7))
     have HB6 := Aside0.mk (below_set (g := g2) (j := 7) (v := .slice B7 0 d7) HB5.out (by omega))
     have HM6 := Aside0.mk (show aNo.M (W6.setCell ⟨g2, 7, none⟩ (.slice B7 0 d7)) W3.heap.size (fun k => W3.heap.size ≤ k) ⟨l0, l1, o, m, l4, ep, ge, []⟩ [.slice B0 l0.length d0, .slice B1 l1.length d1, .int .u64 o, .int .i64 m, .slice B4 l4.length d4, .int .u64 ep, .int .u64 ge, .slice B7 0 d7] from aNo_mkp _ _ _ ⟨l0, l1, o, m, l4, ep, ge, []⟩ p0 p1 p4 (Kd.R_far (p := ⟨g2, 7, none⟩) HQ0.out (fun k hk => by have : W3.heap.size ≤ k := hk.1; show k ≠ g2; omega) _) (Kd.R_far (p := ⟨g2, 7, none⟩) HQ1.out (fun k hk => by have : W3.heap.size ≤ k := hk.1.1; show k ≠ g2; omega) _) (Kd.R_far (p := ⟨g2, 7, none⟩) HQ4.out (fun k hk => by have : W3.heap.size ≤ k := hk.1.1.1; show k ≠ g2; omega) _) (Kd.R_far (p := ⟨g2, 7, none⟩) HQ7.out (fun k hk => by have : W3.heap.size ≤ k := hk.1.1.1; show k ≠ g2; omega) _))
     have hsz : (W6.setCell ⟨g2, 7, none⟩ (.slice B7 0 d7)).heap.size = W6.heap.size := by simp [World.setCell]
     have S6 := Aside0.mk (show W5.heap.size ≤ (W6.setCell ⟨g2, 7, none⟩ (.slice B7 0 d7)).heap.size by rw [hsz]; exact S5.out)
     clear hsz
     generalize (W6.setCell ⟨g2, 7, none⟩ (.slice B7 0 d7)) = W7 at *
     clear BN5 BZ5 BO5 HR5 HSE5 HB5 HQ0 HQ1 HQ4 HQ7 S5
     obtain ⟨n0, n1, n2, n3, n4, n5, n6, n7⟩ := cells8 BN6.out
     have o5 := (cells6 BO6.out).2.2.2.2.2
     have HZ := Aside0.mk (show (∀ w5, W7.grownBy w5 (Value.slice A i2 c).ownBlock → w5.heap[w.heap.size + 1 + 1]? = some (.cells #[.int .u64 e, .int .u64 g, .int .u64 n, .int .i64 0, .slice B xs.length d, .slice A i2 c] 36 (0, 0)) ∧ w5.cell? ⟨w.heap.size + 1 + 1, 5, none⟩ = some (.slice A i2 c) ∧ w5.frozen? ⟨w.heap.size + 1 + 1, 5, none⟩ = false ∧ w5.heap[w.heap.size + 1]? = some (.cells #[.int .u64 0, .int .u64 0, .int .u64 0, .int .i64 0, .slice none 0 0, .slice none 0 0] 36 (0, 0)) ∧ Kd.S aSe 70 w5 w.heap.size (fun k => w.heap.size + 3 ≤ k ∧ k < T1) (.slice B xs.length d) (xs.map durSe)) from fun w5 hg => by
      have hn1 : ∀ {b : Nat} {c' : Array Value}, W7.heap[b]? = some (.cells c' 36 (0, 0)) → some b ≠ (Value.slice A i2 c).ownBlock := fun hb => Kd.R_ne (Kd.S_R HR6.out) hb (by decide)
      have h1 := blk_grown BO6.out hg (hn1 BO6.out)
      exact ⟨h1, (cells6 h1).2.2.2.2.2, blk_frozen h1 5, blk_grown BZ6.out hg (hn1 BZ6.out), Kd.S_step HSE6.out (fun k hk hl => hg.block k hl (fun e => by
       have h := (Kd.S_R HR6.out).1 k e.symm
       have := hk.2
       have := h.1
       omega))⟩)
     go_wp2_with (first | ((with_reducible refine gate_builtin (b := .append) (xs := #[.tmp 47, .tmp 49]) rfl ?_); at_builtin; refine Kd.S_append aNo (w0 := w) w.heap.size rfl (.tmp 47) (.tmp 49) 34 76 (.agg #[(.slice none 0 0), (.slice none 0 0), (.int .u64 0), (.int .i64 0), (.slice none 0 0), (.int .u64 0), (.int .u64 0), (.slice none 0 0)]) 128 rfl Tryd.underlying34 info76 rfl (by decide) (by omega) (.slice A i2 c) x (⟨l0, l1, o, m, l4, ep, ge, []⟩ : No) [.slice B0 l0.length d0, .slice B1 l1.length d1, .int .u64 o, .int .i64 m, .slice B4 l4.length d4, .int .u64 ep, .int .u64 ge, .slice B7 0 d7] (fun k => T1 ≤ k) (fun k => W3.heap.size ≤ k) ?eS ?eX ?aP ?aK ?aF ?aO HB6.out HB6.out.size ?aL ?_; (case eS => first | rfl | simp [Act.eval, Act.put]); (case eX => first | rfl | simp [Act.eval, Act.put]); (case aP => exact aNo.M_lower (by have := HB2s.out; omega) HM6.out); (case aK => exact (fun k hk => ⟨by have := S4.out; show T1 ≤ k; have h3 : W3.heap.size ≤ k := hk; omega, fun e => by have h := ((Kd.S_R HR6.out).1 k e.symm).2; have h3 : W3.heap.size ≤ k := hk; omega⟩)); (case aF => exact (fun k hk => by have := S4.out; have := S6.out; have := SW5.out; show T1 ≤ k; omega)); (case aO => exact Kd.S_mono HR6.out (fun k hk => ⟨hk.1, fun h => by have : W3.heap.size ≤ k := h; have := hk.2; omega⟩)); (case aL => have := HLN.out; have := HS.out.n; omega); intro v1 w5 ho hb hg hat; obtain ⟨A1, c1', rfl⟩ := Kd.S_slice ho; have HO7 := Aside0.mk ho; have HB7 := Aside0.mk hb; have HG7 := Aside0.mk hg; have y0 := (HZ.out w5 hg).2.1; have y1 := (HZ.out w5 hg).2.2.1; clear ho hb hg hat))
     have hz := HZ.out w5 HG7.out
     have hj2 := HJ.out
     have e1 := HLN.out
     have eL : (x ++ [(⟨l0, l1, o, m, l4, ep, ge, []⟩ : No)]).length = i2 + 1 := by rw [List.length_append, e1]; rfl
     have HO8 := HO7.out
     rw [eL] at HO8
     have S7 := HG7.out.size
     have S7a := S6.out
     have S7b := SW5.out
     obtain ⟨k1, rfl⟩ : ∃ k1, gk = k1 + 1 := ⟨gk - 1, by omega⟩
     go_roundg k1
     case measure => omega
     case rel =>
      rw [e1]
      refine ⟨i2 + 1, A1, c1', by go_num, ⟨⟨by omega, by omega⟩⟩, ⟨?_⟩, ⟨Kd.S_far hz.2.2.2.2 (fun k hk => by have : w.heap.size + 3 ≤ k := hk.1; show k ≠ w.heap.size + 1 + 1; omega) _⟩, ⟨blk_far hz.2.2.2.1 (show w.heap.size + 1 ≠ w.heap.size + 1 + 1 by omega) _⟩, ⟨blk_put hz.1 5 _ rfl⟩, ⟨below_set HB7.out (by omega)⟩, ⟨by simp [World.setCell]; omega⟩⟩
      rw [HT.out]
      exact Kd.S_far HO8 (fun k hk => by show k ≠ w.heap.size + 1 + 1; have : T1 ≤ k := hk; have := HO2.out; omega) _
    ·
     have c1b : decide ((i2 : Int) < (ns.length : Int)) = false := decide_eq_false (by omega)
     obtain rfl : i2 = ns.length := by omega
     rw [List.take_length] at HR
     obtain ⟨y0, y1, y2, y3, y4, y5⟩ := cells6 BO.out
     obtain ⟨z0, z1, z2, z3, z4, z5⟩ := cells6 BZ.out
     have f0 := blk_frozen BZ.out 0
     have f1 := blk_frozen BZ.out 1
     have f2 := blk_frozen BZ.out 2
     have f3 := blk_frozen BZ.out 3
     have f4 := blk_frozen BZ.out 4
     have f5 := blk_frozen BZ.out 5
     go_wp2_with fail
     refine bodyPost_ret (results_cell_row rfl _ _ (w.heap.size + 1) 36 #[.int .u64 e, .int .u64 g, .int .u64 n, .int .i64 0, .slice B xs.length d, .slice A ns.length c] (0, 0) _ rfl (by refine blk_put (cs := #[.int .u64 e, .int .u64 g, .int .u64 n, .int .i64 0, .slice B xs.length d, .slice none 0 0]) ?_ 5 _ rfl; refine blk_put (cs := #[.int .u64 e, .int .u64 g, .int .u64 n, .int .i64 0, .slice none 0 0, .slice none 0 0]) ?_ 4 _ rfl; refine blk_put (cs := #[.int .u64 e, .int .u64 g, .int .u64 n, .int .i64 0, .slice none 0 0, .slice none 0 0]) ?_ 3 _ rfl; refine blk_put (cs := #[.int .u64 e, .int .u64 g, .int .u64 0, .int .i64 0, .slice none 0 0, .slice none 0 0]) ?_ 2 _ rfl; refine blk_put (cs := #[.int .u64 e, .int .u64 0, .int .u64 0, .int .i64 0, .slice none 0 0, .slice none 0 0]) ?_ 1 _ rfl; refine blk_put (cs := #[.int .u64 0, .int .u64 0, .int .u64 0, .int .i64 0, .slice none 0 0, .slice none 0 0]) ?_ 0 _ rfl; exact BZ.out) Tryd.underlying36 rfl (by kernel_rfl)) rfl ?_
     have ho2 := HO2.out
     have htt := HTT.out
     have hsz : ∀ (a b : Nat) (u : World) (v : Value), (u.setCell ⟨a, b, none⟩ v).heap.size = u.heap.size := fun a b u v => by simp [World.setCell]
     refine ⟨B, d, A, c, by rw [List.length_map, List.length_map], ⟨fun k => k < T1, ?_, ?_⟩, by with_reducible repeat (first | exact HB.out | refine below_set ?_ (by omega))⟩
     ·
      rw [List.length_map]
      refine Kd.S_mono (ok := fun k => w.heap.size + 3 ≤ k ∧ k < T1) ?_ (fun k hk => ⟨⟨by omega, by simp only [hsz]; omega⟩, hk.2⟩)
      repeat (first | with_reducible exact HSE.out | refine Kd.S_far ?_ (fun k hk => by have := hk.1; show k ≠ w.heap.size + 1; omega) _)
     ·
      rw [List.length_map]
      refine Kd.S_mono (ok := fun k => T1 ≤ k ∧ k < wr.heap.size) ?_ (fun k hk => ⟨⟨by omega, by simp only [hsz]; omega⟩, by omega⟩)
      repeat (first | with_reducible exact Kd.S_mono (Kd.S_bound HR.out) (fun k hk => ⟨hk.1, hk.2.2.1⟩) | refine Kd.S_far ?_ (fun k hk => by have := hk.1; show k ≠ w.heap.size + 1; omega) _)
def encNo (x : No) : List Int := textB x.f0 ++ textB x.f1 ++ varN x.f2 ++ [x.f3 % 256] ++ varN (x.f4.length : Int) ++ x.f4.flatMap varN ++ varN x.f5 ++ varN x.f6
def encHd (e g n : Int) (xs : List Se) : List Int := varN e ++ varN g ++ varN n ++ varN (xs.length : Int)
def encMid (e g n : Int) (xs : List Se) (k : Nat) : List Int := encHd e g n xs ++ xs.flatMap (fun x => varN x.f0) ++ varN (k : Int)
def encSt (e g n : Int) (xs : List Se) (ns : List No) : List Int := encMid e g n xs ns.length ++ ns.flatMap encNo
def encF (e g n t : Int) (xs : List Se) (ns : List No) : List Int := if validB e g n t xs ns = true then encSt e g n xs ns else []
theorem flat_var_le {α : Type} (f : α → Int) (l : List α) : (l.flatMap (fun x => varN (f x))).length ≤ 10 * l.length := by
 induction l with
 | nil => simp
 | cons y r ih =>
  rw [List.flatMap_cons, List.length_append, List.length_cons]
  have := varN_length (f y)
  omega
theorem flat_varN_le (l : List Int) : (l.flatMap varN).length ≤ 10 * l.length := flat_var_le (fun x => x) l
theorem encNo_le (x : No) : (encNo x).length ≤ 16 * lnNo x := by
 unfold encNo lnNo
 have h0 := textB_length x.f0
 have h1 := textB_length x.f1
 have h2 := varN_length x.f2
 have h3 := varN_length (x.f4.length : Int)
 have h4 := flat_varN_le x.f4
 have h5 := varN_length x.f5
 have h6 := varN_length x.f6
 simp only [List.length_append, List.length_singleton]
 omega
theorem encHd_le (e g n : Int) (xs : List Se) : (encHd e g n xs).length ≤ 40 := by
 unfold encHd
 have h0 := varN_length e
 have h1 := varN_length g
 have h2 := varN_length n
 have h3 := varN_length (xs.length : Int)
 simp only [List.length_append]
 omega
theorem ses_le (xs : List Se) : xs.length ≤ sumL lnSe xs := by
 induction xs with
 | nil => simp
 | cons x r ih => simp only [sumL, List.length_cons, lnSe]; omega
theorem flatNo_le (ns : List No) : (ns.flatMap encNo).length ≤ 16 * sumL lnNo ns := by
 induction ns with
 | nil => simp
 | cons y r ih =>
  rw [List.flatMap_cons, List.length_append]
  have := encNo_le y
  simp only [sumL]
  omega
theorem encMid_le (e g n : Int) (xs : List Se) (k : Nat) : (encMid e g n xs k).length ≤ 50 + 10 * xs.length := by
 unfold encMid
 have h0 := encHd_le e g n xs
 have h1 := flat_var_le (fun x : Se => x.f0) xs
 have h2 := varN_length (k : Int)
 simp only [List.length_append]
 omega
theorem encSt_le (e g n : Int) (xs : List Se) (ns : List No) : (encSt e g n xs ns).length ≤ 50 + 10 * sumL lnSe xs + 16 * sumL lnNo ns := by
 unfold encSt
 have h0 := encMid_le e g n xs ns.length
 have h1 := flatNo_le ns
 have h2 := ses_le xs
 simp only [List.length_append]
 omega
theorem encF_le (e g n t : Int) (xs : List Se) (ns : List No) : (encF e g n t xs ns).length ≤ 50 + 10 * sumL lnSe xs + 16 * sumL lnNo ns := by
 unfold encF
 split
 ·
  exact encSt_le e g n xs ns
 ·
  simp
end Go.Proofs.YtbgbocdohadhoaaDoor.Print
