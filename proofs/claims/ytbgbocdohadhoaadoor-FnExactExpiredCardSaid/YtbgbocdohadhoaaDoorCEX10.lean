/- Texts of this session, joined by its own program. -/
import Derived.Test.YtbgbocdohadhoaaDoorCards
import Derived.Test.YtbgbocdohadhoaaDoorTie
import Derived.WalkKit
import Derived.Below
import Derived.LaidMore
import Derived.Lay
import Derived.SevenTiedAt
import Derived.Stop.Joined
import Derived.Test.YtbgbocdohadhoaaDoorCEX9
namespace Go.Proofs.YtbgbocdohadhoaaDoor.Print
open Go Go.RowKit Go.Proofs.YtbgbocdohadhoaaDoorW.PrintWords Go.Proofs.YtbgbocdohadhoaaDoorW.PrintLast Go.Proofs.YtbgbocdohadhoaaDoorW.PrintMore
set_option linter.unusedVariables false
set_option linter.unusedSimpArgs false
theorem valIC : ValIC := fun e g n t As cs xs An cn ns w h1 hc1 h2 hc2 hs hx hm => by
 have h := impl_ValidState_calls e g n t As cs xs An cn ns w h1 hc1 h2 hc2 ⟨hs.x, hs.n, hs.e, hs.m⟩ ⟨hx, hm⟩
 rw [valid_eq] at h
 exact h
def overL (t : Int) (xs : List Se) : List Int := (xs.filter (fun x => decide (x.f1 ≤ t))).map (fun x => x.f0)
def expF (e g n t : Int) (xs : List Se) (ns : List No) : List Int := if validB e g n t xs ns = true then overL t xs else []
theorem overL_len (t : Int) (xs : List Se) : (overL t xs).length ≤ xs.length := by
 unfold overL
 rw [List.length_map]
 exact List.length_filter_le _ _
theorem expF_len (e g n t : Int) (xs : List Se) (ns : List No) : (expF e g n t xs ns).length ≤ xs.length := by
 unfold expF
 split
 ·
  exact overL_len _ _
 ·
  simp
theorem overL_take (t : Int) (xs : List Se) (i : Nat) (h : i < xs.length) : overL t (xs.take (i + 1)) = overL t (xs.take i) ++ (if xs[i].f1 ≤ t then [xs[i].f0] else []) := by
 unfold overL
 rw [List.take_succ_eq_append_getElem h, List.filter_append, List.map_append]
 by_cases c : xs[i].f1 ≤ t
 ·
  simp [c]
 ·
  simp [c]
theorem rd_seI (xs : List Se) (i : Nat) (h : i < xs.length) : rd_T70 xs (i : Int) = xs[i] := by unfold rd_T70; rw [Int.toNat_natCast, List.getD_eq_getElem?_getD, List.getElem?_eq_getElem h]; rfl
theorem over_calls (G : Nat) (e g n t : Int) (As : Option Addr) (cs xl : Nat) (An : Option Addr) (cn nl : Nat) (id dl : Int) (A : Option Addr) (k c : Nat) (w : World) (hb : w.heap[G]? = some (.cells #[.int .u64 e, .int .u64 g, .int .u64 n, .int .i64 t, .slice As xl cs, .slice An nl cn] 36)) :
  Calls Tryd.prog 57 #[.agg #[.int .u64 id, .int .i64 dl, .slice A k c], .pointer (some ⟨G, 0, none⟩)] w fun r w' => r = .returned (.bool (decide (dl ≤ t))) ∧ Below w.heap.size w w' := by
 have hG := blk_lt hb
 have hB := below_alloc (Below.refl w.heap.size w) (.cells #[.int .u64 id, .int .i64 dl, .slice A k c] 70)
 have s3 := blk_cell (blk_alloc hb (.cells #[.int .u64 id, .int .i64 dl, .slice A k c] 70)) 3
 simp only [List.getElem?_toArray, List.getElem?_cons_zero, List.getElem?_cons_succ] at s3
 have HB := Aside0.mk hB
 clear hb hB hG
 go_enter Tryd.func57, Tryd.ntmps57
 go_wp2_with fail
 go_ret
 exact ⟨rfl, HB.out⟩
theorem clip_calls (A : Option Addr) (l c : Nat) (hl : l ≤ c) (hm : l ≤ 2097152) (hn : A = none → c = 0) (w : World) :
  Calls Tryd.prog 58 #[.slice A l c] w fun r w' => r = .returned (.slice A l l) ∧ w' = w := by
 go_enter Tryd.func58, Tryd.ntmps58
 go_wp2_with fail
 go_ret
 exact ⟨rfl, rfl⟩
set_option maxHeartbeats 4000000 in
set_option maxRecDepth 100000 in
theorem specExp_ok (w0 : World) (e g n t : Int) (As : Option Addr) (cs : Nat) (xs : List Se) (An : Option Addr) (cn : Nat) (ns : List No) (w : World) (hB : Below w0.heap.size w0 w) (h1 : Kd.C kSe w As xs.length xs) (hc1 : xs.length ≤ cs) (h2 : Kd.C kNo w An ns.length ns) (hc2 : ns.length ≤ cn) (hs : SmS xs ns) (hr : RgT xs ns) (hh : (0 ≤ e ∧ e < 18446744073709551616) ∧ (0 ≤ g ∧ g < 18446744073709551616) ∧ (0 ≤ n ∧ n < 18446744073709551616)) :
  Calls Tryd.prog 18 #[.agg #[.int .u64 e, .int .u64 g, .int .u64 n, .int .i64 t, .slice As xs.length cs, .slice An ns.length cn]] w fun r w' => ∃ A c, r = .returned (.slice A (expF e g n t xs ns).length c) ∧ UK w0 w' w.heap.size w'.heap.size A c (expF e g n t xs ns) ∧ Below w.heap.size w w' := by
 have HB0 := Aside0.mk hB
 have H1 := Aside0.mk h1
 have hx := hs.x
 have hV := spec_ValidState.calls 10000000 e g n t As cs xs An cn ns _ (w.alloc (.cells #[.int .u64 e, .int .u64 g, .int .u64 n, .int .i64 t, .slice As xs.length cs, .slice An ns.length cn] 36)) (Kd.C_alloc h1 _) hc1 (Kd.C_alloc h2 _) hc2 (validState_f e g n t xs ns hs)
 have hF : expF e g n t xs ns = if validB e g n t xs ns = true then overL t xs else [] := rfl
 obtain ⟨vb, hvb⟩ : ∃ vb, validB e g n t xs ns = vb := ⟨_, rfl⟩
 rw [hvb] at hV hF
 have HVV := Aside0.mk hV
 have HF := Aside0.mk hF
 clear h1 hc1 h2 hc2 hs hr hh hB hvb hV hF
 go_enter Tryd.func18, Tryd.ntmps18
 go_wp2_with fail
 have b0 := blk_new w (.cells #[.int .u64 e, .int .u64 g, .int .u64 n, .int .i64 t, .slice As xs.length cs, .slice An ns.length cn] 36)
 have hba := below_alloc (Below.refl w.heap.size w) (.cells #[.int .u64 e, .int .u64 g, .int .u64 n, .int .i64 t, .slice As xs.length cs, .slice An ns.length cn] 36)
 refine HVV.out.mono ?_
 rintro r W1 ⟨rfl, hb⟩
 have BS := Aside0.mk (blk_below b0 hb)
 have HB := Aside0.mk (below_step hba hb)
 clear HVV b0 hba hb
 cases vb with
 | false =>
  go_wp2_with fail
  go_ret
  refine ⟨none, 0, by rw [HF.out]; rfl, ?_, HB.out⟩
  rw [HF.out, if_neg (by decide)]
  exact UK.of (ok := fun _ => True) (Kd.Q_nil _ _ _ _ _) HB0.out
 | true =>
  rw [if_pos rfl] at HF
  go_wp2_with fail
  go_loopg [3, 4] (xs.length + 1) (fun kq v3 v4 w' => ∃ i : Nat, v4 = .int .i64 i ∧ Aside0 (kq + i = xs.length + 1 ∧ i ≤ xs.length) ∧ Aside0 (Kd.R (Kd.int .u64) 26 w' w.heap.size (fun _ => True) v3 (overL t (xs.take i))) ∧ Aside0 (w'.heap[w.heap.size]? = some (.cells #[.int .u64 e, .int .u64 g, .int .u64 n, .int .i64 t, .slice As xs.length cs, .slice An ns.length cn] 36)) ∧ Aside0 (Below w.heap.size w w'))
  case atStart => exact ⟨0, rfl, ⟨⟨by omega, by omega⟩⟩, ⟨by rw [List.take_zero]; exact Kd.R_nil _ _ _ _ _⟩, BS, HB⟩
  case round =>
   clear BS HB
   obtain ⟨i, rfl, HJ, HR, BK, HB⟩ := hrel
   have hj0 := HJ.out
   have s3 := blk_cell BK.out 3
   have s4 := blk_cell BK.out 4
   simp only [List.getElem?_toArray, List.getElem?_cons_zero, List.getElem?_cons_succ] at s3 s4
   by_cases hj : i < xs.length
   ·
    have c1 : decide ((i : Int) < (xs.length : Int)) = true := decide_eq_true (by omega)
    have c2 : decide (i < xs.length) = true := decide_eq_true hj
    have ci : (0 : Int) ≤ (i : Int) := by omega
    have ci2 : (i : Int) < (xs.length : Int) := by omega
    have hstep := overL_take t xs i hj
    have hlen : (overL t (xs.take i)).length ≤ 2097152 := Nat.le_trans (overL_len _ _) (by rw [List.length_take]; omega)
    obtain ⟨ad, A2, k2, eA, hx0, hx1, hx2, hl2, hi2⟩ := at_T70 H1.out (i : Int) ci ci2
    rw [rd_seI xs i hj] at hx0 hx1 hx2 hl2 hi2
    rw [Int.toNat_natCast] at hx0 hx1 hx2
    cases eA
    have hal : ∀ {a : Addr} {z : Value}, w.cell? a = some z → wr.cell? a = some z := fun hz => (HB.out.cell (World.block_lt_of_cell? w _ hz)).trans hz
    replace hx0 := hal hx0
    replace hx1 := hal hx1
    clear hal hl2 hi2 hx2
    obtain ⟨y, hy⟩ : ∃ y, xs[i] = y := ⟨_, rfl⟩
    rw [hy] at hx0 hx1 hstep
    clear hy
    obtain ⟨id, dl, q⟩ := y
    simp only at hx0 hx1 hstep
    have HST := Aside0.mk hstep
    have HLE := Aside0.mk hlen
    clear hstep hlen
    obtain ⟨x, hxq⟩ : ∃ x, overL t (xs.take i) = x := ⟨_, rfl⟩
    rw [hxq] at HST HR HLE
    clear hxq
    have HR4 := HR
    have HB4 := HB
    have BK4 := BK
    clear HR HB BK
    by_cases hd : dl ≤ t
    ·
     have d0 : decide (dl ≤ t) = true := decide_eq_true hd
     rw [if_pos hd] at HST
     clear hd
     go_wp2_with fail
     repeat (go_quiet (fail))
     go_wp2_with (first | ((with_reducible refine gate_builtin (b := .append) (xs := #[.tmp 24, .tmp 31]) rfl ?_); at_builtin; refine Kd.R_append (Kd.int .u64) (w0 := w) w.heap.size rfl (.tmp 24) (.tmp 31) 40 26 (.int .u64 0) 8 rfl Tryd.underlying40 info26 rfl (by decide) (by omega) u3 x id [.int .u64 id] (fun _ => True) (fun _ => False) rfl rfl ?aP (fun _ hk => hk.elim) ?aF ?aO ?aB ?aS ?aL ?_; (case aP => exact rfl); (case aB => exact (by repeat (first | (with_reducible first | exact HB4.out | apply below_alloc | apply pw_below_drewN | apply below_drew1) | exact HB4.out))); (case aF => exact (fun _ _ => trivial)); (case aO => exact (by (with_reducible repeat (first | apply Kd.R_alloc | apply Kd.R_drewN | apply Kd.R_drew)); exact HR4.out)); (case aS => exact (below_size (by repeat (first | (with_reducible first | exact HB4.out | apply below_alloc | apply pw_below_drewN | apply below_drew1) | exact HB4.out)))); (case aL => have := HLE.out; omega); intro v5 w5 ho hb hg hat; have BK5 := Aside0.mk (blk_grown (by (with_reducible repeat (first | refine blk_drewN ?_ _ | refine blk_drew ?_ | refine blk_alloc ?_ _)); exact BK4.out) hg (Kd.R_ne HR4.out BK4.out (by decide))); have HB5 := Aside0.mk hb; have HR5 := Aside0.mk ho; clear ho hb hg hat BK4 HB4 HR4))
     have hj2 := HJ.out
     obtain ⟨k1, rfl⟩ : ∃ k1, gk = k1 + 1 := ⟨gk - 1, by omega⟩
     go_roundg k1
     case measure => omega
     case rel => exact ⟨i + 1, by go_num, ⟨⟨by omega, by omega⟩⟩, ⟨by rw [HST.out]; exact HR5.out⟩, BK5, HB5⟩
    ·
     have d0 : decide (dl ≤ t) = false := decide_eq_false hd
     rw [if_neg hd, List.append_nil] at HST
     clear hd
     have hj2 := HJ.out
     obtain ⟨k1, rfl⟩ : ∃ k1, gk = k1 + 1 := ⟨gk - 1, by omega⟩
     go_wp2_with fail
     repeat (go_quiet (fail))
     go_wp2_with fail
     go_roundg k1
     case measure => omega
     case rel => exact ⟨i + 1, by go_num, ⟨⟨by omega, by omega⟩⟩, ⟨by rw [HST.out]; exact Kd.R_drewN HR4.out _⟩, ⟨blk_drewN BK4.out _⟩, ⟨pw_below_drewN HB4.out _⟩⟩
   ·
    have c1 : decide ((i : Int) < (xs.length : Int)) = false := decide_eq_false (by omega)
    have c2 : decide (i < xs.length) = false := decide_eq_false hj
    obtain rfl : i = xs.length := by omega
    rw [List.take_length, ← HF.out] at HR
    obtain ⟨A, c, rfl⟩ := Kd.R_slice HR.out
    have HU := Aside0.mk (UK.of (Kd.Q_of_R HR.out) (Below.refl w.heap.size w))
    clear HR
    go_wp2_with fail
    go_ret
    obtain ⟨c', hq⟩ := HU.out.r
    exact ⟨A, _, rfl, ⟨HU.out.k, c', Kd.Q_lower hq HB0.out.size⟩, HB.out⟩
set_option maxHeartbeats 4000000 in
set_option maxRecDepth 100000 in
theorem impl_Expired_ok (HV : ValIC) (w0 : World) (e g n t : Int) (As : Option Addr) (cs : Nat) (xs : List Se) (An : Option Addr) (cn : Nat) (ns : List No) (w : World) (hB : Below w0.heap.size w0 w) (h1 : Kd.C kSe w As xs.length xs) (hc1 : xs.length ≤ cs) (h2 : Kd.C kNo w An ns.length ns) (hc2 : ns.length ≤ cn) (hs : SmS xs ns) (hr : RgT xs ns) (hh : (0 ≤ e ∧ e < 18446744073709551616) ∧ (0 ≤ g ∧ g < 18446744073709551616) ∧ (0 ≤ n ∧ n < 18446744073709551616)) :
  Calls Tryd.prog 19 #[.agg #[.int .u64 e, .int .u64 g, .int .u64 n, .int .i64 t, .slice As xs.length cs, .slice An ns.length cn]] w fun r w' => ∃ A c, r = .returned (.slice A (expF e g n t xs ns).length c) ∧ UK w0 w' w.heap.size w'.heap.size A c (expF e g n t xs ns) ∧ Below w.heap.size w w' := by
 have HB0 := Aside0.mk hB
 have H1 := Aside0.mk h1
 have hx := hs.x
 have hV := HV e g n t As cs xs An cn ns (w.alloc (.cells #[.int .u64 e, .int .u64 g, .int .u64 n, .int .i64 t, .slice As xs.length cs, .slice An ns.length cn] 36)) (Kd.C_alloc h1 _) hc1 (Kd.C_alloc h2 _) hc2 hs hr.x hr.m
 have hF : expF e g n t xs ns = if validB e g n t xs ns = true then overL t xs else [] := rfl
 obtain ⟨vb, hvb⟩ : ∃ vb, validB e g n t xs ns = vb := ⟨_, rfl⟩
 rw [hvb] at hV hF
 have HVV := Aside0.mk hV
 have HF := Aside0.mk hF
 clear h1 hc1 h2 hc2 hs hr hh hB hvb hV hF HV
 go_enter Tryd.func19, Tryd.ntmps19
 go_wp2_with fail
 have b0 := blk_new w (.cells #[.int .u64 e, .int .u64 g, .int .u64 n, .int .i64 t, .slice As xs.length cs, .slice An ns.length cn] 36)
 have hba := below_alloc (Below.refl w.heap.size w) (.cells #[.int .u64 e, .int .u64 g, .int .u64 n, .int .i64 t, .slice As xs.length cs, .slice An ns.length cn] 36)
 refine HVV.out.mono ?_
 rintro r W1 ⟨rfl, hb⟩
 have BS := Aside0.mk (blk_below b0 hb)
 have HB := Aside0.mk (below_step hba hb)
 clear HVV b0 hba hb
 cases vb with
 | false =>
  go_wp2_with fail
  go_ret
  refine ⟨none, 0, by rw [HF.out]; rfl, ?_, HB.out⟩
  rw [HF.out, if_neg (by decide)]
  exact UK.of (ok := fun _ => True) (Kd.Q_nil _ _ _ _ _) HB0.out
 | true =>
  rw [if_pos rfl] at HF
  have b1 := blk_alloc BS.out (.cells #[] 26)
  have s4 := blk_cell b1 4
  simp only [List.getElem?_toArray, List.getElem?_cons_zero, List.getElem?_cons_succ] at s4
  have bn := blk_new W1 (.cells #[] 26)
  have hb1 := below_alloc HB.out (.cells #[] 26)
  have hg1 : W1.heap.size < (W1.alloc (.cells #[] 26)).heap.size := blk_lt bn
  have hr0 : Kd.R (Kd.int .u64) 26 (W1.alloc (.cells #[] 26)) w.heap.size (fun _ => True) (.slice (some ⟨W1.heap.size, 0, none⟩) 0 0) [] := ⟨fun _ _ => trivial, [], ⟨by simp, Or.inr ⟨W1.heap.size, 0, #[], rfl, HB.out.size, bn, Nat.le_refl _, Nat.zero_le _, by simp, by simp⟩⟩, ⟨by simp, fun j p hj => by simp at hj⟩⟩
  have BK := Aside0.mk b1
  have HR := Aside0.mk hr0
  have HB1 := Aside0.mk hb1
  clear b1 bn hb1 hr0 hg1 BS HB
  go_wp2_with fail
  clear s4
  generalize W1.alloc (.cells #[] 26) = W2 at *
  go_loopg [4, 15] (xs.length + 1) (fun kq v4 v15 w' => ∃ i : Nat, v15 = .int .i64 i ∧ Aside0 (kq + i = xs.length + 1 ∧ i ≤ xs.length) ∧ Aside0 (Kd.R (Kd.int .u64) 26 w' w.heap.size (fun _ => True) v4 (overL t (xs.take i))) ∧ Aside0 (w'.heap[w.heap.size]? = some (.cells #[.int .u64 e, .int .u64 g, .int .u64 n, .int .i64 t, .slice As xs.length cs, .slice An ns.length cn] 36)) ∧ Aside0 (Below w.heap.size w w'))
  case atStart => exact ⟨0, rfl, ⟨⟨by omega, by omega⟩⟩, ⟨by rw [List.take_zero]; exact HR.out⟩, BK, HB1⟩
  case round =>
   clear HR BK HB1
   obtain ⟨i, rfl, HJ, HR, BK, HB⟩ := hrel
   have hj0 := HJ.out
   by_cases hj : i < xs.length
   ·
    have c1 : decide ((i : Int) < (xs.length : Int)) = true := decide_eq_true (by omega)
    have ci : (0 : Int) ≤ (i : Int) := by omega
    have ci2 : (i : Int) < (xs.length : Int) := by omega
    have hstep := overL_take t xs i hj
    have hlen : (overL t (xs.take i)).length ≤ 2097152 := Nat.le_trans (overL_len _ _) (by rw [List.length_take]; omega)
    obtain ⟨ad, A2, c2, eA, hx0, hx1, hx2, hl2, hi2⟩ := at_T70 H1.out (i : Int) ci ci2
    rw [rd_seI xs i hj] at hx0 hx1 hx2 hl2 hi2
    rw [Int.toNat_natCast] at hx0 hx1 hx2
    cases eA
    have hal : ∀ {a : Addr} {z : Value}, w.cell? a = some z → wr.cell? a = some z := fun hz => (HB.out.cell (World.block_lt_of_cell? w _ hz)).trans hz
    replace hx0 := hal hx0
    replace hx1 := hal hx1
    replace hx2 := hal hx2
    clear hal hl2 hi2
    obtain ⟨y, hy⟩ : ∃ y, xs[i] = y := ⟨_, rfl⟩
    rw [hy] at hx0 hx1 hx2 hstep
    clear hy
    obtain ⟨id, dl, q⟩ := y
    simp only at hx0 hx1 hx2 hstep
    have HST := Aside0.mk hstep
    have HLE := Aside0.mk hlen
    clear hstep hlen
    obtain ⟨x, hxq⟩ : ∃ x, overL t (xs.take i) = x := ⟨_, rfl⟩
    rw [hxq] at HST HR HLE
    clear hxq
    go_wp2_with fail
    have bs := blk_alloc BK.out (.cells #[.int .u64 id, .int .i64 dl, .slice A2 q.length c2] 70)
    have bn := blk_new wr (.cells #[.int .u64 id, .int .i64 dl, .slice A2 q.length c2] 70)
    have hba := below_alloc (Below.refl wr.heap.size wr) (.cells #[.int .u64 id, .int .i64 dl, .slice A2 q.length c2] 70)
    have hr2 := Kd.R_below HR.out hba
    have hB2 := below_step HB.out hba
    have hne := Kd.R_ne HR.out BK.out (by decide)
    have hlt := blk_lt BK.out
    generalize wr.heap.size = g2 at *
    generalize wr.alloc (.cells #[.int .u64 id, .int .i64 dl, .slice A2 q.length c2] 70) = W3 at *
    refine (over_calls w.heap.size e g n t (some ad) cs xs.length An cn ns.length id dl A2 q.length c2 _ bs).mono ?_
    rintro r W4 ⟨rfl, hb⟩
    have BK4 := Aside0.mk (blk_below bs hb)
    have BN4 := Aside0.mk (blk_below bn hb)
    have HB4 := Aside0.mk (below_step hB2 hb)
    have HR4 := Aside0.mk (Kd.R_below hr2 hb)
    clear bs bn hba hr2 hB2 hb HR BK HB hne hlt
    have n0 := blk_cell BN4.out 0
    simp only [List.getElem?_toArray, List.getElem?_cons_zero, List.getElem?_cons_succ] at n0
    by_cases hd : dl ≤ t
    ·
     have d0 : decide (dl ≤ t) = true := decide_eq_true hd
     rw [if_pos hd] at HST
     clear hx0 hx1 hx2 hd
     go_wp2_with (first | ((with_reducible refine gate_builtin (b := .append) (xs := #[.tmp 22, .tmp 25]) rfl ?_); at_builtin; refine Kd.R_append (Kd.int .u64) (w0 := w) w.heap.size rfl (.tmp 22) (.tmp 25) 40 26 (.int .u64 0) 8 rfl Tryd.underlying40 info26 rfl (by decide) (by omega) u4 x id [.int .u64 id] (fun _ => True) (fun _ => False) rfl rfl ?aP (fun _ hk => hk.elim) ?aF ?aO ?aB ?aS ?aL ?_; (case aP => exact rfl); (case aB => exact (by repeat (first | (with_reducible first | exact HB4.out | apply below_alloc | apply pw_below_drewN | apply below_drew1) | exact HB4.out))); (case aF => exact (fun _ _ => trivial)); (case aO => exact (by (with_reducible repeat (first | apply Kd.R_alloc | apply Kd.R_drewN | apply Kd.R_drew)); exact HR4.out)); (case aS => exact (below_size (by repeat (first | (with_reducible first | exact HB4.out | apply below_alloc | apply pw_below_drewN | apply below_drew1) | exact HB4.out)))); (case aL => have := HLE.out; omega); intro v5 w5 ho hb hg hat; have BK5 := Aside0.mk (blk_grown (by (with_reducible repeat (first | refine blk_drewN ?_ _ | refine blk_drew ?_ | refine blk_alloc ?_ _)); exact BK4.out) hg (Kd.R_ne HR4.out BK4.out (by decide))); have HB5 := Aside0.mk hb; have HR5 := Aside0.mk ho; clear ho hb hg hat BK4 HB4 HR4 BN4 n0))
     have hj2 := HJ.out
     obtain ⟨k1, rfl⟩ : ∃ k1, gk = k1 + 1 := ⟨gk - 1, by omega⟩
     go_roundg k1
     case measure => omega
     case rel => exact ⟨i + 1, by go_num, ⟨⟨by omega, by omega⟩⟩, ⟨by rw [HST.out]; exact HR5.out⟩, BK5, HB5⟩
    ·
     have d0 : decide (dl ≤ t) = false := decide_eq_false hd
     rw [if_neg hd, List.append_nil] at HST
     clear hx0 hx1 hx2 hd
     have hj2 := HJ.out
     obtain ⟨k1, rfl⟩ : ∃ k1, gk = k1 + 1 := ⟨gk - 1, by omega⟩
     go_wp2_with fail
     go_roundg k1
     case measure => omega
     case rel => exact ⟨i + 1, by go_num, ⟨⟨by omega, by omega⟩⟩, ⟨by rw [HST.out]; exact HR4.out⟩, BK4, HB4⟩
   ·
    have c1 : decide ((i : Int) < (xs.length : Int)) = false := decide_eq_false (by omega)
    obtain rfl : i = xs.length := by omega
    rw [List.take_length] at HR
    obtain ⟨A, c, rfl⟩ := Kd.R_slice HR.out
    have hu := UK.ofc (w0 := w) (w := w) (c := (overL t xs).length) (Kd.Q_of_R HR.out) (Nat.le_refl _) (Below.refl _ _)
    have hnn : A = none → c = 0 := fun h => by
     subst h
     obtain ⟨_, inner, ⟨_, ho⟩, _⟩ := HR.out
     rcases ho with ⟨ho, _⟩ | ⟨g, cap, cur, ho, _⟩
     ·
      injection ho
     ·
      injection ho with h1
      cases h1
    have hlc := (Kd.R_reads' HR.out).2.1
    have hlm := overL_len t xs
    rw [← HF.out] at hu hlc hlm
    have HU := Aside0.mk hu
    have HN := Aside0.mk (And.intro hlc (And.intro hlm hnn))
    clear hu hnn hlc hlm HR
    have ho : overL t xs = expF e g n t xs ns := HF.out.symm
    rw [ho]
    clear ho
    go_wp2_with fail
    refine (clip_calls A _ c HN.out.1 (by have := HN.out.2.1; omega) HN.out.2.2 _).mono ?_
    rintro r W6 ⟨rfl, hw⟩
    obtain rfl : wr = W6 := hw.symm
    clear hw
    go_wp2_with fail
    go_ret
    obtain ⟨c', hq⟩ := HU.out.r
    exact ⟨A, _, rfl, ⟨HU.out.k, c', Kd.Q_lower hq HB0.out.size⟩, HB.out⟩
set_option maxHeartbeats 8000000 in
set_option maxRecDepth 100000 in
theorem FnExactExpired_walk (HV : ValIC) (e g n t : Int) (As : Option Addr) (cs : Nat) (xs : List SeL) (An : Option Addr) (cn : Nat) (ns : List NoL) (w : World) (h1 : Kd.C kSeL w As xs.length xs) (hc1 : xs.length ≤ cs) (h2 : Kd.C kNoL w An ns.length ns) (hc2 : ns.length ≤ cn)
  (hge : 0 ≤ e ∧ e < 18446744073709551616) (hgg : 0 ≤ g ∧ g < 18446744073709551616) (hgn : 0 ≤ n ∧ n < 18446744073709551616) (gx : ∀ x ∈ xs, gSe x) (gn : ∀ x ∈ ns, gNo x) :
  Calls Tryd.prog 5 #[.agg #[.int .u64 e, .int .u64 g, .int .u64 n, .int .i64 t, .slice As xs.length cs, .slice An ns.length cn]] w fun r w' => r = .returned (.bool true) ∧ Below w.heap.size w w' := by
 have SZ := Aside0.mk (fun (W : World) (hW : Below w.heap.size w W) => szState_w e g n t xs ns As cs An cn 1048576 (by decide) (by decide) W (Kd.C_below h1 hW) hc1 (Kd.C_below h2 hW) hc2)
 have H1 := Aside0.mk (And.intro h1 hc1)
 have H2 := Aside0.mk (And.intro h2 hc2)
 have HGE := Aside0.mk (And.intro hge (And.intro hgg hgn))
 have HGX := Aside0.mk (And.intro gx gn)
 clear h1 hc1 h2 hc2 gx gn hge hgg hgn
 go_enter Tryd.func5, Tryd.ntmps5
 go_wp2_with fail
 refine (SZ.out _ (below_alloc (Below.refl w.heap.size w) _)).mono ?_
 rintro r w1 ⟨⟨r0, rfl, hcase⟩, hb⟩
 have HCA := Aside0.mk hcase
 have HB := Aside0.mk (below_step (below_alloc (Below.refl w.heap.size w) _) hb)
 have X := Aside0.mk (blk_below (blk_new w (.cells #[.int .u64 e, .int .u64 g, .int .u64 n, .int .i64 t, (.slice As xs.length cs), (.slice An ns.length cn)] 30)) hb)
 have s1 := hb.size
 simp only [World.size_alloc] at s1
 clear hb SZ hcase
 by_cases hr : r0 < 0
 case pos =>
  have d0 : decide (r0 < 0) = true := decide_eq_true hr
  go_wp2_with fail
  go_ret
  exact ⟨rfl, HB.out⟩
 have d0 : decide (r0 < 0) = false := decide_eq_false hr
 have hw : xs.length + pS xs + ns.length + pN ns ≤ 1048576 := by
  rcases HCA.out with h | ⟨_, a⟩
  ·
   exact absurd h hr
  ·
   omega
 have hsm := smS_of hw HGX.out.1 HGX.out.2
 have hrg := rgS_of HGX.out.1 HGX.out.2
 have hsum : 1 + sumL lnSe (xs.map toSe) + sumL lnNo (ns.map toNo) ≤ 100000000 := by rw [sumSe_of, sumNo_of]; omega
 have hq1 : pS xs ≤ 1048576 := by omega
 have hq2 : pN ns ≤ 1048576 := by omega
 have EQ := Aside0.mk (eqB_of hsm)
 have TS := Aside0.mk (fun (W : World) (hW : Below w.heap.size w W) => toState_ok w e g n t As cs xs An cn ns W hW (Kd.C_below H1.out.1 hW) H1.out.2 (by omega) (smSe_of hq1) (Kd.C_below H2.out.1 hW) H2.out.2 (by omega) (smNo_of hq2))
 have SP := Aside0.mk (fun (Bs : Option Addr) (ds : Nat) (Bn : Option Addr) (dn : Nat) (W : World) (hW : Below w.heap.size w W) (k1 : Kd.C kSe W Bs (xs.map toSe).length (xs.map toSe)) (k2 : (xs.map toSe).length ≤ ds) (k3 : Kd.C kNo W Bn (ns.map toNo).length (ns.map toNo)) (k4 : (ns.map toNo).length ≤ dn) => specExp_ok w e g n t Bs ds (xs.map toSe) Bn dn (ns.map toNo) W hW k1 k2 k3 k4 hsm hrg HGE.out)
 have IM := Aside0.mk (fun (Bs : Option Addr) (ds : Nat) (Bn : Option Addr) (dn : Nat) (W : World) (hW : Below w.heap.size w W) (k1 : Kd.C kSe W Bs (xs.map toSe).length (xs.map toSe)) (k2 : (xs.map toSe).length ≤ ds) (k3 : Kd.C kNo W Bn (ns.map toNo).length (ns.map toNo)) (k4 : (ns.map toNo).length ≤ dn) => impl_Expired_ok HV w e g n t Bs ds (xs.map toSe) Bn dn (ns.map toNo) W hW k1 k2 k3 k4 hsm hrg HGE.out)
 have hlr : (expF e g n t (xs.map toSe) (ns.map toNo)).length ≤ 2097152 := Nat.le_trans (expF_len e g n t _ _) hsm.x
 obtain ⟨X_, hX⟩ : ∃ X, xs.map toSe = X := ⟨_, rfl⟩
 obtain ⟨N_, hN⟩ : ∃ N, ns.map toNo = N := ⟨_, rfl⟩
 simp only [hX, hN] at TS SP IM EQ hsum hlr
 have MK := Aside0.mk (fun (lo hi : Nat) (As : Option Addr) (cs : Nat) (An : Option Addr) (cn : Nat) (W : World) (hB : Below w.heap.size w W) (h : SK w W lo hi As cs X_ An cn N_) => markState_sk 1 w lo hi e g n t As cs X_ An cn N_ W hB h hsum)
 obtain ⟨mm, hmm⟩ : ∃ m, 1 + sumL lnSe X_ + sumL lnNo N_ = m := ⟨_, rfl⟩
 rw [hmm] at MK
 obtain ⟨r, hrr⟩ : ∃ r, expF e g n t X_ N_ = r := ⟨_, rfl⟩
 rw [hrr] at hlr
 simp only [hrr] at SP IM
 clear hq1 hq2 hw hsm hrg hsum HCA hr hX hN hmm hrr HGE HGX
 have z1_l := blk_lt X.out
 have z1_0 := blk_cell X.out 0
 have z1_1 := blk_cell X.out 1
 have z1_2 := blk_cell X.out 2
 have z1_3 := blk_cell X.out 3
 have z1_4 := blk_cell X.out 4
 have z1_5 := blk_cell X.out 5
 simp only [List.getElem?_toArray, List.getElem?_cons_zero, List.getElem?_cons_succ] at z1_0 z1_1 z1_2 z1_3 z1_4 z1_5
 go_wp2_with fail
 refine (TS.out _ HB.out).mono ?_
 rintro e w2 ⟨Ts, Tds, Tn, Tdn, rfl, hd, hb⟩
 replace X := Aside0.mk (blk_below X.out hb)
 replace HB := Aside0.mk (below_step HB.out hb)
 have s2 := hb.size
 clear hb
 clear z1_l z1_0 z1_1 z1_2 z1_3 z1_4 z1_5
 (try simp only [World.size_alloc] at hd)
 have DT := Aside0.mk hd
 clear hd
 go_wp2_with fail
 refine (SP.out Ts Tds Tn Tdn _ HB.out (DT.out).reads.1.1 (DT.out).reads.1.2 (DT.out).reads.2.1 (DT.out).reads.2.2).mono ?_
 rintro e w3 ⟨W0, W0c, rfl, hd, hb⟩
 clear DT
 replace X := Aside0.mk (blk_below X.out hb)
 replace HB := Aside0.mk (below_step HB.out hb)
 have s3 := hb.size
 clear hb
 (try simp only [World.size_alloc] at hd)
 have DW := Aside0.mk hd
 clear hd
 have z2_l := blk_lt X.out
 have z2_0 := blk_cell X.out 0
 have z2_1 := blk_cell X.out 1
 have z2_2 := blk_cell X.out 2
 have z2_3 := blk_cell X.out 3
 have z2_4 := blk_cell X.out 4
 have z2_5 := blk_cell X.out 5
 simp only [List.getElem?_toArray, List.getElem?_cons_zero, List.getElem?_cons_succ] at z2_0 z2_1 z2_2 z2_3 z2_4 z2_5
 go_wp2_with fail
 refine (TS.out _ HB.out).mono ?_
 rintro e w4 ⟨X0s, X0ds, X0n, X0dn, rfl, hd, hb⟩
 replace X := Aside0.mk (blk_below X.out hb)
 replace DW := Aside0.mk (DW.out.below hb)
 replace HB := Aside0.mk (below_step HB.out hb)
 have s4 := hb.size
 clear hb
 clear z2_l z2_0 z2_1 z2_2 z2_3 z2_4 z2_5
 (try simp only [World.size_alloc] at hd)
 have DX := Aside0.mk hd
 clear hd
 go_wp2_with fail
 have hba := below_alloc (Below.refl w4.heap.size w4) (.cells #[.int .u64 e, .int .u64 g, .int .u64 n, .int .i64 t, (.slice X0s X_.length X0ds), (.slice X0n N_.length X0dn)] 36)
 have NB := Aside0.mk (blk_new w4 (.cells #[.int .u64 e, .int .u64 g, .int .u64 n, .int .i64 t, (.slice X0s X_.length X0ds), (.slice X0n N_.length X0dn)] 36))
 refine (IM.out X0s X0ds X0n X0dn _ (below_step HB.out hba) (DX.out.below hba).reads.1.1 (DX.out.below hba).reads.1.2 (DX.out.below hba).reads.2.1 (DX.out.below hba).reads.2.2).mono ?_
 rintro e w5 ⟨G0, G0c, rfl, hd, hb⟩
 replace X := Aside0.mk (blk_below (blk_below X.out hba) hb)
 replace DW := Aside0.mk ((DW.out.below hba).below hb)
 replace DX := Aside0.mk ((DX.out.below hba).below hb)
 replace HB := Aside0.mk (below_step (below_step HB.out hba) hb)
 have Z := Aside0.mk (blk_below NB.out hb)
 clear NB
 have s5 := hb.size
 simp only [World.size_alloc] at s5
 clear hb hba
 (try simp only [World.size_alloc] at hd)
 have DG := Aside0.mk hd
 clear hd
 go_wp2_with fail
 refine (eqUint64S_uk 3000000 w w _ _ _ _ G0 G0c r W0 W0c _ DG.out DW.out (by omega) (by omega)).mono ?_
 rintro e w6 ⟨rfl, hb⟩
 replace X := Aside0.mk (blk_below X.out hb)
 replace Z := Aside0.mk (blk_below Z.out hb)
 replace DW := Aside0.mk (DW.out.below hb)
 replace DX := Aside0.mk (DX.out.below hb)
 replace DG := Aside0.mk (DG.out.below hb)
 replace HB := Aside0.mk (below_step HB.out hb)
 have s6 := hb.size
 clear hb
 have z3_l := blk_lt X.out
 have z3_0 := blk_cell X.out 0
 have z3_1 := blk_cell X.out 1
 have z3_2 := blk_cell X.out 2
 have z3_3 := blk_cell X.out 3
 have z3_4 := blk_cell X.out 4
 have z3_5 := blk_cell X.out 5
 have z4_l := blk_lt Z.out
 have z4_0 := blk_cell Z.out 0
 have z4_1 := blk_cell Z.out 1
 have z4_2 := blk_cell Z.out 2
 have z4_3 := blk_cell Z.out 3
 have z4_4 := blk_cell Z.out 4
 have z4_5 := blk_cell Z.out 5
 simp only [List.getElem?_toArray, List.getElem?_cons_zero, List.getElem?_cons_succ] at z3_0 z3_1 z3_2 z3_3 z3_4 z3_5 z4_0 z4_1 z4_2 z4_3 z4_4 z4_5
 go_wp2_with fail
 go_region_held3 (fun w' => w'.cell? ⟨w.heap.size, 0, none⟩ = some (.int .u64 e) ∧ w'.cell? ⟨w.heap.size, 1, none⟩ = some (.int .u64 g) ∧ w'.cell? ⟨w.heap.size, 2, none⟩ = some (.int .u64 n) ∧ w'.cell? ⟨w.heap.size, 3, none⟩ = some (.int .i64 t) ∧ w'.cell? ⟨w.heap.size, 4, none⟩ = some ((.slice As xs.length cs)) ∧ w'.cell? ⟨w.heap.size, 5, none⟩ = some ((.slice An ns.length cn)) ∧ w'.cell? ⟨w4.heap.size, 0, none⟩ = some (.int .u64 e) ∧ w'.cell? ⟨w4.heap.size, 1, none⟩ = some (.int .u64 g) ∧ w'.cell? ⟨w4.heap.size, 2, none⟩ = some (.int .u64 n) ∧ w'.cell? ⟨w4.heap.size, 3, none⟩ = some (.int .i64 t) ∧ w'.cell? ⟨w4.heap.size, 4, none⟩ = some ((.slice X0s X_.length X0ds)) ∧ w'.cell? ⟨w4.heap.size, 5, none⟩ = some ((.slice X0n N_.length X0dn))) (first | exact ⟨z3_0, z3_1, z3_2, z3_3, z3_4, z3_5, z4_0, z4_1, z4_2, z4_3, z4_4, z4_5⟩ | exact ⟨z5_0, z5_1, z5_2, z5_3, z5_4, z5_5, z6_0, z6_1, z6_2, z6_3, z6_4, z6_5⟩ | exact ⟨z7_0, z7_1, z7_2, z7_3, z7_4, z7_5, z8_0, z8_1, z8_2, z8_3, z8_4, z8_5⟩) (first | (go_at_call 15; refine (TS.out _ (by with_reducible repeat (first | exact HB.out | apply below_drew1))).mono ?_; rintro e w7 ⟨Vs, Vds, Vn, Vdn, rfl, hd, hb0⟩; have hb : Below w6.heap.size w6 w7 := (by first | exact hb0 | exact (below_drew1 (Below.refl w6.heap.size w6)).trans hb0); clear hb0; replace X := Aside0.mk (blk_below X.out hb); replace Z := Aside0.mk (blk_below Z.out hb); replace DW := Aside0.mk (DW.out.below hb); replace DX := Aside0.mk (DX.out.below hb); replace DG := Aside0.mk (DG.out.below hb); replace HB := Aside0.mk (below_step HB.out hb); have s7 := hb.size; clear hb; (try simp only [World.size_alloc] at hd); have DV := Aside0.mk hd; clear hd; clear z3_l z3_0 z3_1 z3_2 z3_3 z3_4 z3_5 z4_l z4_0 z4_1 z4_2 z4_3 z4_4 z4_5; have z5_l := blk_lt X.out; have z5_0 := blk_cell X.out 0; have z5_1 := blk_cell X.out 1; have z5_2 := blk_cell X.out 2; have z5_3 := blk_cell X.out 3; have z5_4 := blk_cell X.out 4; have z5_5 := blk_cell X.out 5; have z6_l := blk_lt Z.out; have z6_0 := blk_cell Z.out 0; have z6_1 := blk_cell Z.out 1; have z6_2 := blk_cell Z.out 2; have z6_3 := blk_cell Z.out 3; have z6_4 := blk_cell Z.out 4; have z6_5 := blk_cell Z.out 5; simp only [List.getElem?_toArray, List.getElem?_cons_zero, List.getElem?_cons_succ] at z5_0 z5_1 z5_2 z5_3 z5_4 z5_5 z6_0 z6_1 z6_2 z6_3 z6_4 z6_5) | (go_at_call 17; refine (eqState_same e g n t X_ N_ X0s X0ds Vs Vds X0n X0dn Vn Vdn _ (by repeat (first | exact (DX.out).reads.1.1 | refine Kd.C_drew ?_)) DX.out.reads.1.2 (by repeat (first | exact (DV.out).reads.1.1 | refine Kd.C_drew ?_)) DV.out.reads.1.2 EQ.out.1 (by repeat (first | exact (DX.out).reads.2.1 | refine Kd.C_drew ?_)) DX.out.reads.2.2 (by repeat (first | exact (DV.out).reads.2.1 | refine Kd.C_drew ?_)) DV.out.reads.2.2 EQ.out.2).mono ?_; rintro e w8 ⟨rfl, hb0⟩; have hb : Below w7.heap.size w7 w8 := (by first | exact hb0 | exact (below_drew1 (Below.refl w7.heap.size w7)).trans hb0); clear hb0; clear DV; replace X := Aside0.mk (blk_below X.out hb); replace Z := Aside0.mk (blk_below Z.out hb); replace DW := Aside0.mk (DW.out.below hb); replace DX := Aside0.mk (DX.out.below hb); replace DG := Aside0.mk (DG.out.below hb); replace HB := Aside0.mk (below_step HB.out hb); have s8 := hb.size; clear hb; clear z5_l z5_0 z5_1 z5_2 z5_3 z5_4 z5_5 z6_l z6_0 z6_1 z6_2 z6_3 z6_4 z6_5; have z7_l := blk_lt X.out; have z7_0 := blk_cell X.out 0; have z7_1 := blk_cell X.out 1; have z7_2 := blk_cell X.out 2; have z7_3 := blk_cell X.out 3; have z7_4 := blk_cell X.out 4; have z7_5 := blk_cell X.out 5; have z8_l := blk_lt Z.out; have z8_0 := blk_cell Z.out 0; have z8_1 := blk_cell Z.out 1; have z8_2 := blk_cell Z.out 2; have z8_3 := blk_cell Z.out 3; have z8_4 := blk_cell Z.out 4; have z8_5 := blk_cell Z.out 5; simp only [List.getElem?_toArray, List.getElem?_cons_zero, List.getElem?_cons_succ] at z7_0 z7_1 z7_2 z7_3 z7_4 z7_5 z8_0 z8_1 z8_2 z8_3 z8_4 z8_5))
 clear z7_l z7_0 z7_1 z7_2 z7_3 z7_4 z7_5 z8_l z8_0 z8_1 z8_2 z8_3 z8_4 z8_5
 have b4 := blk_lt Z.out
 have b7 := blk_lt X.out
 have z9_l := blk_lt Z.out
 have z9_0 := blk_cell Z.out 0
 have z9_1 := blk_cell Z.out 1
 have z9_2 := blk_cell Z.out 2
 have z9_3 := blk_cell Z.out 3
 have z9_4 := blk_cell Z.out 4
 have z9_5 := blk_cell Z.out 5
 simp only [List.getElem?_toArray, List.getElem?_cons_zero, List.getElem?_cons_succ] at z9_0 z9_1 z9_2 z9_3 z9_4 z9_5
 go_wp2_with fail
 refine (MK.out _ _ X0s X0ds X0n X0dn _ HB.out DX.out).mono ?_
 rintro e w9 ⟨rfl, hd, hb, hk⟩
 replace X := Aside0.mk (blk_kept X.out hk (by intro h; omega))
 replace Z := Aside0.mk (blk_kept Z.out hk (by intro h; omega))
 replace DW := Aside0.mk (DW.out.kept hk (by intro k h1 h2 h3; omega))
 replace DG := Aside0.mk (DG.out.kept hk (by intro k h1 h2 h3; omega))
 replace HB := Aside0.mk hb
 have s9 := hk.1
 replace DX := Aside0.mk hd
 clear hb hk hd
 clear z9_l z9_0 z9_1 z9_2 z9_3 z9_4 z9_5
 have hneg : decide ((mm : Int) < 0) = false := decide_eq_false (by omega)
 clear DX Z
 go_wp2_with fail
 refine (eqUint64S_uk 3000000 w w _ _ _ _ G0 G0c r W0 W0c _ DG.out DW.out (by omega) (by omega)).mono ?_
 rintro e w10 ⟨rfl, hb⟩
 replace X := Aside0.mk (blk_below X.out hb)
 replace DW := Aside0.mk (DW.out.below hb)
 replace DG := Aside0.mk (DG.out.below hb)
 replace HB := Aside0.mk (below_step HB.out hb)
 have s10 := hb.size
 clear hb
 go_wp2_with fail
 refine (markUint64S_uk 1 w _ _ G0 G0c r _ HB.out DG.out (by omega) (by omega)).mono ?_
 rintro e w11 ⟨rfl, hd, hb, hk⟩
 replace X := Aside0.mk (blk_kept X.out hk (by intro h; omega))
 replace DW := Aside0.mk (DW.out.kept hk (by intro k h1 h2 h3; omega))
 replace HB := Aside0.mk hb
 have s11 := hk.1
 replace DG := Aside0.mk hd
 clear hb hk hd
 generalize hm3 : 1 + r.length = m3
 go_wp2_with fail
 refine (heldUint64S_uk 3000000 1 r.length w _ _ G0 G0c _ DG.out (by omega) (by omega) (by omega)).mono ?_
 rintro e w12 ⟨rfl, hb⟩
 replace X := Aside0.mk (blk_below X.out hb)
 replace DW := Aside0.mk (DW.out.below hb)
 replace DG := Aside0.mk (DG.out.below hb)
 replace HB := Aside0.mk (below_step HB.out hb)
 have s12 := hb.size
 clear hb
 rw [hm3]
 have hneg3 : decide ((m3 : Int) < 0) = false := decide_eq_false (by omega)
 have z10_l := blk_lt X.out
 have z10_0 := blk_cell X.out 0
 have z10_1 := blk_cell X.out 1
 have z10_2 := blk_cell X.out 2
 have z10_3 := blk_cell X.out 3
 have z10_4 := blk_cell X.out 4
 have z10_5 := blk_cell X.out 5
 simp only [List.getElem?_toArray, List.getElem?_cons_zero, List.getElem?_cons_succ] at z10_0 z10_1 z10_2 z10_3 z10_4 z10_5
 go_wp2_with fail
 refine (TS.out _ HB.out).mono ?_
 rintro e w13 ⟨Ts, Tds, Tn, Tdn, rfl, hd, hb⟩
 replace X := Aside0.mk (blk_below X.out hb)
 replace DW := Aside0.mk (DW.out.below hb)
 replace DG := Aside0.mk (DG.out.below hb)
 replace HB := Aside0.mk (below_step HB.out hb)
 have s13 := hb.size
 clear hb
 clear z10_l z10_0 z10_1 z10_2 z10_3 z10_4 z10_5
 (try simp only [World.size_alloc] at hd)
 have DT := Aside0.mk hd
 clear hd
 go_wp2_with fail
 refine (IM.out Ts Tds Tn Tdn _ HB.out (DT.out).reads.1.1 (DT.out).reads.1.2 (DT.out).reads.2.1 (DT.out).reads.2.2).mono ?_
 rintro e w14 ⟨H0, H0c, rfl, hd, hb⟩
 clear DT
 replace X := Aside0.mk (blk_below X.out hb)
 replace DW := Aside0.mk (DW.out.below hb)
 replace DG := Aside0.mk (DG.out.below hb)
 replace HB := Aside0.mk (below_step HB.out hb)
 have s14 := hb.size
 clear hb
 (try simp only [World.size_alloc] at hd)
 have DH := Aside0.mk hd
 clear hd
 go_wp2_with fail
 refine (eqUint64S_uk 3000000 w w _ _ _ _ H0 H0c r W0 W0c _ DH.out DW.out (by omega) (by omega)).mono ?_
 rintro e w15 ⟨rfl, hb⟩
 replace X := Aside0.mk (blk_below X.out hb)
 replace DW := Aside0.mk (DW.out.below hb)
 replace DG := Aside0.mk (DG.out.below hb)
 replace DH := Aside0.mk (DH.out.below hb)
 replace HB := Aside0.mk (below_step HB.out hb)
 have s15 := hb.size
 clear hb
 go_wp2_with fail
 refine (heldUint64S_uk 3000000 1 r.length w _ _ G0 G0c _ DG.out (by omega) (by omega) (by omega)).mono ?_
 rintro e w16 ⟨rfl, hb⟩
 replace X := Aside0.mk (blk_below X.out hb)
 replace DW := Aside0.mk (DW.out.below hb)
 replace DG := Aside0.mk (DG.out.below hb)
 replace DH := Aside0.mk (DH.out.below hb)
 replace HB := Aside0.mk (below_step HB.out hb)
 have s16 := hb.size
 clear hb
 rw [hm3]
 go_wp2_with fail
 go_ret
 exact ⟨rfl, HB.out⟩
theorem FnExactExpired_walk0 (e g n t : Int) (As : Option Addr) (cs : Nat) (xs : List SeL) (An : Option Addr) (cn : Nat) (ns : List NoL) (w : World) (h1 : Kd.C kSeL w As xs.length xs) (hc1 : xs.length ≤ cs) (h2 : Kd.C kNoL w An ns.length ns) (hc2 : ns.length ≤ cn) (gx : ∀ x ∈ xs, gSe x) (gn : ∀ x ∈ ns, gNo x) (we : (Lit.int .u64 e).wf = true) (wg : (Lit.int .u64 g).wf = true) (wn : (Lit.int .u64 n).wf = true) :
  Calls Tryd.prog 5 #[.agg #[.int .u64 e, .int .u64 g, .int .u64 n, .int .i64 t, .slice As xs.length cs, .slice An ns.length cn]] w fun r w' => r = .returned (.bool true) ∧ Below w.heap.size w w' :=
 FnExactExpired_walk valIC e g n t As cs xs An cn ns w h1 hc1 h2 hc2 (u64_range we) (u64_range wg) (u64_range wn) gx gn
end Go.Proofs.YtbgbocdohadhoaaDoor.Print
namespace Go.Proofs.YtbgbocdohadhoaaDoor.fnExactExpired
open Go.ChangeShapes Go.WideShapes Go.ChangeAt Go.RowKit Print
open Go.ChangeMaps (open_string shut_string)
open Go.Proofs.YtbgbocdohadhoaaDoorW.PrintWords Go.Proofs.YtbgbocdohadhoaaDoorW.PrintLast Go.Proofs.YtbgbocdohadhoaaDoorW.PrintMore
set_option linter.unusedVariables false
theorem own : ownKnob Tryd.prog.godebug = none := by kernel_rfl
theorem laidOut : laidOutB Tryd.prog = true := by kernel_rfl
set_option maxRecDepth 100000 in
theorem lifted (os : Os) (started : os.Started) (H : Type) (enc : TypeId × Value → H) :
  ReturnsInHanded {} Tryd.checked os 5 .any (fun w args => (Rows.fnExactExpiredSpec.pre enc Tryd.prog Tryd.f5 Rows.fnExactExpiredRow.domain false w args ∧ laidMetH Tryd.prog Rows.fnExactExpiredRow.laid w) ∧ sizedMet enc Tryd.prog Tryd.f5 (OpenSpec.ofChange Rows.fnExactExpiredSpec) false w args) (Rows.fnExactExpiredSpec.post enc Tryd.prog Tryd.f5 false true false false) := by
 refine returnsInHanded_of_change_and (C := Tryd.checked) (X := fun w _ => laidMetH Tryd.prog Rows.fnExactExpiredRow.laid w) (fun _ _ _ hh h => h.of_heap hh) own started (by kernel_rfl) Tryd.func5
  (ChangeSpec.witness_shaped (enc := enc) (C := Tryd.checked) (os := os) (X := fun w _ => laidMetH Tryd.prog Rows.fnExactExpiredRow.laid w) false (World.laidAll Tryd.prog os Rows.fnExactExpiredRow.laid) #[.agg #[.int .u64 0, .int .u64 0, .int .u64 0, .int .i64 0, .slice none 0 0, .slice none 0 0]] 8 (World.laidAll_os _ _ _)
   (World.shaped_of_ZipB (by kernel_rfl) (by kernel_rfl)) (by kernel_rfl) (by kernel_rfl) (by kernel_rfl)
   (by rw [MakeChecks.laidMetH_plain _ _ _ (by kernel_rfl)]; exact laidMet_laidAll _ (by kernel_rfl) (by kernel_rfl))) ?_
 intro W base args ds gs before hval0 hW hcnd hsz0 hL _
 have hsz : (DataW.weightsEach Tryd.prog (Tryd.f5.params.toList ++ Rows.fnExactExpiredSpec.plain.varTypes Tryd.prog) (ds ++ gs)).all (· ≤ reachBytes) = true := hsz0
 have hval : ∀ (j : Nat) t v, Tryd.f5.params[j]? = some t → args[j]? = some v → Value.okWide Tryd.prog W .any base t v := hval0
 have hW' := hW
 obtain ⟨p, q, hA0, hV, rfl, hfz, hnd⟩ := hW
 have hA : DataW.TrodAll enc Tryd.prog W 0 (fun _ => true) true Tryd.f5.params.toList args.toList ds p := hA0
 rw [Tryd.params5] at hA hval hsz
 obtain ⟨v0, vs0, d0, ds0, p0, q0, hargs, rfl, rfl, h0, r0⟩ := trodAll_cons hA
 obtain ⟨rfl, rfl, rfl⟩ := trodAll_nil r0
 obtain rfl : args = #[v0] := by cases args; simp_all
 obtain ⟨rfl, rfl⟩ := trodVars_none hV
 have k0 := h0
 have lt0 : ∀ x ∈ p0, x.block < W.heap.size := by obtain ⟨m, hm⟩ := k0; exact DataW.trod_lt m _ _ _ hm
 obtain ⟨e0, g0, n0, t0, As0, cs0, xs0, An0, cn0, ns0, rfl, hs0, hcs0, hn0, hcn0, gx0, gn0, we0, wg0, wn0, wt0⟩ := state_open hsz (j := 0) rfl rfl (hval 0 30 v0 rfl rfl) h0
 clear hA0 hval0 hsz0 hsz
 refine (FnExactExpired_walk0 e0 g0 n0 t0 As0 cs0 xs0 An0 cn0 ns0 W hs0 hcs0 hn0 hcn0 gx0 gn0 we0 wg0 wn0).mono fun e W' ⟨he, bel⟩ => ?_
 subst he
 exact ⟨_, rfl, _, _, _, [], _, [], hW', trodAll_mk1 (shut_bool Tryd.underlying4 _), (trodAll_cons_mk (Below.trod laidOut (by kernel_rfl) (of_decide_eq_true (by kernel_rfl)) k0 bel lt0) trodAll_mk0), rfl, bel.frame _, fun h => by cases h⟩
theorem over : Rows.fnExactExpiredRow.holds Tryd.pinned (OpenSpec.ofChange Rows.fnExactExpiredSpec) :=
 OpenClaim.holds_of_wide 5 Tryd.f5 rfl rfl rfl rfl rfl rfl rfl ⟨rfl, rfl, rfl, rfl, rfl⟩ rfl rfl rfl rfl rfl (by kernel_rfl) Tryd.func5 (by kernel_rfl)
  (of_decide_eq_true (by kernel_rfl)) (by unfold Func.isWrapper; first | (rw [if_pos (by decide +kernel)]; kernel_rfl) | (rw [if_neg (by decide +kernel)]; exact ⟨rfl, rfl⟩))
  (fun os started H enc _ => lifted os started H enc)
theorem card : Rows.FnExactExpiredCardSaid :=
 Claim7.holds_tied_plain_at .later [] [.data, .pinned] true (true, "315b13090ccdb0a690506cc700d9df368a48c098d999642fff85f69f6bfec662") true over (fun _ h => by cases h) (by kernel_rfl) (fun _ h => by cases h) fnExactExpired_row_tie rfl ⟨rfl, rfl⟩ (by kernel_rfl) rfl
  (fun f fn hf hfn => by
   obtain rfl : f = 5 := Option.some.inj ((show Tryd.prog.funcNamed "loop.example/s02132/laws.FnExactExpired" = some 5 by kernel_rfl).symm.trans hf) |>.symm
   obtain rfl : fn = Tryd.f5 := (Option.some.inj (Tryd.func5.symm.trans hfn)).symm
   exact ⟨by kernel_rfl, fun j t ht => by
    rw [Tryd.params5] at ht
    have hm : t ∈ [30] := by simpa using Array.mem_of_getElem? ht
    have hall : ([30].all fun u => !Tryd.prog.wantsStandIn u) = true := by kernel_rfl
    exact (show Tryd.prog.wantsStandIn t = false by simpa using List.all_eq_true.1 hall t hm)⟩)
  (by kernel_rfl)
end Go.Proofs.YtbgbocdohadhoaaDoor.fnExactExpired
namespace Go.Proofs.YtbgbocdohadhoaaDoor
theorem fnExactExpired_holds : Rows.FnExactExpiredCardSaid := fnExactExpired.card
end Go.Proofs.YtbgbocdohadhoaaDoor
