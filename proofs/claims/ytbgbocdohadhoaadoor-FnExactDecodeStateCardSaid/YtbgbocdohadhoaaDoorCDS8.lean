/- Texts of this session, joined by its own program. -/
import Derived.Deep.RegionLaw
import Derived.Deep.CutBlock
import Derived.Shelf.GgClosure.Gives
import Derived.Test.YtbgbocdohadhoaaDoorProg
import Derived.Ground.SlbSplitProg
import Derived.Ground.SlgfProg
import Derived.Shelf.SlGeneric
import Derived.Shelf.SlLaysP
import Derived.Shelf.SlLaysH
import Derived.Test.YtbgbocdohadhoaaDoorCDS7
namespace Go.Proofs.YtbgbocdohadhoaaDoor.Print
open Go Go.RowKit Go.Proofs.YtbgbocdohadhoaaDoorW.PrintWords Go.Proofs.YtbgbocdohadhoaaDoorW.PrintLast Go.Proofs.YtbgbocdohadhoaaDoorW.PrintMore
set_option linter.unusedVariables false
set_option linter.unusedSimpArgs false
set_option maxHeartbeats 8000000 in
set_option maxRecDepth 100000 in
theorem impl_DecodeState_at (HV : ValIC) (A : Option Addr) (c : Nat) (l : List Int) (w : World) (h : Kd.C (Kd.int .u8) w A l.length l) (hc : l.length ≤ c) (hl : l.length ≤ 2097152) (hbr : ∀ x ∈ l, 0 ≤ x ∧ x < 256) :
  Calls Tryd.prog 29 #[.slice A l.length c] w fun r w' => DecAns w w l r w' := by
 have H := Aside0.mk (And.intro h hc)
 have hy : By l := ⟨hl, hbr⟩
 obtain ⟨y1, q1⟩ : ∃ y, numL 10 0 0 l false = y := ⟨_, rfl⟩
 obtain ⟨e, l1, b1⟩ := y1
 have hy1 : By l1 := by
  have h := By.of (Sb.num) false hy
  rw [q1] at h
  exact h
 obtain ⟨y2, q2⟩ : ∃ y, numL 10 0 0 l1 b1 = y := ⟨_, rfl⟩
 obtain ⟨g, l2, b2⟩ := y2
 have hy2 : By l2 := by
  have h := By.of (Sb.num) b1 hy1
  rw [q2] at h
  exact h
 obtain ⟨y3, q3⟩ : ∃ y, numL 10 0 0 l2 b2 = y := ⟨_, rfl⟩
 obtain ⟨n, l3, b3⟩ := y3
 have hy3 : By l3 := by
  have h := By.of (Sb.num) b2 hy2
  rw [q3] at h
  exact h
 obtain ⟨y4, q4⟩ : ∃ y, cntL l3 b3 = y := ⟨_, rfl⟩
 obtain ⟨k, l4, b4⟩ := y4
 have hy4 : By l4 := by
  have h := By.of (Sb.cntn) b3 hy3
  rw [q4] at h
  exact h
 obtain ⟨y5, q5⟩ : ∃ y, idsL k.toNat l4 b4 = y := ⟨_, rfl⟩
 obtain ⟨I, l5, b5⟩ := y5
 have hy5 : By l5 := by
  have h := By.of (Sb.ids k.toNat) b4 hy4
  rw [q5] at h
  exact h
 obtain ⟨y6, q6⟩ : ∃ y, cntL l5 b5 = y := ⟨_, rfl⟩
 obtain ⟨j, l6, b6⟩ := y6
 have hy6 : By l6 := by
  have h := By.of (Sb.cntn) b5 hy5
  rw [q6] at h
  exact h
 obtain ⟨y7, q7⟩ : ∃ y, nodsL j.toNat l6 b6 = y := ⟨_, rfl⟩
 obtain ⟨N, l7, b7⟩ := y7
 have hst : stL l false = ((e, g, n, I, N), l7, b7) := by simp only [stL, bindL, cntB, pureL, q1, q2, q3, q4, q5, q6, q7]
 have hrd := st_dec hbr hst
 have HD := Aside0.mk (show decA l = if b7 = true then corA else if okB l (e, g, n, I, N) = true then ((e, g, n, I, N), 0) else corA by unfold decA; rw [hrd]; cases b7 <;> rfl)
 have HOK := Aside0.mk (show b7 = false → OkS e g n (I.map seI) N from fun hb => rdSt_ok hbr hl (y := (e, g, n, I, N)) (r := l7) (by rw [hrd, if_neg (by rw [hb]; decide)]))
 have T1 := Aside0.mk (fun (W : World) (h : UP w W (w.heap.size + 1) l false) => unp_number w W _ l false h)
 have T2 := Aside0.mk (fun (W : World) (h : UP w W (w.heap.size + 1) l1 b1) => unp_number w W _ l1 b1 h)
 have T3 := Aside0.mk (fun (W : World) (h : UP w W (w.heap.size + 1) l2 b2) => unp_number w W _ l2 b2 h)
 have T4 := Aside0.mk (fun (W : World) (h : UP w W (w.heap.size + 1) l3 b3) => unp_count w W _ l3 b3 h hy3.n)
 have T6 := Aside0.mk (fun (W : World) (h : UP w W (w.heap.size + 1) l5 b5) => unp_count w W _ l5 b5 h hy5.n)
 rw [q1] at T1
 rw [q2] at T2
 rw [q3] at T3
 rw [q4] at T4
 rw [q6] at T6
 simp only at T1 T2 T3 T4 T6
 have r4 := cntL_range l3 b3
 have r6 := cntL_range l5 b5
 rw [q4] at r4
 rw [q6] at r6
 simp only at r4 r6
 have HR4 := Aside0.mk (show 0 ≤ k ∧ k ≤ 2097152 by have := hy4.n; omega)
 have HR6 := Aside0.mk (show 0 ≤ j ∧ j ≤ 2097152 by have := hy6.n; omega)
 have HY6 := Aside0.mk hy6
 have Q5 := Aside0.mk q5
 have Q7 := Aside0.mk q7
 clear h hc hl hbr hy hy1 hy2 hy3 hy4 hy5 hy6 q1 q2 q3 q4 q5 q6 q7 hst hrd r4 r6
 go_enter Tryd.func29, Tryd.ntmps29
 go_upto_region 2 with (fail)
 have bz := blk_alloc (blk_new w (.cells #[.int .u64 0, .int .u64 0, .int .u64 0, .int .i64 0, .slice none 0 0, .slice none 0 0] 36)) (.cells #[.slice A l.length c, .bool false] 103)
 have bu := blk_new (w.alloc (.cells #[.int .u64 0, .int .u64 0, .int .u64 0, .int .i64 0, .slice none 0 0, .slice none 0 0] 36)) (.cells #[.slice A l.length c, .bool false] 103)
 have hB := below_alloc (below_alloc (Below.refl w.heap.size w) (.cells #[.int .u64 0, .int .u64 0, .int .u64 0, .int .i64 0, .slice none 0 0, .slice none 0 0] 36)) (.cells #[.slice A l.length c, .bool false] 103)
 simp only [World.size_alloc] at bu
 generalize (w.alloc (.cells #[.int .u64 0, .int .u64 0, .int .u64 0, .int .i64 0, .slice none 0 0, .slice none 0 0] 36)).alloc (.cells #[.slice A l.length c, .bool false] 103) = W0 at *
 have hu0 : UP w W0 (w.heap.size + 1) l false := ⟨⟨A, c, bu, H.out.2, H.out.1⟩, hB, Nat.le_succ _⟩
 clear bu hB
 go_wp2_with fail
 refine (T1.out _ hu0).mono ?_
 rintro r w1 ⟨rfl, hu1, hk1⟩
 go_wp2_with fail
 refine (T2.out _ hu1).mono ?_
 rintro r w2 ⟨rfl, hu2, hk2⟩
 go_wp2_with fail
 refine (T3.out _ hu2).mono ?_
 rintro r w3 ⟨rfl, hu3, hk3⟩
 go_wp2_with fail
 have bx := blk_new w3 (.cells #[.int .u64 e, .int .u64 g, .int .u64 n, .int .i64 0, .slice none 0 0, .slice none 0 0] 36)
 have hb4 := below_alloc (Below.refl w3.heap.size w3) (.cells #[.int .u64 e, .int .u64 g, .int .u64 n, .int .i64 0, .slice none 0 0, .slice none 0 0] 36)
 have hg3 := blk_lt bz
 have hu4 := hu3.below hb4
 have hlt : w.heap.size + 1 < w3.heap.size := UP.lt hu3
 have bz4 := blk_alloc (blk_kept (blk_kept (blk_kept bz hk1 (fun h => by omega)) hk2 (fun h => by omega)) hk3 (fun h => by omega)) (.cells #[.int .u64 e, .int .u64 g, .int .u64 n, .int .i64 0, .slice none 0 0, .slice none 0 0] 36)
 obtain ⟨p, hp⟩ : ∃ p, w3.heap.size = p := ⟨_, rfl⟩
 generalize w3.alloc (.cells #[.int .u64 e, .int .u64 g, .int .u64 n, .int .i64 0, .slice none 0 0, .slice none 0 0] 36) = W4 at *
 rw [hp] at bx hlt ⊢
 refine (T4.out _ hu4).mono ?_
 rintro r w5 ⟨rfl, hu5, hk5⟩
 have bx5 := blk_kept bx hk5 (fun h => by omega)
 have BZ := Aside0.mk (blk_kept bz4 hk5 (fun h => by omega))
 have PP := Aside0.mk (And.intro hlt (blk_lt bx5))
 clear hk1 hk2 hk3 hk5 hb4 hg3 hu0 hu1 hu2 hu3 hu4 bz bz4 bx hp hlt T1 T2 T3 T4
 have c40 := HR4.out.1
 go_wp2_with fail
 go_loopg [19] (k.toNat + 1) (fun kq v19 w' => ∃ (i : Nat) (pre li : List Int) (bi : Bool) (B : Option Addr) (d : Nat), v19 = .int .i64 (i : Int) ∧ Aside0 (kq + i = k.toNat + 1 ∧ i ≤ k.toNat ∧ pre.length = i) ∧ Aside0 (idsL k.toNat l4 b4 = (pre ++ (idsL (k.toNat - i) li bi).1, (idsL (k.toNat - i) li bi).2)) ∧ Aside0 (UP w w' (w.heap.size + 1) li bi) ∧ Aside0 (w'.heap[p]? = some (.cells #[.int .u64 e, .int .u64 g, .int .u64 n, .int .i64 0, .slice B pre.length d, .slice none 0 0] 36 (0, 0))) ∧ Aside0 (Kd.S aSe 70 w' w.heap.size (fun q => w5.heap.size ≤ q) (.slice B pre.length d) (pre.map seI)) ∧ Aside0 (Kept w5 w' (fun q => q = w.heap.size + 1 ∨ q = p)))
 case atStart => exact ⟨0, [], l4, b4, none, 0, rfl, ⟨⟨by omega, by omega, rfl⟩⟩, ⟨rfl⟩, ⟨hu5⟩, ⟨bx5⟩, ⟨Kd.S_nil _ _ _ _ _⟩, ⟨⟨Nat.le_refl _, fun _ _ _ => rfl⟩⟩⟩
 case round =>
  clear hu5 bx5
  obtain ⟨i, pre, li, bi, B, d, rfl, HJ, HI, HU2, BX, HR, HK⟩ := hrel
  have hj0 := HJ.out
  by_cases hj : i < k.toNat
  ·
   as_aux_lemma =>
    have hcj : decide ((i : Int) < k) = true := decide_eq_true (by omega)
    obtain ⟨k1, rfl⟩ : ∃ k1, gk = k1 + 1 := ⟨gk - 1, by omega⟩
    obtain ⟨y, qy⟩ : ∃ y, numL 10 0 0 li bi = y := ⟨_, rfl⟩
    obtain ⟨x, lj, bj⟩ := y
    have TN := Aside0.mk (fun (W : World) (h : UP w W (w.heap.size + 1) li bi) => unp_number w W _ li bi h)
    rw [qy] at TN
    simp only at TN
    have HII := Aside0.mk (show idsL (k.toNat - i) li bi = (x :: (idsL (k.toNat - (i + 1)) lj bj).1, (idsL (k.toNat - (i + 1)) lj bj).2) by
     rw [show k.toNat - i = (k.toNat - (i + 1)) + 1 by omega]
     simp only [idsL, bindL, pureL, qy])
    have HQJ := Aside0.mk (show i + 1 ≤ k.toNat by omega)
    clear hj qy hj0
    obtain ⟨z0, z1, z2, z3, z4, z5⟩ := cells6 BX.out
    have f4 := blk_frozen BX.out 4
    go_upto_block 1 with (fail)
    go_cut [] (fun wc => ∃ (B1 : Option Addr) (d1 : Nat), Aside0 (UP w wc (w.heap.size + 1) lj bj) ∧ Aside0 (wc.heap[p]? = some (.cells #[.int .u64 e, .int .u64 g, .int .u64 n, .int .i64 0, .slice B1 (pre ++ [x]).length d1, .slice none 0 0] 36 (0, 0))) ∧ Aside0 (Kd.S aSe 70 wc w.heap.size (fun q => w5.heap.size ≤ q) (.slice B1 (pre ++ [x]).length d1) ((pre ++ [x]).map seI)) ∧ Aside0 (Kept w5 wc (fun q => q = w.heap.size + 1 ∨ q = p)))
    case first =>
     go_wp2_with fail
     go_region_law (first | (go_simp; go_at_call 69; refine (TN.out _ (HU2.out.below (by with_reducible repeat (first | exact Below.refl _ _ | apply below_drew1)))).mono ?_; rintro e_ wn ⟨rfl, hun, hkn⟩; have hkw : Kept wr wn (fun q => q = w.heap.size + 1) := (by first | exact hkn | exact Kept.trans_ (kept_below (below_drew1 (Below.refl _ _))) hkn); have BXN := Aside0.mk (blk_kept BX.out hkw (fun h => by have := PP.out; omega)); have HRN := Aside0.mk (Kd.S_kept HR.out hkw (fun q hq he => by have := PP.out; have : w5.heap.size ≤ q := hq; omega)); have HUN := Aside0.mk hun; have HKN := Aside0.mk (kept_trans HK.out hkw (fun q h => Or.inl h)); have HS := Aside0.mk (show w5.heap.size ≤ wn.heap.size from Nat.le_trans HK.out.1 hkw.1); clear hun hkn hkw z0 z1 z2 z3 z4 z5 f4; obtain ⟨z0, z1, z2, z3, z4, z5⟩ := cells6 BXN.out; have f4 := blk_frozen BXN.out 4; have za4 : (wn.alloc (.cells #[.int .u64 x, .int .i64 0, .slice none 0 0] 70)).cell? ⟨p, 4, none⟩ = some (.slice B pre.length d) := (blk_cell (blk_alloc BXN.out _) 4).trans rfl) | (refine Kd.S_append_step aSe (w0 := w) w.heap.size (by rfl) (.tmp 22) (.tmp 26) 33 70 (.agg #[(.int .u64 0), (.int .i64 0), (.slice none 0 0)]) 40 rfl Tryd.underlying33 info70 rfl (by decide) (by omega) (.slice B pre.length d) (pre.map seI) (⟨x, 0, []⟩ : Se) [.int .u64 x, .int .i64 0, .slice none 0 0] (fun q => w5.heap.size ≤ q) (fun _ => False) (by simp [Act.eval, Act.put]) (by simp [Act.eval, Act.put]) ?aP (fun _ hk => hk.elim) ?fr ?HO ?HB ?Hs ?len ?_; (case aP => exact aSe_mk _ _ _ (⟨x, 0, []⟩ : Se) (Kd.S_nil _ _ _ _ _)); (case fr => intro q hq; exact Nat.le_trans HS.out hq); (case HO => exact Kd.S_mono (by first | exact HRN.out | exact Kd.S_step HRN.out (fun _ _ _ => rfl)) (fun q hq => ⟨hq, fun h => h.elim⟩)); (case HB => first | exact HUN.out.be | exact below_drew1 HUN.out.be); (case Hs => exact HUN.out.be.size); (case len => have := HJ.out; have := HR4.out; rw [List.length_map]; omega); intro v1 w6 ho hb hg hat; obtain ⟨B1, d1, rfl⟩ := Kd.S_slice ho; have HO := Aside0.mk ho; have HG5 := Aside0.mk hg; have HB5 := Aside0.mk hb; have bx5 := blk_grown BXN.out hg (Kd.R_ne (Kd.S_R HRN.out) BXN.out (by decide)); have BX5 := Aside0.mk bx5; clear ho hb hg hat z0 z1 z2 z3 z4 z5 f4 za4; obtain ⟨z0, z1, z2, z3, z4, z5⟩ := cells6 bx5; have f4 := blk_frozen bx5 4; clear bx5))
     all_goals
      go_wp2_with fail
      go_meet
     all_goals
      have hp5 := PP.out
      have eL : (pre ++ [x]).length = pre.length + 1 := by simp
      have eM : (pre.map seI ++ [(⟨x, 0, []⟩ : Se)]).length = pre.length + 1 := by simp
      have ho := HO.out
      rw [eM] at ho
      refine ⟨B1, d1, ⟨?_⟩, ⟨?_⟩, ⟨?_⟩, ⟨?_⟩⟩
      ·
       obtain ⟨⟨A, c, hx, hc, hr⟩, hbe, hgg⟩ := HUN.out
       exact ⟨⟨A, c, blk_far (blk_grown hx HG5.out (Kd.R_ne (Kd.S_R HRN.out) hx (by decide))) (show w.heap.size + 1 ≠ p by omega) _, hc, hr⟩, below_set HB5.out (show w.heap.size ≤ p by omega), hgg⟩
      ·
       rw [eL]; exact blk_put BX5.out 4 _ rfl
      ·
       rw [eL, List.map_append]; exact Kd.S_far ho (fun q hq => by have : w5.heap.size ≤ q := hq; show q ≠ p; omega) _
      ·
       exact ⟨Nat.le_trans HKN.out.1 (by simp only [World.setCell, Array.size_setIfInBounds, Array.size_modify]; exact HG5.out.size), fun i hi hn => (Below.heap_setCell _ ⟨p, 4, none⟩ _ i (fun e => hn (Or.inr e))).trans ((HG5.out.block i (Nat.lt_of_lt_of_le hi HKN.out.1) (fun e => by have := (Kd.S_R HRN.out).1 i e.symm; omega)).trans (HKN.out.2 i hi hn))⟩
    case rest =>
     obtain ⟨B1, d1, HU3, BX3, HR3, HK3⟩ := hcut
     go_wp2_with fail
     have hj2 := HJ.out
     have hq2 := HQJ.out
     have hl2 := HR4.out
     go_roundg k1
     case measure => omega
     case rel => exact ⟨i + 1, pre ++ [x], lj, bj, B1, d1, (by have h9 : wrap64 ((i : Int) + 1) = ((i + 1 : Nat) : Int) := (by unfold wrap64; omega); rw [h9]), ⟨⟨by omega, hq2, by simp only [List.length_append, List.length_singleton]; omega⟩⟩, ⟨by rw [HI.out, HII.out]; simp only [List.append_assoc, List.singleton_append]⟩, HU3, BX3, HR3, HK3⟩
  ·
   have hcj : decide ((i : Int) < k) = false := decide_eq_false (by omega)
   have hi0 : k.toNat - i = 0 := by omega
   have h6 := Q5.out
   rw [HI.out, hi0] at h6
   simp only [idsL, List.append_nil, Prod.mk.injEq] at h6
   obtain ⟨e6, e7, e8⟩ := h6
   subst e6 e7 e8
   clear hj0 hi0 hj HI HJ
   go_wp2_with fail
   refine (T6.out _ HU2.out).mono ?_
   rintro r w7 ⟨rfl, hu7, hk7⟩
   have hp7 := PP.out
   have bx7 := blk_kept BX.out hk7 (fun h => by omega)
   have HK7 := Aside0.mk (kept_trans HK.out hk7 (fun q h => Or.inl h))
   have HS7 := Aside0.mk (Kd.S_mono (ok' := fun q => w5.heap.size ≤ q ∧ q < w7.heap.size) (Kd.S_bound (Kd.S_kept HR.out hk7 (fun q hq he => by have : w5.heap.size ≤ q := hq; omega))) (fun q hq => ⟨hq.1, hq.2.2.1⟩))
   have BZ7 := Aside0.mk (blk_kept BZ.out HK7.out (fun h => by rcases h with h | h <;> omega))
   have HPW := Aside0.mk (show p < w7.heap.size from blk_lt bx7)
   have HW5 := Aside0.mk (show w5.heap.size ≤ w7.heap.size from HK7.out.1)
   clear BX HK HR BZ hk7 hp7 HU2 T6
   have c60 := HR6.out.1
   go_wp2_with fail
   go_loopg [6] (j.toNat + 1) (fun kq v6 w' => ∃ (m : Nat) (ys : List No) (lr : List Int) (br : Bool) (A2 : Option Addr) (c2 : Nat), v6 = .int .i64 (m : Int) ∧ Aside0 (kq = m + 1 ∧ ys.length + m ≤ j.toNat) ∧ Aside0 (By lr) ∧ Aside0 (nodsL j.toNat l6 b6 = (ys ++ (nodsL m lr br).1, (nodsL m lr br).2)) ∧ Aside0 (UP w w' (w.heap.size + 1) lr br) ∧ Aside0 (w'.heap[p]? = some (.cells #[.int .u64 e, .int .u64 g, .int .u64 n, .int .i64 0, .slice B pre.length d, .slice A2 ys.length c2] 36 (0, 0))) ∧ Aside0 (Kd.S aNo 76 w' w.heap.size (fun q => w7.heap.size ≤ q) (.slice A2 ys.length c2) ys) ∧ Aside0 (Kd.S aSe 70 w' w.heap.size (fun q => w5.heap.size ≤ q ∧ q < w7.heap.size) (.slice B pre.length d) (pre.map seI)) ∧ Aside0 (Kept w7 w' (fun q => q = w.heap.size + 1 ∨ q = p)))
   case atStart => exact ⟨j.toNat, [], l6, b6, none, 0, by rw [Int.toNat_of_nonneg c60], ⟨⟨rfl, by simp⟩⟩, HY6, ⟨rfl⟩, ⟨hu7⟩, ⟨bx7⟩, ⟨Kd.S_nil _ _ _ _ _⟩, HS7, ⟨⟨Nat.le_refl _, fun _ _ _ => rfl⟩⟩⟩
   case round =>
    clear hu7 bx7 HS7
    obtain ⟨m, ys, lr, br, A2, c2, rfl, HJ, HY, HI, HU2, BX, HR, HS7, HK⟩ := hrel
    have hj0 := HJ.out
    have BZ8 := Aside0.mk (blk_kept BZ7.out HK.out (fun h => by have := PP.out; rcases h with h | h <;> omega))
    have HBW := Aside0.mk HU2.out.be
    obtain ⟨⟨Au, cu, hx, _, _⟩, _, _⟩ := HU2.out
    have u1 := (blk_cell hx 1).trans rfl
    clear hx
    cases br with
    | true =>
     have HZ := Aside0.mk (show decA l = corA by
      have h7 := Q7.out
      rw [HI.out] at h7
      have hb : b7 = true := by
       cases m with
       | zero => simp only [nodsL, List.append_nil, Prod.mk.injEq] at h7; exact h7.2.2.symm
       | succ m => rw [nodsL, if_pos rfl] at h7; simp only [List.append_nil, Prod.mk.injEq] at h7; exact h7.2.2.symm
      rw [HD.out, if_pos hb])
     obtain ⟨x0, x1, x2, x3, x4, x5⟩ := cells6 BZ8.out
     have f0 := blk_frozen BZ8.out 0
     have f1 := blk_frozen BZ8.out 1
     have f2 := blk_frozen BZ8.out 2
     have f3 := blk_frozen BZ8.out 3
     have f4 := blk_frozen BZ8.out 4
     have f5 := blk_frozen BZ8.out 5
     by_cases hm : m = 0
     ·
      have c1 : decide (0 < m) = false := decide_eq_false (by omega)
      have c2' : decide ((0 : Int) < (m : Int)) = false := decide_eq_false (by omega)
      clear hm hj0
      go_wp2_with fail
      refine bodyPost_ret (results_ct rfl _ _ w.heap.size 36 #[.int .u64 0, .int .u64 0, .int .u64 0, .int .i64 0, .slice none 0 0, .slice none 0 0] (0, 0) _ rfl (blk_set6 BZ8.out) Tryd.underlying36 rfl (by kernel_rfl)) rfl ?_
      exact DecAns.zero HZ.out HBW.out
     ·
      have c1 : decide (0 < m) = true := decide_eq_true (by omega)
      have c2' : decide ((0 : Int) < (m : Int)) = true := decide_eq_true (by omega)
      clear hm hj0
      go_wp2_with fail
      refine bodyPost_ret (results_ct rfl _ _ w.heap.size 36 #[.int .u64 0, .int .u64 0, .int .u64 0, .int .i64 0, .slice none 0 0, .slice none 0 0] (0, 0) _ rfl (blk_set6 BZ8.out) Tryd.underlying36 rfl (by kernel_rfl)) rfl ?_
      exact DecAns.zero HZ.out HBW.out
    | false =>
     cases m with
     | zero =>
      as_aux_lemma =>
       have h7 := Q7.out
       rw [HI.out] at h7
       simp only [nodsL, List.append_nil, Prod.mk.injEq] at h7
       obtain ⟨e6, e7, e8⟩ := h7
       subst e6 e7 e8
       have hD := HD.out
       rw [if_neg (by decide)] at hD
       have HO := HOK.out rfl
       have rs := Kd.S_reads' HS7.out
       have rn := Kd.S_reads' HR.out
       have hle1 : (pre.map seI).length = pre.length := List.length_map ..
       have RC := Aside0.mk (show (Kd.C kSe wr B (pre.map seI).length (pre.map seI) ∧ (pre.map seI).length ≤ d) ∧ Kd.C kNo wr A2 ys.length ys ∧ ys.length ≤ c2 from ⟨⟨aSe_C rs.2.2, by rw [hle1]; exact rs.2.1⟩, aNo_C rn.2.2, rn.2.1⟩)
       have VI := Aside0.mk (fun (W : World) (hW : Below wr.heap.size wr W) => HV e g n 0 B d (pre.map seI) A2 c2 ys W (Kd.C_below RC.out.1.1 hW) RC.out.1.2 (Kd.C_below RC.out.2.1 hW) RC.out.2.2 HO.s HO.r.x HO.r.m)
       have EI := Aside0.mk (fun (W : World) (hW : Below wr.heap.size wr W) => implEnc_ok HV w e g n 0 B d (pre.map seI) A2 c2 ys W (below_step HBW.out hW) (Kd.C_below RC.out.1.1 hW) RC.out.1.2 (Kd.C_below RC.out.2.1 hW) RC.out.2.2 HO.s HO.r HO.h HO.m)
       rw [hle1] at VI EI
       obtain ⟨vb, hvb⟩ : ∃ vb, validB e g n 0 (pre.map seI) ys = vb := ⟨_, rfl⟩
       rw [hvb] at VI
       have hok : okB l (e, g, n, pre, ys) = (vb && ((strOfNums (encSt e g n (pre.map seI) ys)).toList == (strOfNums l).toList)) := by rw [← hvb]; rfl
       have hef : vb = true → encF e g n 0 (pre.map seI) ys = encSt e g n (pre.map seI) ys := fun hv => by unfold encF; rw [hvb, if_pos hv]
       have HOB := Aside0.mk (And.intro hok hef)
       have HDD := Aside0.mk hD
       obtain ⟨s0, s1, s2, s3, s4, s5⟩ := cells6 BX.out
       clear rs rn hle1 hvb hok hef hD HO HOK HD Q7 HI hj0
       obtain ⟨x0, x1, x2, x3, x4, x5⟩ := cells6 BZ8.out
       have f0 := blk_frozen BZ8.out 0
       have f1 := blk_frozen BZ8.out 1
       have f2 := blk_frozen BZ8.out 2
       have f3 := blk_frozen BZ8.out 3
       have f4 := blk_frozen BZ8.out 4
       have f5 := blk_frozen BZ8.out 5
       go_wp2_with fail
       refine (VI.out _ (Below.refl _ _)).mono ?_
       rintro r w9 ⟨rfl, hb⟩
       clear s0 s1 s2 s3 s4 s5 x0 x1 x2 x3 x4 x5 f0 f1 f2 f3 f4 f5
       replace BZ8 := Aside0.mk (blk_below BZ8.out hb)
       replace HBW := Aside0.mk (below_step HBW.out hb)
       have BX9 := Aside0.mk (blk_below BX.out hb)
       have HB9 := Aside0.mk hb
       clear hb
       obtain ⟨x0, x1, x2, x3, x4, x5⟩ := cells6 BZ8.out
       have f0 := blk_frozen BZ8.out 0
       have f1 := blk_frozen BZ8.out 1
       have f2 := blk_frozen BZ8.out 2
       have f3 := blk_frozen BZ8.out 3
       have f4 := blk_frozen BZ8.out 4
       have f5 := blk_frozen BZ8.out 5
       cases vb with
       | false =>
        have HZ := Aside0.mk (show decA l = corA by rw [HDD.out, if_neg (by rw [HOB.out.1]; simp)])
        go_wp2_with fail
        refine bodyPost_ret (results_ct rfl _ _ w.heap.size 36 #[.int .u64 0, .int .u64 0, .int .u64 0, .int .i64 0, .slice none 0 0, .slice none 0 0] (0, 0) _ rfl (blk_set6 BZ8.out) Tryd.underlying36 rfl (by kernel_rfl)) rfl ?_
        exact DecAns.zero HZ.out HBW.out
       | true =>
        obtain ⟨s0, s1, s2, s3, s4, s5⟩ := cells6 BX9.out
        rw [Bool.true_and] at HOB
        go_wp2_with fail
        refine (EI.out _ HB9.out).mono ?_
        rintro r w10 ⟨E, ec, rfl, hd, hb⟩
        rw [HOB.out.2 (by first | rfl | trivial)] at hd
        clear s0 s1 s2 s3 s4 s5 x0 x1 x2 x3 x4 x5 f0 f1 f2 f3 f4 f5
        replace BZ8 := Aside0.mk (blk_below BZ8.out hb)
        replace HBW := Aside0.mk (below_step HBW.out hb)
        replace BX9 := Aside0.mk (blk_below BX9.out hb)
        replace HB9 := Aside0.mk (below_step HB9.out hb)
        have HE := Aside0.mk hd
        rw [HOB.out.2 (by first | rfl | trivial)]
        clear hb hd
        generalize encSt e g n (pre.map seI) ys = es at *
        obtain ⟨tt, htt⟩ : ∃ tt, ((strOfNums es).toList == (strOfNums l).toList) = tt := ⟨_, rfl⟩
        have HQE := Aside0.mk (show bytes_Equal.f es l = some tt by unfold bytes_Equal.f; rw [htt])
        rw [htt] at HOB
        clear htt
        go_wp2_with fail
        refine (bytes_Equal.calls E ec es A c l tt _ HE.out.reads.1 HE.out.reads.2 (Kd.C_below H.out.1 HBW.out) H.out.2 HQE.out).mono ?_
        rintro r w11 ⟨rfl, hb0⟩
        have hb := hb0.below
        replace BZ8 := Aside0.mk (blk_below BZ8.out hb)
        replace HBW := Aside0.mk (below_step HBW.out hb)
        replace BX9 := Aside0.mk (blk_below BX9.out hb)
        replace HB9 := Aside0.mk (below_step HB9.out hb)
        clear hb0 hb
        obtain ⟨x0, x1, x2, x3, x4, x5⟩ := cells6 BZ8.out
        have f0 := blk_frozen BZ8.out 0
        have f1 := blk_frozen BZ8.out 1
        have f2 := blk_frozen BZ8.out 2
        have f3 := blk_frozen BZ8.out 3
        have f4 := blk_frozen BZ8.out 4
        have f5 := blk_frozen BZ8.out 5
        cases tt with
        | false =>
         have HZ := Aside0.mk (show decA l = corA by rw [HDD.out, if_neg (by rw [HOB.out.1]; simp)])
         go_wp2_with fail
         refine bodyPost_ret (results_ct rfl _ _ w.heap.size 36 #[.int .u64 0, .int .u64 0, .int .u64 0, .int .i64 0, .slice none 0 0, .slice none 0 0] (0, 0) _ rfl (blk_set6 BZ8.out) Tryd.underlying36 rfl (by kernel_rfl)) rfl ?_
         exact DecAns.zero HZ.out HBW.out
        | true =>
         have HZ := Aside0.mk (show decA l = ((e, g, n, pre, ys), 0) by rw [HDD.out, if_pos HOB.out.1])
         obtain ⟨s0, s1, s2, s3, s4, s5⟩ := cells6 BX9.out
         go_wp2_with fail
         refine bodyPost_ret (results_ct rfl _ _ w.heap.size 36 #[.int .u64 e, .int .u64 g, .int .u64 n, .int .i64 0, .slice B pre.length d, .slice A2 ys.length c2] (0, 0) _ rfl (blk_set6 BZ8.out) Tryd.underlying36 rfl (by kernel_rfl)) rfl ?_
         have hp := PP.out
         have hw5 := HW5.out
         exact DecAns.good (T := w7.heap.size) HZ.out HBW.out (Kd.S_mono (Kd.S_below HS7.out HB9.out) (fun q hq => ⟨by have := hq.1; omega, hq.2⟩)) (Kd.S_mono (Kd.S_below HR.out HB9.out) (fun q hq => ⟨by have : w7.heap.size ≤ q := hq; omega, hq⟩))
     | succ m =>
      focus
       have hby := HY.out
       obtain ⟨y, qy⟩ : ∃ y, nodL lr false = y := ⟨_, rfl⟩
       obtain ⟨x, lj, bj⟩ := y
       have TN := Aside0.mk (fun (W : World) (h : UP w W (w.heap.size + 1) lr false) => unp_node w W _ lr false h hby.n hby.b)
       rw [qy] at TN
       simp only at TN
       have HYJ := Aside0.mk (show By lj from by
        have h := By.of Sb.nod false hby
        rw [qy] at h
        exact h)
       have HII := Aside0.mk (show nodsL (m + 1) lr false = (x :: (nodsL m lj bj).1, (nodsL m lj bj).2) by
        rw [nodsL, if_neg (by decide)]
        simp only [bindL, pureL, qy])
       have c1 : decide (0 < m + 1) = true := decide_eq_true (by omega)
       have c2' : decide ((0 : Int) < ((m + 1 : Nat) : Int)) = true := decide_eq_true (by omega)
       have c3' : decide ((0 : Int) < (m : Int) + 1) = true := decide_eq_true (by omega)
       clear qy hby hj0 BZ8 HBW
       obtain ⟨x0, x1, x2, x3, x4, x5, x6, x7⟩ := x
       obtain ⟨z0, z1, z2, z3, z4, z5⟩ := cells6 BX.out
       have f5 := blk_frozen BX.out 5
       go_upto_block 3 with (fail)
       go_cut [] (fun wc => ∃ (A3 : Option Addr) (c3 : Nat), Aside0 (UP w wc (w.heap.size + 1) lj bj) ∧ Aside0 (wc.heap[p]? = some (.cells #[.int .u64 e, .int .u64 g, .int .u64 n, .int .i64 0, .slice B pre.length d, .slice A3 (ys ++ [(⟨x0, x1, x2, x3, x4, x5, x6, x7⟩ : No)]).length c3] 36 (0, 0))) ∧ Aside0 (Kd.S aNo 76 wc w.heap.size (fun q => w7.heap.size ≤ q) (.slice A3 (ys ++ [(⟨x0, x1, x2, x3, x4, x5, x6, x7⟩ : No)]).length c3) (ys ++ [(⟨x0, x1, x2, x3, x4, x5, x6, x7⟩ : No)])) ∧ Aside0 (Kd.S aSe 70 wc w.heap.size (fun q => w5.heap.size ≤ q ∧ q < w7.heap.size) (.slice B pre.length d) (pre.map seI)) ∧ Aside0 (Kept w7 wc (fun q => q = w.heap.size + 1 ∨ q = p)))
       case first =>
        go_wp2_with fail
        go_region_law (first | (go_simp; go_at_call 71; refine (TN.out _ (HU2.out.below (by with_reducible repeat (first | exact Below.refl _ _ | apply below_drew1)))).mono ?_; rintro e_ wn ⟨cs, rfl, hmm0, hun, hkn⟩; have hmm : aNo.M wn w.heap.size (fun q => wr.heap.size ≤ q) (⟨x0, x1, x2, x3, x4, x5, x6, x7⟩ : No) cs := hmm0; clear hmm0; obtain ⟨p0, p1, p4, v0, v1, v4, v7, rfl, g0, g1, g4, g7⟩ := aNo_open hmm; obtain ⟨C0, k0, rfl⟩ := Kd.R_slice g0; obtain ⟨C1, k1, rfl⟩ := Kd.R_slice g1; obtain ⟨C4, k4, rfl⟩ := Kd.R_slice g4; obtain ⟨C7, k7, rfl⟩ := Kd.R_slice g7; simp only at hmm; have HMM := Aside0.mk hmm; clear hmm g0 g1 g4 g7; have hkw : Kept wr wn (fun q => q = w.heap.size + 1) := (by first | exact hkn | exact Kept.trans_ (kept_below (below_drew1 (Below.refl _ _))) hkn); have hs7 : w7.heap.size ≤ wr.heap.size := HK.out.1; have BXN := Aside0.mk (blk_kept BX.out hkw (fun h => by have := PP.out; omega)); have HRN := Aside0.mk (Kd.S_kept (Kd.S_mono (ok' := fun q => w7.heap.size ≤ q ∧ q < wr.heap.size) (Kd.S_bound HR.out) (fun q hq => ⟨hq.1, hq.2.2.1⟩)) hkw (fun q hq he => by have := PP.out; have := HW5.out; have := hq.1; omega)); have HSN := Aside0.mk (Kd.S_kept HS7.out hkw (fun q hq he => by have := PP.out; have := hq.1; omega)); have HUN := Aside0.mk hun; have HKN := Aside0.mk (kept_trans HK.out hkw (fun q h => Or.inl h)); have HS := Aside0.mk (And.intro hs7 hkw.1); clear hun hkn hkw hs7 z0 z1 z2 z3 z4 z5 f5; obtain ⟨z0, z1, z2, z3, z4, z5⟩ := cells6 BXN.out; have f5 := blk_frozen BXN.out 5; have za5 : (wn.alloc (.cells #[.slice C0 x0.length k0, .slice C1 x1.length k1, .int .u64 x2, .int .i64 x3, .slice C4 x4.length k4, .int .u64 x5, .int .u64 x6, .slice C7 x7.length k7] 76)).cell? ⟨p, 5, none⟩ = some (.slice A2 ys.length c2) := (blk_cell (blk_alloc BXN.out _) 5).trans rfl) | (refine Kd.S_append_step aNo (w0 := w) w.heap.size (by rfl) (.tmp 44) (.tmp 47) 34 76 (.agg #[(.slice none 0 0), (.slice none 0 0), (.int .u64 0), (.int .i64 0), (.slice none 0 0), (.int .u64 0), (.int .u64 0), (.slice none 0 0)]) 128 rfl Tryd.underlying34 info76 rfl (by decide) (by omega) (.slice A2 ys.length c2) ys (⟨x0, x1, x2, x3, x4, x5, x6, x7⟩ : No) [.slice C0 x0.length k0, .slice C1 x1.length k1, .int .u64 x2, .int .i64 x3, .slice C4 x4.length k4, .int .u64 x5, .int .u64 x6, .slice C7 x7.length k7] (fun q => w7.heap.size ≤ q) (fun q => wr.heap.size ≤ q) (by simp [Act.eval, Act.put]) (by simp [Act.eval, Act.put]) ?aP ?aK ?fr ?HO ?HB ?Hs ?len ?_; (case aP => first | exact HMM.out | exact Kd.M_step HMM.out (fun _ _ _ => rfl)); (case aK => exact (fun q hq => ⟨by have := HS.out.1; have h3 : wr.heap.size ≤ q := hq; show w7.heap.size ≤ q; omega, fun e => by have h := ((Kd.S_R HRN.out).1 q e.symm).2; have h3 : wr.heap.size ≤ q := hq; omega⟩)); (case fr => exact (fun q hq => Nat.le_trans HS.out.1 (Nat.le_trans HS.out.2 hq))); (case HO => have hmo : ∀ q, (w7.heap.size ≤ q ∧ q < wr.heap.size) → w7.heap.size ≤ q ∧ ¬ wr.heap.size ≤ q := (fun q hq => ⟨hq.1, by omega⟩); first | exact Kd.S_mono HRN.out hmo | exact Kd.S_mono (Kd.S_step HRN.out (fun _ _ _ => rfl)) hmo); (case HB => first | exact HUN.out.be | exact below_drew1 HUN.out.be); (case Hs => exact HUN.out.be.size); (case len => have := HJ.out; have := HR6.out; omega); intro v1 w8 ho hb hg hat; obtain ⟨A3, c3, rfl⟩ := Kd.S_slice ho; have HO := Aside0.mk ho; have HG5 := Aside0.mk hg; have HB5 := Aside0.mk hb; have bx5 := blk_grown BXN.out hg (Kd.R_ne (Kd.S_R HRN.out) BXN.out (by decide)); have BX5 := Aside0.mk bx5; clear ho hb hg hat z0 z1 z2 z3 z4 z5 f5 za5; obtain ⟨z0, z1, z2, z3, z4, z5⟩ := cells6 bx5; have f5 := blk_frozen bx5 5; clear bx5))
        all_goals
         go_wp2_with fail
         go_meet
        all_goals
         have hp5 := PP.out
         have hw5 := HW5.out
         have eL : (ys ++ [(⟨x0, x1, x2, x3, x4, x5, x6, x7⟩ : No)]).length = ys.length + 1 := by simp
         refine ⟨A3, c3, ⟨?_⟩, ⟨?_⟩, ⟨?_⟩, ⟨?_⟩, ⟨?_⟩⟩
         ·
          obtain ⟨⟨A, c, hx, hc, hr⟩, hbe, hgg⟩ := HUN.out
          exact ⟨⟨A, c, blk_far (blk_grown hx HG5.out (Kd.R_ne (Kd.S_R HRN.out) hx (by decide))) (show w.heap.size + 1 ≠ p by omega) _, hc, hr⟩, below_set HB5.out (show w.heap.size ≤ p by omega), hgg⟩
         ·
          rw [eL]; exact blk_put BX5.out 5 _ rfl
         ·
          exact Kd.S_far HO.out (fun q hq => by have : w7.heap.size ≤ q := hq; show q ≠ p; omega) _
         ·
          exact Kd.S_far (Kd.S_step HSN.out (fun q ho hlt => HG5.out.block q hlt (fun e => by have := ((Kd.S_R HRN.out).1 q e.symm).1; have := ho.2; omega))) (fun q hq => by have := hq.1; show q ≠ p; omega) _
         ·
          exact ⟨Nat.le_trans HKN.out.1 (by simp only [World.setCell, Array.size_setIfInBounds, Array.size_modify]; exact HG5.out.size), fun i hi hn => (Below.heap_setCell _ ⟨p, 5, none⟩ _ i (fun e => hn (Or.inr e))).trans ((HG5.out.block i (Nat.lt_of_lt_of_le hi HKN.out.1) (fun e => by have := ((Kd.S_R HRN.out).1 i e.symm).1; omega)).trans (HKN.out.2 i hi hn))⟩
       case rest =>
        obtain ⟨A3, c3, HU3, BX3, HR3, HS3, HK3⟩ := hcut
        clear c1 c2' c3' z0 z1 z2 z3 z4 z5 f5 u1
        go_wp2_with fail
        have hj2 := HJ.out
        have hl2 := HR6.out
        obtain ⟨k1, rfl⟩ : ∃ k1, gk = k1 + 1 := ⟨gk - 1, by omega⟩
        go_roundg k1
        case measure => omega
        case rel => exact ⟨m, ys ++ [(⟨x0, x1, x2, x3, x4, x5, x6, x7⟩ : No)], lj, bj, A3, c3, (by have h9 : wrap64 (m : Int) = (m : Int) := (by unfold wrap64; omega); rw [h9]), ⟨⟨by omega, by simp only [List.length_append, List.length_singleton]; omega⟩⟩, HYJ, ⟨by rw [HI.out, HII.out]; simp only [List.append_assoc, List.singleton_append]⟩, HU3, BX3, HR3, HS3, HK3⟩
theorem impl_DecodeState_ok (HV : ValIC) (w0 : World) (A : Option Addr) (c : Nat) (l : List Int) (w : World) (hB : Below w0.heap.size w0 w) (h : Kd.C (Kd.int .u8) w A l.length l) (hc : l.length ≤ c) (hl : l.length ≤ 2097152) (hbr : ∀ x ∈ l, 0 ≤ x ∧ x < 256) :
  Calls Tryd.prog 29 #[.slice A l.length c] w fun r w' => DecAns w0 w l r w' :=
 (impl_DecodeState_at HV A c l w h hc hl hbr).mono fun r w' h => h.rebase hB
theorem heldByteS_m (A : Option Addr) (c n m q : Nat) (w : World) (h : Kd.C (Kd.int .u8) w A (marksB n m).length (marksB n m)) (hc : (marksB n m).length ≤ c) (hm : m + n ≤ 100000000) (hq : m + n = q) :
  Calls Tryd.prog 27 #[.slice A n c, .int .i64 m] w fun r w' => r = .returned (.int .i64 (q : Int)) ∧ Below w.heap.size w w' := by
 subst hq
 have h2 := laws_heldByteS.calls 200000000 A c (marksB n m) m _ w h hc (heldByteS_f n m (by omega) 200000000 (by omega))
 rw [marksB_length] at h2
 refine h2.mono ?_
 rintro e w' ⟨rfl, hb⟩
 exact ⟨rfl, hb.below⟩
theorem heldUint64S_m (A : Option Addr) (c n m q : Nat) (w : World) (h : Kd.C (Kd.int .u64) w A (marksU n m).length (marksU n m)) (hc : (marksU n m).length ≤ c) (hm : m + n ≤ 100000000) (hq : m + n = q) :
  Calls Tryd.prog 23 #[.slice A n c, .int .i64 m] w fun r w' => r = .returned (.int .i64 (q : Int)) ∧ Below w.heap.size w w' := by
 subst hq
 have h2 := laws_heldUint64S.calls 200000000 A c (marksU n m) m _ w h hc (heldUint64S_f n m (by omega) 200000000 (by omega))
 rw [marksU_length] at h2
 refine h2.mono ?_
 rintro e w' ⟨rfl, hb⟩
 exact ⟨rfl, hb.below⟩
set_option maxHeartbeats 4000000 in
set_option maxRecDepth 100000 in
theorem heldEventS_m (A : Option Addr) (c : Nat) (xs : List Ev) (m e : Nat) (w : World) (h1 : Kd.C kEv w A (markL mkEv lnEv xs m).length (markL mkEv lnEv xs m)) (k1 : (markL mkEv lnEv xs m).length ≤ c) (hm : m + sumL lnEv xs ≤ 100000000) (he : m + sumL lnEv xs = e) :
  Calls Tryd.prog 111 #[.slice A xs.length c, .int .i64 m] w fun r w' => r = .returned (.int .i64 (e : Int)) ∧ Below w.heap.size w w' := by
 have H1 := Aside0.mk h1
 have HM := Aside0.mk hm
 have HE := Aside0.mk he
 have HN : (markL mkEv lnEv xs m).length = xs.length := markL_length mkEv lnEv xs m
 have hmx : xs.length ≤ 100000000 := by
  have : ∀ zs : List Ev, zs.length ≤ sumL lnEv zs := by
   intro zs
   induction zs with
   | nil => simp [sumL]
   | cons z zs ih => simp only [sumL, List.length_cons]; have : 1 ≤ lnEv z := by { unfold lnEv; omega }; omega
  have := this xs
  omega
 have HN := Aside0.mk HN
 have HX := Aside0.mk hmx
 clear h1 k1 hm he hmx
 go_enter Tryd.func111, Tryd.ntmps111
 go_wp2_with fail
 go_loopg [1, 5] (xs.length + 1) (fun kq v1 v5 w' => ∃ i : Nat, v1 = .int .i64 ((endL lnEv (xs.take i) m : Nat) : Int) ∧ v5 = .int .i64 i ∧ Aside0 (kq + i = xs.length + 1 ∧ i ≤ xs.length) ∧ Aside0 (Below w.heap.size w w'))
 case atStart => exact ⟨0, by simp [endL, sumL], rfl, ⟨⟨by omega, by omega⟩⟩, ⟨Below.refl _ _⟩⟩
 case round =>
  obtain ⟨i, rfl, rfl, HJ, HB⟩ := hrel
  have hj0 := HJ.out
  by_cases hj : i < xs.length
  ·
   obtain ⟨k1, rfl⟩ : ∃ k1, gk = k1 + 1 := ⟨gk - 1, by omega⟩
   have c1 : decide ((i : Int) < (xs.length : Int)) = true := decide_eq_true (by omega)
   have c2 : decide (i < xs.length) = true := decide_eq_true hj
   have ci : (0 : Int) ≤ (i : Int) := by omega
   have ci2 : (i : Int) < ((markL mkEv lnEv xs m).length : Int) := by rw [HN.out]; omega
   obtain ⟨ad, A1, a1, eA, x0, x1, hl1, hi1⟩ := at_T138 H1.out (i : Int) ci ci2
   have ex : rd_T138 (markL mkEv lnEv xs m) (i : Int) = mkEv xs[i] (endL lnEv (xs.take i) m) := by unfold rd_T138; rw [Int.toNat_natCast, List.getD_eq_getElem?_getD, List.getElem?_eq_getElem (by rw [HN.out]; exact hj), Option.getD_some, markL_at mkEv lnEv xs m i hj]; rfl
   have ci3 : (i : Int) < (xs.length : Int) := by omega
   have hes := sumL_succ lnEv xs i hj
   have hen : endL lnEv (xs.take i) m + lnEv xs[i] = endL lnEv (xs.take (i + 1)) m := by unfold endL; omega
   have hle := sumL_take_le lnEv xs (i + 1)
   have hb1 : endL lnEv (xs.take (i + 1)) m ≤ 100000000 := by have := HM.out; unfold endL; omega
   clear hes hle
   obtain ⟨y, hy⟩ : ∃ y, xs[i] = y := ⟨_, rfl⟩
   obtain ⟨q0, hq⟩ : ∃ q, endL lnEv (xs.take i) m = q := ⟨_, rfl⟩
   rw [hy, hq] at ex
   rw [hy, hq] at hen
   rw [hq]
   rw [ex, Int.toNat_natCast] at x0
   rw [ex] at hl1 hi1 x1
   cases eA
   clear hq ex hy ci2
   unfold mkEv at x0 x1 hl1 hi1
   simp only [marksB_length, marksU_length, markL_length] at x0 x1
   try rw [Int.toNat_natCast] at x1
   have hal : ∀ {a : Addr} {z : Value}, w.cell? a = some z → wr.cell? a = some z := fun hz => (HB.out.cell (World.block_lt_of_cell? w _ hz)).trans hz
   replace x0 := hal x0
   replace x1 := hal x1
   clear hal
   obtain ⟨q1, e0⟩ : ∃ q, q0 + 1 = q := ⟨_, rfl⟩
   obtain ⟨q2, e1⟩ : ∃ q, q1 + y.f1.length = q := ⟨_, rfl⟩
   have hlast : q2 = endL lnEv (xs.take (i + 1)) m := by rw [← hen]; unfold lnEv; omega
   rw [← hlast] at hb1
   have hp : q1 = q0 + 1 ∧ q2 = q1 + y.f1.length := ⟨e0.symm, e1.symm⟩
   rw [show q0 + 1 = q1 by omega] at hl1 hi1
   have w0 : q0 < 9223372036854775807 := by omega
   have K1 := Aside0.mk (fun (W : World) (hW : Below w.heap.size w W) => heldByteS_m A1 a1 y.f1.length q1 q2 W (Kd.C_below hi1 hW) hl1 (by omega) e1)
   have n2 : decide ((q2 : Int) < 0) = false := decide_eq_false (by omega)
   have HJ2 := Aside0.mk (show i + 1 ≤ xs.length by omega)
   have v0 : IntKind.i64.wrap ((q0 : Int) + 1) = (q1 : Int) := (i64_w _).trans ((wrap_upL _ w0).trans (by rw [← e0]))
   have vv0 : wrap64 ((q0 : Int) + 1) = (q1 : Int) := (wrap_upL _ w0).trans (by rw [← e0])
   clear w0
   have HLA := Aside0.mk hlast
   clear hen hb1 hlast hp e0 e1 hl1 hi1
   go_wp2_with fail
   refine (K1.out _ HB.out).mono ?_
   rintro r W1 ⟨rfl, hb⟩
   replace HB := Aside0.mk (below_step HB.out hb)
   clear hb x1 K1
   go_wp2_with fail
   clear v0 vv0
   have hxb := HX.out
   have hj3 := HJ2.out
   go_roundg k1
   case measure => omega
   case rel => exact ⟨i + 1, by rw [HLA.out], by first | exact congrArg (Value.int .i64) (wrap_upL i (by omega)) | exact congrArg (Value.int .i64) ((i64_w _).trans (wrap_upL i (by omega))), ⟨⟨by omega, by omega⟩⟩, HB⟩
  ·
   have c1 : decide ((i : Int) < (xs.length : Int)) = false := decide_eq_false (by omega)
   have c2 : decide (i < xs.length) = false := decide_eq_false hj
   go_wp2_with fail
   go_ret
   refine ⟨?_, HB.out⟩
   rw [show endL lnEv (xs.take i) m = e by rw [List.take_of_length_le (by omega)]; exact HE.out]
   rfl
set_option maxHeartbeats 4000000 in
set_option maxRecDepth 100000 in
theorem heldSessionS_m (A : Option Addr) (c : Nat) (xs : List Se) (m e : Nat) (w : World) (h1 : Kd.C kSe w A (markL mkSe lnSe xs m).length (markL mkSe lnSe xs m)) (k1 : (markL mkSe lnSe xs m).length ≤ c) (hm : m + sumL lnSe xs ≤ 100000000) (he : m + sumL lnSe xs = e) :
  Calls Tryd.prog 73 #[.slice A xs.length c, .int .i64 m] w fun r w' => r = .returned (.int .i64 (e : Int)) ∧ Below w.heap.size w w' := by
 have H1 := Aside0.mk h1
 have HM := Aside0.mk hm
 have HE := Aside0.mk he
 have HN : (markL mkSe lnSe xs m).length = xs.length := markL_length mkSe lnSe xs m
 have hmx : xs.length ≤ 100000000 := by
  have : ∀ zs : List Se, zs.length ≤ sumL lnSe zs := by
   intro zs
   induction zs with
   | nil => simp [sumL]
   | cons z zs ih => simp only [sumL, List.length_cons]; have : 1 ≤ lnSe z := by { unfold lnSe; omega }; omega
  have := this xs
  omega
 have HN := Aside0.mk HN
 have HX := Aside0.mk hmx
 clear h1 k1 hm he hmx
 go_enter Tryd.func73, Tryd.ntmps73
 go_wp2_with fail
 go_loopg [1, 5] (xs.length + 1) (fun kq v1 v5 w' => ∃ i : Nat, v1 = .int .i64 ((endL lnSe (xs.take i) m : Nat) : Int) ∧ v5 = .int .i64 i ∧ Aside0 (kq + i = xs.length + 1 ∧ i ≤ xs.length) ∧ Aside0 (Below w.heap.size w w'))
 case atStart => exact ⟨0, by simp [endL, sumL], rfl, ⟨⟨by omega, by omega⟩⟩, ⟨Below.refl _ _⟩⟩
 case round =>
  obtain ⟨i, rfl, rfl, HJ, HB⟩ := hrel
  have hj0 := HJ.out
  by_cases hj : i < xs.length
  ·
   obtain ⟨k1, rfl⟩ : ∃ k1, gk = k1 + 1 := ⟨gk - 1, by omega⟩
   have c1 : decide ((i : Int) < (xs.length : Int)) = true := decide_eq_true (by omega)
   have c2 : decide (i < xs.length) = true := decide_eq_true hj
   have ci : (0 : Int) ≤ (i : Int) := by omega
   have ci2 : (i : Int) < ((markL mkSe lnSe xs m).length : Int) := by rw [HN.out]; omega
   obtain ⟨ad, A2, a2, eA, x0, x1, x2, hl2, hi2⟩ := at_T70 H1.out (i : Int) ci ci2
   have ex : rd_T70 (markL mkSe lnSe xs m) (i : Int) = mkSe xs[i] (endL lnSe (xs.take i) m) := by unfold rd_T70; rw [Int.toNat_natCast, List.getD_eq_getElem?_getD, List.getElem?_eq_getElem (by rw [HN.out]; exact hj), Option.getD_some, markL_at mkSe lnSe xs m i hj]; rfl
   have ci3 : (i : Int) < (xs.length : Int) := by omega
   have hes := sumL_succ lnSe xs i hj
   have hen : endL lnSe (xs.take i) m + lnSe xs[i] = endL lnSe (xs.take (i + 1)) m := by unfold endL; omega
   have hle := sumL_take_le lnSe xs (i + 1)
   have hb1 : endL lnSe (xs.take (i + 1)) m ≤ 100000000 := by have := HM.out; unfold endL; omega
   clear hes hle
   obtain ⟨y, hy⟩ : ∃ y, xs[i] = y := ⟨_, rfl⟩
   obtain ⟨q0, hq⟩ : ∃ q, endL lnSe (xs.take i) m = q := ⟨_, rfl⟩
   rw [hy, hq] at ex
   rw [hy, hq] at hen
   rw [hq]
   rw [ex, Int.toNat_natCast] at x0
   rw [ex] at hl2 hi2 x1 x2
   cases eA
   clear hq ex hy ci2
   unfold mkSe at x0 x1 x2 hl2 hi2
   simp only [marksB_length, marksU_length, markL_length] at x0 x1 x2
   try rw [Int.toNat_natCast] at x1
   try rw [Int.toNat_natCast] at x2
   have hal : ∀ {a : Addr} {z : Value}, w.cell? a = some z → wr.cell? a = some z := fun hz => (HB.out.cell (World.block_lt_of_cell? w _ hz)).trans hz
   replace x0 := hal x0
   replace x1 := hal x1
   replace x2 := hal x2
   clear hal
   obtain ⟨q1, e0⟩ : ∃ q, q0 + 1 = q := ⟨_, rfl⟩
   obtain ⟨q2, e1⟩ : ∃ q, q1 + 1 = q := ⟨_, rfl⟩
   obtain ⟨q3, e2⟩ : ∃ q, q2 + sumL lnEv y.f2 = q := ⟨_, rfl⟩
   have hlast : q3 = endL lnSe (xs.take (i + 1)) m := by rw [← hen]; unfold lnSe; omega
   rw [← hlast] at hb1
   have hp : q1 = q0 + 1 ∧ q2 = q1 + 1 ∧ q3 = q2 + sumL lnEv y.f2 := ⟨e0.symm, e1.symm, e2.symm⟩
   rw [show q0 + 1 = q1 by omega] at x1
   rw [show q0 + 2 = q2 by omega] at hl2 hi2
   have w0 : q0 < 9223372036854775807 := by omega
   have z0 : q0 ≤ 140737488355328 := by omega
   have w1 : q1 < 9223372036854775807 := by omega
   have K2 := Aside0.mk (fun (W : World) (hW : Below w.heap.size w W) => heldEventS_m A2 a2 y.f2 q2 q3 W (Kd.C_below hi2 hW) hl2 (by omega) e2)
   have n3 : decide ((q3 : Int) < 0) = false := decide_eq_false (by omega)
   have HJ2 := Aside0.mk (show i + 1 ≤ xs.length by omega)
   have u0 : IntKind.u64.wrap (q0 : Int) = (q0 : Int) := u64_id _ z0
   clear z0
   have v0 : IntKind.i64.wrap ((q0 : Int) + 1) = (q1 : Int) := (i64_w _).trans ((wrap_upL _ w0).trans (by rw [← e0]))
   have vv0 : wrap64 ((q0 : Int) + 1) = (q1 : Int) := (wrap_upL _ w0).trans (by rw [← e0])
   clear w0
   have v1 : IntKind.i64.wrap ((q1 : Int) + 1) = (q2 : Int) := (i64_w _).trans ((wrap_upL _ w1).trans (by rw [← e1]))
   have vv1 : wrap64 ((q1 : Int) + 1) = (q2 : Int) := (wrap_upL _ w1).trans (by rw [← e1])
   clear w1
   have HLA := Aside0.mk hlast
   clear hen hb1 hlast hp e0 e1 e2 hl2 hi2
   go_wp2_with fail
   refine (K2.out _ HB.out).mono ?_
   rintro r W1 ⟨rfl, hb⟩
   replace HB := Aside0.mk (below_step HB.out hb)
   clear hb x2 K2
   go_wp2_with fail
   clear u0 v0 vv0 v1 vv1
   have hxb := HX.out
   have hj3 := HJ2.out
   go_roundg k1
   case measure => omega
   case rel => exact ⟨i + 1, by rw [HLA.out], by first | exact congrArg (Value.int .i64) (wrap_upL i (by omega)) | exact congrArg (Value.int .i64) ((i64_w _).trans (wrap_upL i (by omega))), ⟨⟨by omega, by omega⟩⟩, HB⟩
  ·
   have c1 : decide ((i : Int) < (xs.length : Int)) = false := decide_eq_false (by omega)
   have c2 : decide (i < xs.length) = false := decide_eq_false hj
   go_wp2_with fail
   go_ret
   refine ⟨?_, HB.out⟩
   rw [show endL lnSe (xs.take i) m = e by rw [List.take_of_length_le (by omega)]; exact HE.out]
   rfl
set_option maxHeartbeats 4000000 in
set_option maxRecDepth 100000 in
theorem heldNodeS_m (A : Option Addr) (c : Nat) (xs : List No) (m e : Nat) (w : World) (h1 : Kd.C kNo w A (markL mkNo lnNo xs m).length (markL mkNo lnNo xs m)) (k1 : (markL mkNo lnNo xs m).length ≤ c) (hm : m + sumL lnNo xs ≤ 100000000) (he : m + sumL lnNo xs = e) :
  Calls Tryd.prog 74 #[.slice A xs.length c, .int .i64 m] w fun r w' => r = .returned (.int .i64 (e : Int)) ∧ Below w.heap.size w w' := by
 have H1 := Aside0.mk h1
 have HM := Aside0.mk hm
 have HE := Aside0.mk he
 have HN : (markL mkNo lnNo xs m).length = xs.length := markL_length mkNo lnNo xs m
 have hmx : xs.length ≤ 100000000 := by
  have : ∀ zs : List No, zs.length ≤ sumL lnNo zs := by
   intro zs
   induction zs with
   | nil => simp [sumL]
   | cons z zs ih => simp only [sumL, List.length_cons]; have : 1 ≤ lnNo z := by { unfold lnNo; omega }; omega
  have := this xs
  omega
 have HN := Aside0.mk HN
 have HX := Aside0.mk hmx
 clear h1 k1 hm he hmx
 go_enter Tryd.func74, Tryd.ntmps74
 go_wp2_with fail
 go_loopg [1, 5] (xs.length + 1) (fun kq v1 v5 w' => ∃ i : Nat, v1 = .int .i64 ((endL lnNo (xs.take i) m : Nat) : Int) ∧ v5 = .int .i64 i ∧ Aside0 (kq + i = xs.length + 1 ∧ i ≤ xs.length) ∧ Aside0 (Below w.heap.size w w'))
 case atStart => exact ⟨0, by simp [endL, sumL], rfl, ⟨⟨by omega, by omega⟩⟩, ⟨Below.refl _ _⟩⟩
 case round =>
  obtain ⟨i, rfl, rfl, HJ, HB⟩ := hrel
  have hj0 := HJ.out
  by_cases hj : i < xs.length
  ·
   obtain ⟨k1, rfl⟩ : ∃ k1, gk = k1 + 1 := ⟨gk - 1, by omega⟩
   have c1 : decide ((i : Int) < (xs.length : Int)) = true := decide_eq_true (by omega)
   have c2 : decide (i < xs.length) = true := decide_eq_true hj
   have ci : (0 : Int) ≤ (i : Int) := by omega
   have ci2 : (i : Int) < ((markL mkNo lnNo xs m).length : Int) := by rw [HN.out]; omega
   obtain ⟨ad, A0, a0, A1, a1, A4, a4, A7, a7, eA, x0, x1, x2, x3, x4, x5, x6, x7, hl0, hi0, hl1, hi1, hl4, hi4, hl7, hi7⟩ := at_T76 H1.out (i : Int) ci ci2
   have ex : rd_T76 (markL mkNo lnNo xs m) (i : Int) = mkNo xs[i] (endL lnNo (xs.take i) m) := by unfold rd_T76; rw [Int.toNat_natCast, List.getD_eq_getElem?_getD, List.getElem?_eq_getElem (by rw [HN.out]; exact hj), Option.getD_some, markL_at mkNo lnNo xs m i hj]; rfl
   have ci3 : (i : Int) < (xs.length : Int) := by omega
   have hes := sumL_succ lnNo xs i hj
   have hen : endL lnNo (xs.take i) m + lnNo xs[i] = endL lnNo (xs.take (i + 1)) m := by unfold endL; omega
   have hle := sumL_take_le lnNo xs (i + 1)
   have hb1 : endL lnNo (xs.take (i + 1)) m ≤ 100000000 := by have := HM.out; unfold endL; omega
   clear hes hle
   obtain ⟨y, hy⟩ : ∃ y, xs[i] = y := ⟨_, rfl⟩
   obtain ⟨q0, hq⟩ : ∃ q, endL lnNo (xs.take i) m = q := ⟨_, rfl⟩
   rw [hy, hq] at ex
   rw [hy, hq] at hen
   rw [hq]
   rw [ex, Int.toNat_natCast] at x0
   rw [ex] at hl0 hi0 hl1 hi1 hl4 hi4 hl7 hi7 x1 x2 x3 x4 x5 x6 x7
   cases eA
   clear hq ex hy ci2
   unfold mkNo at x0 x1 x2 x3 x4 x5 x6 x7 hl0 hi0 hl1 hi1 hl4 hi4 hl7 hi7
   simp only [marksB_length, marksU_length, markL_length] at x0 x1 x2 x3 x4 x5 x6 x7
   try rw [Int.toNat_natCast] at x1
   try rw [Int.toNat_natCast] at x2
   try rw [Int.toNat_natCast] at x3
   try rw [Int.toNat_natCast] at x4
   try rw [Int.toNat_natCast] at x5
   try rw [Int.toNat_natCast] at x6
   try rw [Int.toNat_natCast] at x7
   have hal : ∀ {a : Addr} {z : Value}, w.cell? a = some z → wr.cell? a = some z := fun hz => (HB.out.cell (World.block_lt_of_cell? w _ hz)).trans hz
   replace x0 := hal x0
   replace x1 := hal x1
   replace x2 := hal x2
   replace x3 := hal x3
   replace x4 := hal x4
   replace x5 := hal x5
   replace x6 := hal x6
   replace x7 := hal x7
   clear hal
   obtain ⟨q1, e0⟩ : ∃ q, q0 + y.f0.length = q := ⟨_, rfl⟩
   obtain ⟨q2, e1⟩ : ∃ q, q1 + y.f1.length = q := ⟨_, rfl⟩
   obtain ⟨q3, e2⟩ : ∃ q, q2 + 1 = q := ⟨_, rfl⟩
   obtain ⟨q4, e3⟩ : ∃ q, q3 + 1 = q := ⟨_, rfl⟩
   obtain ⟨q5, e4⟩ : ∃ q, q4 + y.f4.length = q := ⟨_, rfl⟩
   obtain ⟨q6, e5⟩ : ∃ q, q5 + 1 = q := ⟨_, rfl⟩
   obtain ⟨q7, e6⟩ : ∃ q, q6 + 1 = q := ⟨_, rfl⟩
   obtain ⟨q8, e7⟩ : ∃ q, q7 + y.f7.length = q := ⟨_, rfl⟩
   have hlast : q8 = endL lnNo (xs.take (i + 1)) m := by rw [← hen]; unfold lnNo; omega
   rw [← hlast] at hb1
   have hp : q1 = q0 + y.f0.length ∧ q2 = q1 + y.f1.length ∧ q3 = q2 + 1 ∧ q4 = q3 + 1 ∧ q5 = q4 + y.f4.length ∧ q6 = q5 + 1 ∧ q7 = q6 + 1 ∧ q8 = q7 + y.f7.length := ⟨e0.symm, e1.symm, e2.symm, e3.symm, e4.symm, e5.symm, e6.symm, e7.symm⟩
   rw [show q0 + y.f0.length = q1 by omega] at hl1 hi1
   rw [show q0 + y.f0.length + y.f1.length = q2 by omega] at x2
   rw [show q0 + y.f0.length + y.f1.length + 1 = q3 by omega] at x3
   rw [show q0 + y.f0.length + y.f1.length + 2 = q4 by omega] at hl4 hi4
   rw [show q0 + y.f0.length + y.f1.length + 2 + y.f4.length = q5 by omega] at x5
   rw [show q0 + y.f0.length + y.f1.length + 3 + y.f4.length = q6 by omega] at x6
   rw [show q0 + y.f0.length + y.f1.length + 4 + y.f4.length = q7 by omega] at hl7 hi7
   have K0 := Aside0.mk (fun (W : World) (hW : Below w.heap.size w W) => heldByteS_m A0 a0 y.f0.length q0 q1 W (Kd.C_below hi0 hW) hl0 (by omega) e0)
   have n1 : decide ((q1 : Int) < 0) = false := decide_eq_false (by omega)
   have K1 := Aside0.mk (fun (W : World) (hW : Below w.heap.size w W) => heldByteS_m A1 a1 y.f1.length q1 q2 W (Kd.C_below hi1 hW) hl1 (by omega) e1)
   have n2 : decide ((q2 : Int) < 0) = false := decide_eq_false (by omega)
   have w2 : q2 < 9223372036854775807 := by omega
   have z2 : q2 ≤ 140737488355328 := by omega
   have w3 : q3 < 9223372036854775807 := by omega
   have K4 := Aside0.mk (fun (W : World) (hW : Below w.heap.size w W) => heldUint64S_m A4 a4 y.f4.length q4 q5 W (Kd.C_below hi4 hW) hl4 (by omega) e4)
   have n5 : decide ((q5 : Int) < 0) = false := decide_eq_false (by omega)
   have w5 : q5 < 9223372036854775807 := by omega
   have z5 : q5 ≤ 140737488355328 := by omega
   have w6 : q6 < 9223372036854775807 := by omega
   have z6 : q6 ≤ 140737488355328 := by omega
   have K7 := Aside0.mk (fun (W : World) (hW : Below w.heap.size w W) => heldUint64S_m A7 a7 y.f7.length q7 q8 W (Kd.C_below hi7 hW) hl7 (by omega) e7)
   have n8 : decide ((q8 : Int) < 0) = false := decide_eq_false (by omega)
   have HJ2 := Aside0.mk (show i + 1 ≤ xs.length by omega)
   have u2 : IntKind.u64.wrap (q2 : Int) = (q2 : Int) := u64_id _ z2
   clear z2
   have v2 : IntKind.i64.wrap ((q2 : Int) + 1) = (q3 : Int) := (i64_w _).trans ((wrap_upL _ w2).trans (by rw [← e2]))
   have vv2 : wrap64 ((q2 : Int) + 1) = (q3 : Int) := (wrap_upL _ w2).trans (by rw [← e2])
   clear w2
   have v3 : IntKind.i64.wrap ((q3 : Int) + 1) = (q4 : Int) := (i64_w _).trans ((wrap_upL _ w3).trans (by rw [← e3]))
   have vv3 : wrap64 ((q3 : Int) + 1) = (q4 : Int) := (wrap_upL _ w3).trans (by rw [← e3])
   clear w3
   have u5 : IntKind.u64.wrap (q5 : Int) = (q5 : Int) := u64_id _ z5
   clear z5
   have v5 : IntKind.i64.wrap ((q5 : Int) + 1) = (q6 : Int) := (i64_w _).trans ((wrap_upL _ w5).trans (by rw [← e5]))
   have vv5 : wrap64 ((q5 : Int) + 1) = (q6 : Int) := (wrap_upL _ w5).trans (by rw [← e5])
   clear w5
   have u6 : IntKind.u64.wrap (q6 : Int) = (q6 : Int) := u64_id _ z6
   clear z6
   have v6 : IntKind.i64.wrap ((q6 : Int) + 1) = (q7 : Int) := (i64_w _).trans ((wrap_upL _ w6).trans (by rw [← e6]))
   have vv6 : wrap64 ((q6 : Int) + 1) = (q7 : Int) := (wrap_upL _ w6).trans (by rw [← e6])
   clear w6
   have HLA := Aside0.mk hlast
   clear hen hb1 hlast hp e0 e1 e2 e3 e4 e5 e6 e7 hl0 hi0 hl1 hi1 hl4 hi4 hl7 hi7
   go_wp2_with fail
   refine (K0.out _ HB.out).mono ?_
   rintro r W1 ⟨rfl, hb⟩
   replace x1 := (hb.cell (World.block_lt_of_cell? _ _ x1)).trans x1
   replace x2 := (hb.cell (World.block_lt_of_cell? _ _ x2)).trans x2
   replace x3 := (hb.cell (World.block_lt_of_cell? _ _ x3)).trans x3
   replace x4 := (hb.cell (World.block_lt_of_cell? _ _ x4)).trans x4
   replace x5 := (hb.cell (World.block_lt_of_cell? _ _ x5)).trans x5
   replace x6 := (hb.cell (World.block_lt_of_cell? _ _ x6)).trans x6
   replace x7 := (hb.cell (World.block_lt_of_cell? _ _ x7)).trans x7
   replace HB := Aside0.mk (below_step HB.out hb)
   clear hb x0 K0
   go_wp2_with fail
   refine (K1.out _ HB.out).mono ?_
   rintro r W2 ⟨rfl, hb⟩
   replace x2 := (hb.cell (World.block_lt_of_cell? _ _ x2)).trans x2
   replace x3 := (hb.cell (World.block_lt_of_cell? _ _ x3)).trans x3
   replace x4 := (hb.cell (World.block_lt_of_cell? _ _ x4)).trans x4
   replace x5 := (hb.cell (World.block_lt_of_cell? _ _ x5)).trans x5
   replace x6 := (hb.cell (World.block_lt_of_cell? _ _ x6)).trans x6
   replace x7 := (hb.cell (World.block_lt_of_cell? _ _ x7)).trans x7
   replace HB := Aside0.mk (below_step HB.out hb)
   clear hb x1 K1
   go_wp2_with fail
   refine (K4.out _ HB.out).mono ?_
   rintro r W3 ⟨rfl, hb⟩
   replace x5 := (hb.cell (World.block_lt_of_cell? _ _ x5)).trans x5
   replace x6 := (hb.cell (World.block_lt_of_cell? _ _ x6)).trans x6
   replace x7 := (hb.cell (World.block_lt_of_cell? _ _ x7)).trans x7
   replace HB := Aside0.mk (below_step HB.out hb)
   clear hb x4 K4
   go_wp2_with fail
   refine (K7.out _ HB.out).mono ?_
   rintro r W4 ⟨rfl, hb⟩
   replace HB := Aside0.mk (below_step HB.out hb)
   clear hb x7 K7
   go_wp2_with fail
   clear u2 v2 vv2 v3 vv3 u5 v5 vv5 u6 v6 vv6
   have hxb := HX.out
   have hj3 := HJ2.out
   go_roundg k1
   case measure => omega
   case rel => exact ⟨i + 1, by rw [HLA.out], by first | exact congrArg (Value.int .i64) (wrap_upL i (by omega)) | exact congrArg (Value.int .i64) ((i64_w _).trans (wrap_upL i (by omega))), ⟨⟨by omega, by omega⟩⟩, HB⟩
  ·
   have c1 : decide ((i : Int) < (xs.length : Int)) = false := decide_eq_false (by omega)
   have c2 : decide (i < xs.length) = false := decide_eq_false hj
   go_wp2_with fail
   go_ret
   refine ⟨?_, HB.out⟩
   rw [show endL lnNo (xs.take i) m = e by rw [List.take_of_length_le (by omega)]; exact HE.out]
   rfl
set_option maxHeartbeats 4000000 in
set_option maxRecDepth 100000 in
theorem heldState_m (e g n t : Int) (As : Option Addr) (cs : Nat) (xs : List Se) (An : Option Addr) (cn : Nat) (ns : List No) (m : Nat) (w : World) (h1 : Kd.C kSe w As (markL mkSe lnSe xs m).length (markL mkSe lnSe xs m)) (k1 : (markL mkSe lnSe xs m).length ≤ cs) (h2 : Kd.C kNo w An (markL mkNo lnNo ns (m + sumL lnSe xs)).length (markL mkNo lnNo ns (m + sumL lnSe xs))) (k2 : (markL mkNo lnNo ns (m + sumL lnSe xs)).length ≤ cn) (hm : m + sumL lnSe xs + sumL lnNo ns ≤ 100000000) :
  Calls Tryd.prog 30 #[.agg #[.int .u64 e, .int .u64 g, .int .u64 n, .int .i64 t, .slice As xs.length cs, .slice An ns.length cn], .int .i64 m] w fun r w' => r = .returned (.int .i64 ((m + sumL lnSe xs + sumL lnNo ns : Nat) : Int)) ∧ Below w.heap.size w w' := by
 obtain ⟨q1, e1⟩ : ∃ q, m + sumL lnSe xs = q := ⟨_, rfl⟩
 rw [e1] at h2 k2 hm ⊢
 obtain ⟨q2, e2⟩ : ∃ q, q1 + sumL lnNo ns = q := ⟨_, rfl⟩
 rw [e2] at hm ⊢
 have K1 := Aside0.mk (fun (W : World) (hW : Below w.heap.size w W) => heldSessionS_m As cs xs m q1 W (Kd.C_below h1 hW) k1 (by omega) e1)
 have K2 := Aside0.mk (fun (W : World) (hW : Below w.heap.size w W) => heldNodeS_m An cn ns q1 q2 W (Kd.C_below h2 hW) k2 (by omega) e2)
 have n1 : decide ((q1 : Int) < 0) = false := decide_eq_false (by omega)
 have n2 : decide ((q2 : Int) < 0) = false := decide_eq_false (by omega)
 clear h1 k1 h2 k2 hm e1 e2
 go_enter Tryd.func30, Tryd.ntmps30
 go_upto_region 1 with (fail)
 have bs := blk_new w (.cells #[.int .u64 e, .int .u64 g, .int .u64 n, .int .i64 t, .slice As xs.length cs, .slice An ns.length cn] 36)
 have hB := below_alloc (Below.refl w.heap.size w) (.cells #[.int .u64 e, .int .u64 g, .int .u64 n, .int .i64 t, .slice As xs.length cs, .slice An ns.length cn] 36)
 generalize w.alloc (.cells #[.int .u64 e, .int .u64 g, .int .u64 n, .int .i64 t, .slice As xs.length cs, .slice An ns.length cn] 36) = W0 at *
 have BS := Aside0.mk bs
 have HB := Aside0.mk hB
 clear bs hB
 obtain ⟨s0, s1, s2, s3, s4, s5⟩ := cells6 BS.out
 go_wp2_with fail
 refine (K1.out _ HB.out).mono ?_
 rintro r W1 ⟨rfl, hb⟩
 clear s0 s1 s2 s3 s4 s5
 replace BS := Aside0.mk (blk_below BS.out hb)
 replace HB := Aside0.mk (below_step HB.out hb)
 clear hb
 obtain ⟨s0, s1, s2, s3, s4, s5⟩ := cells6 BS.out
 go_wp2_with fail
 refine (K2.out _ HB.out).mono ?_
 rintro r W2 ⟨rfl, hb⟩
 clear s0 s1 s2 s3 s4 s5
 replace HB := Aside0.mk (below_step HB.out hb)
 clear hb BS
 go_wp2_with fail
 go_ret
 exact ⟨rfl, HB.out⟩
theorem heldState_sk (w0 : World) (lo hi : Nat) (e g n t : Int) (As : Option Addr) (cs : Nat) (xs : List Se) (An : Option Addr) (cn : Nat) (ns : List No) (m : Nat) (w : World) (h : SK w0 w lo hi As cs (markL mkSe lnSe xs m) An cn (markL mkNo lnNo ns (m + sumL lnSe xs))) (hm : m + sumL lnSe xs + sumL lnNo ns ≤ 100000000) :
  Calls Tryd.prog 30 #[.agg #[.int .u64 e, .int .u64 g, .int .u64 n, .int .i64 t, .slice As xs.length cs, .slice An ns.length cn], .int .i64 m] w fun r w' => r = .returned (.int .i64 ((m + sumL lnSe xs + sumL lnNo ns : Nat) : Int)) ∧ Below w.heap.size w w' :=
 heldState_m e g n t As cs xs An cn ns m w h.reads.1.1 h.reads.1.2 h.reads.2.1 h.reads.2.2 hm
theorem toByteS_bk (k : Nat) (w0 : World) (A : Option Addr) (c : Nat) (l : List Int) (w : World) (hB : Below w0.heap.size w0 w) (h0 : Kd.C (Kd.int .u8) w A l.length l) (hc : l.length ≤ c) (hl : l.length ≤ 2097152) (hk : 2097152 < k) :
  Calls Tryd.prog 10 #[.slice A l.length c] w fun e w' => ∃ B d, e = .returned (.slice B l.length d) ∧ BK w0 w' w.heap.size w'.heap.size B d l ∧ Below w.heap.size w w' := by
 refine (laws_toByteS.calls k A c l l w h0 hc (toByteS_f l (by omega) k (by omega))).mono ?_
 rintro e w' ⟨v, rfl, hr, hb⟩
 obtain ⟨B, d, rfl⟩ := Kd.R_slice hr
 exact ⟨B, d, rfl, BK.of hr hB, hb⟩
set_option maxHeartbeats 4000000 in
set_option maxRecDepth 100000 in
theorem FnExactDecodeState_walk (HV : ValIC) (A : Option Addr) (c : Nat) (l : List Int) (w : World) (h0 : Kd.C (Kd.int .u8) w A l.length l) (hc : l.length ≤ c) (hbr : ∀ x ∈ l, 0 ≤ x ∧ x < 256) (gl : l.length ≤ 140737488351232) :
  Calls Tryd.prog 7 #[.slice A l.length c] w fun e w' => e = .returned (.bool true) ∧ Below w.heap.size w w' := by
 have R0 := Aside0.mk h0
 have BR := Aside0.mk hbr
 clear h0 hbr
 go_enter Tryd.func7, Tryd.ntmps7
 by_cases hbl : l.length ≤ 1048576
 case neg =>
  go_wp2_with fail
  go_ret
  exact ⟨rfl, by repeat (first | exact Below.refl _ _ | apply below_alloc)⟩
 have SP := fun A c W hB h0 hc => spec_DecodeState_ok w A c l W hB h0 hc (by omega) BR.out
 have IM := fun A c W hB h0 hc => impl_DecodeState_ok HV w A c l W hB h0 hc (by omega) BR.out
 unfold DecAns at SP IM
 have hok := decA_ok BR.out (show l.length ≤ 2097152 by omega)
 generalize decA l = y at SP IM hok
 obtain ⟨⟨e, g, n, I, N⟩, d⟩ := y
 simp only at SP IM hok
 generalize I.map seI = X at SP IM hok
 have SP := Aside0.mk SP
 have IM := Aside0.mk IM
 have EQ := Aside0.mk (eqB_of hok.s)
 have hsum : 1 + sumL lnSe X + sumL lnNo N ≤ 100000000 := by have := hok.m; omega
 have MK := Aside0.mk (fun (lo hi : Nat) (As : Option Addr) (cs : Nat) (An : Option Addr) (cn : Nat) (W : World) (hB : Below w.heap.size w W) (h : SK w W lo hi As cs X An cn N) => markState_sk 1 w lo hi e g n 0 As cs X An cn N W hB h hsum)
 have HD := Aside0.mk (fun (lo hi : Nat) (As : Option Addr) (cs : Nat) (An : Option Addr) (cn : Nat) (W : World) (h : SK w W lo hi As cs (markL mkSe lnSe X 1) An cn (markL mkNo lnNo N (1 + sumL lnSe X))) => heldState_sk w lo hi e g n 0 As cs X An cn N 1 W h hsum)
 obtain ⟨mm, hmm⟩ : ∃ m, 1 + sumL lnSe X + sumL lnNo N = m := ⟨_, rfl⟩
 rw [hmm] at MK HD hsum
 have hneg3 : decide ((mm : Int) < 0) = false := decide_eq_false (by omega)
 clear hmm hsum hok
 have HB := Aside0.mk (Below.refl w.heap.size w)
 go_wp2_with fail
 refine (toByteS_bk 3000000 w A c l _ HB.out (Kd.C_below R0.out HB.out) hc (by omega) (by omega)).mono ?_
 rintro e w1 ⟨T, tc, rfl, hd, hb⟩
 replace HB := Aside0.mk (below_step HB.out hb)
 have s1 := hb.size
 clear hb
 (try simp only [World.size_alloc] at hd)
 have DT := Aside0.mk hd
 clear hd
 go_wp2_with fail
 refine (SP.out T tc _ HB.out DT.out.reads.1 DT.out.reads.2).mono ?_
 rintro e w2 ⟨Ws, Wsc, Wn, Wnc, rfl, hd, hb⟩
 clear DT
 replace HB := Aside0.mk (below_step HB.out hb)
 have s2 := hb.size
 clear hb
 (try simp only [World.size_alloc] at hd)
 have DW := Aside0.mk hd
 clear hd
 go_wp2_with fail
 have hba := below_alloc (Below.refl w2.heap.size w2) (.cells #[.int .u64 e, .int .u64 g, .int .u64 n, .int .i64 0, (.slice Ws X.length Wsc), (.slice Wn N.length Wnc)] 36)
 have NB := Aside0.mk (blk_new w2 (.cells #[.int .u64 e, .int .u64 g, .int .u64 n, .int .i64 0, (.slice Ws X.length Wsc), (.slice Wn N.length Wnc)] 36))
 refine (toByteS_bk 3000000 w A c l _ (below_step HB.out hba) (Kd.C_below R0.out (below_step HB.out hba)) hc (by omega) (by omega)).mono ?_
 rintro e w3 ⟨X0, xc, rfl, hd, hb⟩
 replace DW := Aside0.mk ((DW.out.below hba).below hb)
 replace HB := Aside0.mk (below_step (below_step HB.out hba) hb)
 have BW := Aside0.mk (blk_below NB.out hb)
 clear NB
 have s3 := hb.size
 simp only [World.size_alloc] at s3
 clear hb hba
 (try simp only [World.size_alloc] at hd)
 have DX := Aside0.mk hd
 clear hd
 go_wp2_with fail
 refine (IM.out X0 xc _ HB.out DX.out.reads.1 DX.out.reads.2).mono ?_
 rintro e w4 ⟨Gs, Gsc, Gn, Gnc, rfl, hd, hb⟩
 replace BW := Aside0.mk (blk_below BW.out hb)
 replace DW := Aside0.mk (DW.out.below hb)
 replace DX := Aside0.mk (DX.out.below hb)
 replace HB := Aside0.mk (below_step HB.out hb)
 have s4 := hb.size
 clear hb
 (try simp only [World.size_alloc] at hd)
 have DG := Aside0.mk hd
 clear hd
 have z1_l := blk_lt BW.out
 obtain ⟨z1_0, z1_1, z1_2, z1_3, z1_4, z1_5⟩ := cells6 BW.out
 go_wp2_with fail
 have hba := below_alloc (Below.refl w4.heap.size w4) (.cells #[.int .u64 e, .int .u64 g, .int .u64 n, .int .i64 0, (.slice Gs X.length Gsc), (.slice Gn N.length Gnc)] 36)
 have NB := Aside0.mk (blk_new w4 (.cells #[.int .u64 e, .int .u64 g, .int .u64 n, .int .i64 0, (.slice Gs X.length Gsc), (.slice Gn N.length Gnc)] 36))
 refine (eqState_same e g n 0 X N Gs Gsc Ws Wsc Gn Gnc Wn Wnc _ (DG.out.below hba).reads.1.1 (DG.out.below hba).reads.1.2 (DW.out.below hba).reads.1.1 (DW.out.below hba).reads.1.2 EQ.out.1 (DG.out.below hba).reads.2.1 (DG.out.below hba).reads.2.2 (DW.out.below hba).reads.2.1 (DW.out.below hba).reads.2.2 EQ.out.2).mono ?_
 rintro e w5 ⟨rfl, hb⟩
 replace BW := Aside0.mk (blk_below (blk_below BW.out hba) hb)
 replace DW := Aside0.mk ((DW.out.below hba).below hb)
 replace DX := Aside0.mk ((DX.out.below hba).below hb)
 replace DG := Aside0.mk ((DG.out.below hba).below hb)
 replace HB := Aside0.mk (below_step (below_step HB.out hba) hb)
 have BG := Aside0.mk (blk_below NB.out hb)
 clear NB
 have s5 := hb.size
 simp only [World.size_alloc] at s5
 clear hb hba
 clear z1_l z1_0 z1_1 z1_2 z1_3 z1_4 z1_5
 go_wp2_with fail
 refine (toByteS_bk 3000000 w A c l _ HB.out (Kd.C_below R0.out HB.out) hc (by omega) (by omega)).mono ?_
 rintro e w6 ⟨V0, vc, rfl, hd, hb⟩
 replace BW := Aside0.mk (blk_below BW.out hb)
 replace BG := Aside0.mk (blk_below BG.out hb)
 replace DW := Aside0.mk (DW.out.below hb)
 replace DX := Aside0.mk (DX.out.below hb)
 replace DG := Aside0.mk (DG.out.below hb)
 replace HB := Aside0.mk (below_step HB.out hb)
 have s6 := hb.size
 clear hb
 (try simp only [World.size_alloc] at hd)
 have DV := Aside0.mk hd
 clear hd
 go_wp2_with fail
 refine (eqByteS_bk 200000000 w w _ _ _ _ X0 xc l V0 vc _ DX.out DV.out (by omega) (by omega)).mono ?_
 rintro e w7 ⟨rfl, hb⟩
 clear DV
 replace BW := Aside0.mk (blk_below BW.out hb)
 replace BG := Aside0.mk (blk_below BG.out hb)
 replace DW := Aside0.mk (DW.out.below hb)
 replace DX := Aside0.mk (DX.out.below hb)
 replace DG := Aside0.mk (DG.out.below hb)
 replace HB := Aside0.mk (below_step HB.out hb)
 have s7 := hb.size
 clear hb
 have bw_ := blk_lt BW.out
 have bg_ := blk_lt BG.out
 go_wp2_with fail
 refine (markByteS_bk 200000000 1 w _ _ X0 xc l _ HB.out DX.out (by omega) (by omega) (by omega)).mono ?_
 rintro e w8 ⟨rfl, hd, hb, hk⟩
 replace BW := Aside0.mk (blk_kept BW.out hk (by intro h; omega))
 replace BG := Aside0.mk (blk_kept BG.out hk (by intro h; omega))
 replace DW := Aside0.mk (DW.out.kept hk (by intro k h1 h2 h3; omega))
 replace DG := Aside0.mk (DG.out.kept hk (by intro k h1 h2 h3; omega))
 replace HB := Aside0.mk hb
 have s8 := hk.1
 replace DX := Aside0.mk hd
 clear hb hk hd
 generalize hm2 : 1 + l.length = m2
 have hneg : decide ((m2 : Int) < 0) = false := decide_eq_false (by omega)
 clear DX bw_ bg_
 have z2_l := blk_lt BW.out
 obtain ⟨z2_0, z2_1, z2_2, z2_3, z2_4, z2_5⟩ := cells6 BW.out
 have z3_l := blk_lt BG.out
 obtain ⟨z3_0, z3_1, z3_2, z3_3, z3_4, z3_5⟩ := cells6 BG.out
 go_wp2_with fail
 refine (eqState_same e g n 0 X N Gs Gsc Ws Wsc Gn Gnc Wn Wnc _ (DG.out).reads.1.1 (DG.out).reads.1.2 (DW.out).reads.1.1 (DW.out).reads.1.2 EQ.out.1 (DG.out).reads.2.1 (DG.out).reads.2.2 (DW.out).reads.2.1 (DW.out).reads.2.2 EQ.out.2).mono ?_
 rintro e w9 ⟨rfl, hb⟩
 replace BW := Aside0.mk (blk_below BW.out hb)
 replace BG := Aside0.mk (blk_below BG.out hb)
 replace DW := Aside0.mk (DW.out.below hb)
 replace DG := Aside0.mk (DG.out.below hb)
 replace HB := Aside0.mk (below_step HB.out hb)
 have s9 := hb.size
 clear hb
 clear z2_l z2_0 z2_1 z2_2 z2_3 z2_4 z2_5 z3_l z3_0 z3_1 z3_2 z3_3 z3_4 z3_5
 have bw_ := blk_lt BW.out
 have bg_ := blk_lt BG.out
 have z4_l := blk_lt BG.out
 obtain ⟨z4_0, z4_1, z4_2, z4_3, z4_4, z4_5⟩ := cells6 BG.out
 go_wp2_with fail
 refine (MK.out _ _ Gs Gsc Gn Gnc _ HB.out DG.out).mono ?_
 rintro e w10 ⟨rfl, hd, hb, hk⟩
 replace BW := Aside0.mk (blk_kept BW.out hk (by intro h; omega))
 replace BG := Aside0.mk (blk_kept BG.out hk (by intro h; omega))
 replace DW := Aside0.mk (DW.out.kept hk (by intro k h1 h2 h3; omega))
 replace HB := Aside0.mk hb
 have s10 := hk.1
 replace DG := Aside0.mk hd
 clear hb hk hd
 clear z4_l z4_0 z4_1 z4_2 z4_3 z4_4 z4_5
 clear bw_ bg_
 have z5_l := blk_lt BG.out
 obtain ⟨z5_0, z5_1, z5_2, z5_3, z5_4, z5_5⟩ := cells6 BG.out
 go_wp2_with fail
 refine (HD.out _ _ Gs Gsc Gn Gnc _ DG.out).mono ?_
 rintro e w11 ⟨rfl, hb⟩
 replace BW := Aside0.mk (blk_below BW.out hb)
 replace BG := Aside0.mk (blk_below BG.out hb)
 replace DW := Aside0.mk (DW.out.below hb)
 replace DG := Aside0.mk (DG.out.below hb)
 replace HB := Aside0.mk (below_step HB.out hb)
 have s11 := hb.size
 clear hb
 clear z5_l z5_0 z5_1 z5_2 z5_3 z5_4 z5_5
 go_wp2_with fail
 refine (toByteS_bk 3000000 w A c l _ HB.out (Kd.C_below R0.out HB.out) hc (by omega) (by omega)).mono ?_
 rintro e w12 ⟨T, tc, rfl, hd, hb⟩
 replace BW := Aside0.mk (blk_below BW.out hb)
 replace BG := Aside0.mk (blk_below BG.out hb)
 replace DW := Aside0.mk (DW.out.below hb)
 replace DG := Aside0.mk (DG.out.below hb)
 replace HB := Aside0.mk (below_step HB.out hb)
 have s12 := hb.size
 clear hb
 (try simp only [World.size_alloc] at hd)
 have DT := Aside0.mk hd
 clear hd
 go_wp2_with fail
 refine (IM.out T tc _ HB.out DT.out.reads.1 DT.out.reads.2).mono ?_
 rintro e w13 ⟨Hs, Hsc, Hn, Hnc, rfl, hd, hb⟩
 clear DT
 replace BW := Aside0.mk (blk_below BW.out hb)
 replace BG := Aside0.mk (blk_below BG.out hb)
 replace DW := Aside0.mk (DW.out.below hb)
 replace DG := Aside0.mk (DG.out.below hb)
 replace HB := Aside0.mk (below_step HB.out hb)
 have s13 := hb.size
 clear hb
 (try simp only [World.size_alloc] at hd)
 have DH := Aside0.mk hd
 clear hd
 have z6_l := blk_lt BW.out
 obtain ⟨z6_0, z6_1, z6_2, z6_3, z6_4, z6_5⟩ := cells6 BW.out
 go_wp2_with fail
 have hba := below_alloc (Below.refl w13.heap.size w13) (.cells #[.int .u64 e, .int .u64 g, .int .u64 n, .int .i64 0, (.slice Hs X.length Hsc), (.slice Hn N.length Hnc)] 36)
 have NB := Aside0.mk (blk_new w13 (.cells #[.int .u64 e, .int .u64 g, .int .u64 n, .int .i64 0, (.slice Hs X.length Hsc), (.slice Hn N.length Hnc)] 36))
 refine (eqState_same e g n 0 X N Hs Hsc Ws Wsc Hn Hnc Wn Wnc _ (DH.out.below hba).reads.1.1 (DH.out.below hba).reads.1.2 (DW.out.below hba).reads.1.1 (DW.out.below hba).reads.1.2 EQ.out.1 (DH.out.below hba).reads.2.1 (DH.out.below hba).reads.2.2 (DW.out.below hba).reads.2.1 (DW.out.below hba).reads.2.2 EQ.out.2).mono ?_
 rintro e w14 ⟨rfl, hb⟩
 replace BW := Aside0.mk (blk_below (blk_below BW.out hba) hb)
 replace BG := Aside0.mk (blk_below (blk_below BG.out hba) hb)
 replace DW := Aside0.mk ((DW.out.below hba).below hb)
 replace DG := Aside0.mk ((DG.out.below hba).below hb)
 replace DH := Aside0.mk ((DH.out.below hba).below hb)
 replace HB := Aside0.mk (below_step (below_step HB.out hba) hb)
 have BH := Aside0.mk (blk_below NB.out hb)
 clear NB
 have s14 := hb.size
 simp only [World.size_alloc] at s14
 clear hb hba
 clear z6_l z6_0 z6_1 z6_2 z6_3 z6_4 z6_5
 have z7_l := blk_lt BG.out
 obtain ⟨z7_0, z7_1, z7_2, z7_3, z7_4, z7_5⟩ := cells6 BG.out
 go_wp2_with fail
 refine (HD.out _ _ Gs Gsc Gn Gnc _ DG.out).mono ?_
 rintro e w15 ⟨rfl, hb⟩
 replace BW := Aside0.mk (blk_below BW.out hb)
 replace BG := Aside0.mk (blk_below BG.out hb)
 replace BH := Aside0.mk (blk_below BH.out hb)
 replace DW := Aside0.mk (DW.out.below hb)
 replace DG := Aside0.mk (DG.out.below hb)
 replace DH := Aside0.mk (DH.out.below hb)
 replace HB := Aside0.mk (below_step HB.out hb)
 have s15 := hb.size
 clear hb
 clear z7_l z7_0 z7_1 z7_2 z7_3 z7_4 z7_5
 go_wp2_with fail
 go_ret
 exact ⟨rfl, HB.out⟩
def impl_headOk.f (a0_0 : Int) (a0_1 : Int) (a0_2 : Int) (a0_3 : Int) (l0_4 : List (S70)) (l0_5 : List (S76)) : Option (Bool) := if a0_0 ≤ 4611686018427387904 then (if a0_1 ≤ 4611686018427387904 then (if a0_2 ≤ 4611686018427387904 then (if a0_3 ≥ 0 then (if a0_3 ≤ 1000000 then (if (l0_4.length : Int) ≤ 50 then (some (decide ((l0_5.length : Int) ≤ 200))) else (some false)) else (some false)) else (some false)) else (some false)) else (some false)) else (some false)
set_option maxHeartbeats 8000000 in
set_option maxRecDepth 100000 in
theorem impl_headOk.calls (a0_0 : Int) (a0_1 : Int) (a0_2 : Int) (a0_3 : Int) (A0_4 : Option Addr) (c0_4 : Nat) (l0_4 : List (S70)) (A0_5 : Option Addr) (c0_5 : Nat) (l0_5 : List (S76)) (r : Bool) (w : World) (hr0_4 : Kd.C k70 w A0_4 l0_4.length l0_4) (hc0_4 : l0_4.length ≤ c0_4) (hr0_5 : Kd.C k76 w A0_5 l0_5.length l0_5) (hc0_5 : l0_5.length ≤ c0_5) (h : impl_headOk.f a0_0 a0_1 a0_2 a0_3 l0_4 l0_5 = some r) :
  Calls Tryd.prog 47 #[.agg #[.int .u64 a0_0, .int .u64 a0_1, .int .u64 a0_2, .int .i64 a0_3, .slice A0_4 l0_4.length c0_4, .slice A0_5 l0_5.length c0_5]] w fun e w' => e = .returned (.bool r) ∧ Below w.heap.size w w' := by
 have hu36 := Tryd.underlying36
 have HR0_4 := Aside0.mk hr0_4
 have HC0_4 := Aside0.mk hc0_4
 clear hr0_4 hc0_4
 have HR0_5 := Aside0.mk hr0_5
 have HC0_5 := Aside0.mk hc0_5
 clear hr0_5 hc0_5
 have HB := Aside0.mk (Below.refl w.heap.size w)
 have H : (if a0_0 ≤ 4611686018427387904 then (if a0_1 ≤ 4611686018427387904 then (if a0_2 ≤ 4611686018427387904 then (if a0_3 ≥ 0 then (if a0_3 ≤ 1000000 then (if (l0_4.length : Int) ≤ 50 then (some (decide ((l0_5.length : Int) ≤ 200))) else (some false)) else (some false)) else (some false)) else (some false)) else (some false)) else (some false)) = some r := h
 clear h
 by_cases c2 : a0_0 ≤ 4611686018427387904
 ·
  rw [if_pos c2] at H
  have c2b0 : decide (a0_0 ≤ 4611686018427387904) = true := decide_eq_true c2
  clear c2
  by_cases c3 : a0_1 ≤ 4611686018427387904
  ·
   rw [if_pos c3] at H
   have c3b0 : decide (a0_1 ≤ 4611686018427387904) = true := decide_eq_true c3
   clear c3
   by_cases c4 : a0_2 ≤ 4611686018427387904
   ·
    rw [if_pos c4] at H
    have c4b0 : decide (a0_2 ≤ 4611686018427387904) = true := decide_eq_true c4
    clear c4
    by_cases c5 : a0_3 ≥ 0
    ·
     rw [if_pos c5] at H
     have c5b0 : decide (0 ≤ a0_3) = true := decide_eq_true c5
     clear c5
     by_cases c6 : a0_3 ≤ 1000000
     ·
      rw [if_pos c6] at H
      have c6b0 : decide (a0_3 ≤ 1000000) = true := decide_eq_true c6
      clear c6
      by_cases c7 : (l0_4.length : Int) ≤ 50
      ·
       rw [if_pos c7] at H
       have c7b0 : decide ((l0_4.length : Int) ≤ 50) = true := decide_eq_true c7
       have c7b1 : decide (l0_4.length ≤ 50) = true := decide_eq_true (by omega)
       clear c7
       obtain rfl := Option.some.inj H
       go_enter Tryd.func47, Tryd.ntmps47
       go_wp2_with (first | ((with_reducible refine gate_dst (N := 1) rfl ?_); (try (refine gate_guard (by rfl) ?_; dsimp only)); refine box_event ?hg (N := 1) ?hd (cs := #[.int .u64 a0_0, .int .u64 a0_1, .int .u64 a0_2, .int .i64 a0_3, .slice A0_4 l0_4.length c0_4, .slice A0_5 l0_5.length c0_5]) (t := 36) ?hr ?_; (case hd => rfl); (case hg => rfl); (case hr => first | (go_simp; done) | (go_simp; rfl)); intro gb242 hg w8 hbox hb; have n0_ := Aside0.mk (below_step (by repeat (first | (with_reducible first | exact HB.out | apply below_alloc | apply pw_below_drewN | apply below_drew1) | exact HB.out)) hb); have n1_ := Aside0.mk (hbox); have n2_ := Aside0.mk ((by rw [hg]; exact (below_size (by repeat (first | (with_reducible first | exact HB.out | apply below_alloc | apply pw_below_drewN | apply below_drew1) | exact HB.out))) : w.heap.size ≤ gb242)); have n3_ := Aside0.mk ((by rw [hg]; exact (below_size (by repeat (first | (with_reducible first | exact HB.out | apply below_alloc | apply pw_below_drewN | apply below_drew1) | exact HB.out))) : w.heap.size ≤ gb242)); clear HB; have HB := n0_; have BK242 := n1_; have GW242 := n2_; have GE242 := n3_; clear n0_ n1_ n2_ n3_; clear hb hbox hg; have hcz9_0 : w8.cell? ⟨gb242, 0, none⟩ = some (.int .u64 a0_0) := (blk_cell BK242.out 0).trans rfl; have hcz9_1 : w8.cell? ⟨gb242, 1, none⟩ = some (.int .u64 a0_1) := (blk_cell BK242.out 1).trans rfl; have hcz9_2 : w8.cell? ⟨gb242, 2, none⟩ = some (.int .u64 a0_2) := (blk_cell BK242.out 2).trans rfl; have hcz9_3 : w8.cell? ⟨gb242, 3, none⟩ = some (.int .i64 a0_3) := (blk_cell BK242.out 3).trans rfl; have hcz9_4 : w8.cell? ⟨gb242, 4, none⟩ = some (.slice A0_4 l0_4.length c0_4) := (blk_cell BK242.out 4).trans rfl; have hcz9_5 : w8.cell? ⟨gb242, 5, none⟩ = some (.slice A0_5 l0_5.length c0_5) := (blk_cell BK242.out 5).trans rfl; have hfz9_0 := blk_frozen BK242.out 0; have hfz9_1 := blk_frozen BK242.out 1; have hfz9_2 := blk_frozen BK242.out 2; have hfz9_3 := blk_frozen BK242.out 3; have hfz9_4 := blk_frozen BK242.out 4; have hfz9_5 := blk_frozen BK242.out 5))
       go_ret
       exact ⟨by first | rfl | (simp [errW_none, errW_some] <;> rfl) | (simp [*, errW_none, errW_some] <;> rfl), by repeat (first | (with_reducible first | exact HB.out | apply below_alloc | apply pw_below_drewN | apply below_drew1 | refine below_set ?_ GE242.out) | exact HB.out)⟩
      ·
       rw [if_neg c7] at H
       have c7b0 : decide ((l0_4.length : Int) ≤ 50) = false := decide_eq_false c7
       have c7b1 : decide (l0_4.length ≤ 50) = false := decide_eq_false (by omega)
       clear c7
       obtain rfl := Option.some.inj H
       go_enter Tryd.func47, Tryd.ntmps47
       go_wp2_with (first | ((with_reducible refine gate_dst (N := 1) rfl ?_); (try (refine gate_guard (by rfl) ?_; dsimp only)); refine box_event ?hg (N := 1) ?hd (cs := #[.int .u64 a0_0, .int .u64 a0_1, .int .u64 a0_2, .int .i64 a0_3, .slice A0_4 l0_4.length c0_4, .slice A0_5 l0_5.length c0_5]) (t := 36) ?hr ?_; (case hd => rfl); (case hg => rfl); (case hr => first | (go_simp; done) | (go_simp; rfl)); intro gb242 hg w10 hbox hb; have n0_ := Aside0.mk (below_step (by repeat (first | (with_reducible first | exact HB.out | apply below_alloc | apply pw_below_drewN | apply below_drew1) | exact HB.out)) hb); have n1_ := Aside0.mk (hbox); have n2_ := Aside0.mk ((by rw [hg]; exact (below_size (by repeat (first | (with_reducible first | exact HB.out | apply below_alloc | apply pw_below_drewN | apply below_drew1) | exact HB.out))) : w.heap.size ≤ gb242)); have n3_ := Aside0.mk ((by rw [hg]; exact (below_size (by repeat (first | (with_reducible first | exact HB.out | apply below_alloc | apply pw_below_drewN | apply below_drew1) | exact HB.out))) : w.heap.size ≤ gb242)); clear HB; have HB := n0_; have BK242 := n1_; have GW242 := n2_; have GE242 := n3_; clear n0_ n1_ n2_ n3_; clear hb hbox hg; have hcz11_0 : w10.cell? ⟨gb242, 0, none⟩ = some (.int .u64 a0_0) := (blk_cell BK242.out 0).trans rfl; have hcz11_1 : w10.cell? ⟨gb242, 1, none⟩ = some (.int .u64 a0_1) := (blk_cell BK242.out 1).trans rfl; have hcz11_2 : w10.cell? ⟨gb242, 2, none⟩ = some (.int .u64 a0_2) := (blk_cell BK242.out 2).trans rfl; have hcz11_3 : w10.cell? ⟨gb242, 3, none⟩ = some (.int .i64 a0_3) := (blk_cell BK242.out 3).trans rfl; have hcz11_4 : w10.cell? ⟨gb242, 4, none⟩ = some (.slice A0_4 l0_4.length c0_4) := (blk_cell BK242.out 4).trans rfl; have hcz11_5 : w10.cell? ⟨gb242, 5, none⟩ = some (.slice A0_5 l0_5.length c0_5) := (blk_cell BK242.out 5).trans rfl; have hfz11_0 := blk_frozen BK242.out 0; have hfz11_1 := blk_frozen BK242.out 1; have hfz11_2 := blk_frozen BK242.out 2; have hfz11_3 := blk_frozen BK242.out 3; have hfz11_4 := blk_frozen BK242.out 4; have hfz11_5 := blk_frozen BK242.out 5))
       go_ret
       exact ⟨by first | rfl | (simp [errW_none, errW_some] <;> rfl) | (simp [*, errW_none, errW_some] <;> rfl), by repeat (first | (with_reducible first | exact HB.out | apply below_alloc | apply pw_below_drewN | apply below_drew1 | refine below_set ?_ GE242.out) | exact HB.out)⟩
     ·
      rw [if_neg c6] at H
      have c6b0 : decide (a0_3 ≤ 1000000) = false := decide_eq_false c6
      clear c6
      obtain rfl := Option.some.inj H
      go_enter Tryd.func47, Tryd.ntmps47
      go_wp2_with (first | ((with_reducible refine gate_dst (N := 1) rfl ?_); (try (refine gate_guard (by rfl) ?_; dsimp only)); refine box_event ?hg (N := 1) ?hd (cs := #[.int .u64 a0_0, .int .u64 a0_1, .int .u64 a0_2, .int .i64 a0_3, .slice A0_4 l0_4.length c0_4, .slice A0_5 l0_5.length c0_5]) (t := 36) ?hr ?_; (case hd => rfl); (case hg => rfl); (case hr => first | (go_simp; done) | (go_simp; rfl)); intro gb242 hg w12 hbox hb; have n0_ := Aside0.mk (below_step (by repeat (first | (with_reducible first | exact HB.out | apply below_alloc | apply pw_below_drewN | apply below_drew1) | exact HB.out)) hb); have n1_ := Aside0.mk (hbox); have n2_ := Aside0.mk ((by rw [hg]; exact (below_size (by repeat (first | (with_reducible first | exact HB.out | apply below_alloc | apply pw_below_drewN | apply below_drew1) | exact HB.out))) : w.heap.size ≤ gb242)); have n3_ := Aside0.mk ((by rw [hg]; exact (below_size (by repeat (first | (with_reducible first | exact HB.out | apply below_alloc | apply pw_below_drewN | apply below_drew1) | exact HB.out))) : w.heap.size ≤ gb242)); clear HB; have HB := n0_; have BK242 := n1_; have GW242 := n2_; have GE242 := n3_; clear n0_ n1_ n2_ n3_; clear hb hbox hg; have hcz13_0 : w12.cell? ⟨gb242, 0, none⟩ = some (.int .u64 a0_0) := (blk_cell BK242.out 0).trans rfl; have hcz13_1 : w12.cell? ⟨gb242, 1, none⟩ = some (.int .u64 a0_1) := (blk_cell BK242.out 1).trans rfl; have hcz13_2 : w12.cell? ⟨gb242, 2, none⟩ = some (.int .u64 a0_2) := (blk_cell BK242.out 2).trans rfl; have hcz13_3 : w12.cell? ⟨gb242, 3, none⟩ = some (.int .i64 a0_3) := (blk_cell BK242.out 3).trans rfl; have hcz13_4 : w12.cell? ⟨gb242, 4, none⟩ = some (.slice A0_4 l0_4.length c0_4) := (blk_cell BK242.out 4).trans rfl; have hcz13_5 : w12.cell? ⟨gb242, 5, none⟩ = some (.slice A0_5 l0_5.length c0_5) := (blk_cell BK242.out 5).trans rfl; have hfz13_0 := blk_frozen BK242.out 0; have hfz13_1 := blk_frozen BK242.out 1; have hfz13_2 := blk_frozen BK242.out 2; have hfz13_3 := blk_frozen BK242.out 3; have hfz13_4 := blk_frozen BK242.out 4; have hfz13_5 := blk_frozen BK242.out 5))
      go_ret
      exact ⟨by first | rfl | (simp [errW_none, errW_some] <;> rfl) | (simp [*, errW_none, errW_some] <;> rfl), by repeat (first | (with_reducible first | exact HB.out | apply below_alloc | apply pw_below_drewN | apply below_drew1 | refine below_set ?_ GE242.out) | exact HB.out)⟩
    ·
     rw [if_neg c5] at H
     have c5b0 : decide (0 ≤ a0_3) = false := decide_eq_false c5
     clear c5
     obtain rfl := Option.some.inj H
     go_enter Tryd.func47, Tryd.ntmps47
     go_wp2_with (first | ((with_reducible refine gate_dst (N := 1) rfl ?_); (try (refine gate_guard (by rfl) ?_; dsimp only)); refine box_event ?hg (N := 1) ?hd (cs := #[.int .u64 a0_0, .int .u64 a0_1, .int .u64 a0_2, .int .i64 a0_3, .slice A0_4 l0_4.length c0_4, .slice A0_5 l0_5.length c0_5]) (t := 36) ?hr ?_; (case hd => rfl); (case hg => rfl); (case hr => first | (go_simp; done) | (go_simp; rfl)); intro gb242 hg w14 hbox hb; have n0_ := Aside0.mk (below_step (by repeat (first | (with_reducible first | exact HB.out | apply below_alloc | apply pw_below_drewN | apply below_drew1) | exact HB.out)) hb); have n1_ := Aside0.mk (hbox); have n2_ := Aside0.mk ((by rw [hg]; exact (below_size (by repeat (first | (with_reducible first | exact HB.out | apply below_alloc | apply pw_below_drewN | apply below_drew1) | exact HB.out))) : w.heap.size ≤ gb242)); have n3_ := Aside0.mk ((by rw [hg]; exact (below_size (by repeat (first | (with_reducible first | exact HB.out | apply below_alloc | apply pw_below_drewN | apply below_drew1) | exact HB.out))) : w.heap.size ≤ gb242)); clear HB; have HB := n0_; have BK242 := n1_; have GW242 := n2_; have GE242 := n3_; clear n0_ n1_ n2_ n3_; clear hb hbox hg; have hcz15_0 : w14.cell? ⟨gb242, 0, none⟩ = some (.int .u64 a0_0) := (blk_cell BK242.out 0).trans rfl; have hcz15_1 : w14.cell? ⟨gb242, 1, none⟩ = some (.int .u64 a0_1) := (blk_cell BK242.out 1).trans rfl; have hcz15_2 : w14.cell? ⟨gb242, 2, none⟩ = some (.int .u64 a0_2) := (blk_cell BK242.out 2).trans rfl; have hcz15_3 : w14.cell? ⟨gb242, 3, none⟩ = some (.int .i64 a0_3) := (blk_cell BK242.out 3).trans rfl; have hcz15_4 : w14.cell? ⟨gb242, 4, none⟩ = some (.slice A0_4 l0_4.length c0_4) := (blk_cell BK242.out 4).trans rfl; have hcz15_5 : w14.cell? ⟨gb242, 5, none⟩ = some (.slice A0_5 l0_5.length c0_5) := (blk_cell BK242.out 5).trans rfl; have hfz15_0 := blk_frozen BK242.out 0; have hfz15_1 := blk_frozen BK242.out 1; have hfz15_2 := blk_frozen BK242.out 2; have hfz15_3 := blk_frozen BK242.out 3; have hfz15_4 := blk_frozen BK242.out 4; have hfz15_5 := blk_frozen BK242.out 5))
     go_ret
     exact ⟨by first | rfl | (simp [errW_none, errW_some] <;> rfl) | (simp [*, errW_none, errW_some] <;> rfl), by repeat (first | (with_reducible first | exact HB.out | apply below_alloc | apply pw_below_drewN | apply below_drew1 | refine below_set ?_ GE242.out) | exact HB.out)⟩
   ·
    rw [if_neg c4] at H
    have c4b0 : decide (a0_2 ≤ 4611686018427387904) = false := decide_eq_false c4
    clear c4
    obtain rfl := Option.some.inj H
    go_enter Tryd.func47, Tryd.ntmps47
    go_wp2_with (first | ((with_reducible refine gate_dst (N := 1) rfl ?_); (try (refine gate_guard (by rfl) ?_; dsimp only)); refine box_event ?hg (N := 1) ?hd (cs := #[.int .u64 a0_0, .int .u64 a0_1, .int .u64 a0_2, .int .i64 a0_3, .slice A0_4 l0_4.length c0_4, .slice A0_5 l0_5.length c0_5]) (t := 36) ?hr ?_; (case hd => rfl); (case hg => rfl); (case hr => first | (go_simp; done) | (go_simp; rfl)); intro gb242 hg w16 hbox hb; have n0_ := Aside0.mk (below_step (by repeat (first | (with_reducible first | exact HB.out | apply below_alloc | apply pw_below_drewN | apply below_drew1) | exact HB.out)) hb); have n1_ := Aside0.mk (hbox); have n2_ := Aside0.mk ((by rw [hg]; exact (below_size (by repeat (first | (with_reducible first | exact HB.out | apply below_alloc | apply pw_below_drewN | apply below_drew1) | exact HB.out))) : w.heap.size ≤ gb242)); have n3_ := Aside0.mk ((by rw [hg]; exact (below_size (by repeat (first | (with_reducible first | exact HB.out | apply below_alloc | apply pw_below_drewN | apply below_drew1) | exact HB.out))) : w.heap.size ≤ gb242)); clear HB; have HB := n0_; have BK242 := n1_; have GW242 := n2_; have GE242 := n3_; clear n0_ n1_ n2_ n3_; clear hb hbox hg; have hcz17_0 : w16.cell? ⟨gb242, 0, none⟩ = some (.int .u64 a0_0) := (blk_cell BK242.out 0).trans rfl; have hcz17_1 : w16.cell? ⟨gb242, 1, none⟩ = some (.int .u64 a0_1) := (blk_cell BK242.out 1).trans rfl; have hcz17_2 : w16.cell? ⟨gb242, 2, none⟩ = some (.int .u64 a0_2) := (blk_cell BK242.out 2).trans rfl; have hcz17_3 : w16.cell? ⟨gb242, 3, none⟩ = some (.int .i64 a0_3) := (blk_cell BK242.out 3).trans rfl; have hcz17_4 : w16.cell? ⟨gb242, 4, none⟩ = some (.slice A0_4 l0_4.length c0_4) := (blk_cell BK242.out 4).trans rfl; have hcz17_5 : w16.cell? ⟨gb242, 5, none⟩ = some (.slice A0_5 l0_5.length c0_5) := (blk_cell BK242.out 5).trans rfl; have hfz17_0 := blk_frozen BK242.out 0; have hfz17_1 := blk_frozen BK242.out 1; have hfz17_2 := blk_frozen BK242.out 2; have hfz17_3 := blk_frozen BK242.out 3; have hfz17_4 := blk_frozen BK242.out 4; have hfz17_5 := blk_frozen BK242.out 5))
    go_ret
    exact ⟨by first | rfl | (simp [errW_none, errW_some] <;> rfl) | (simp [*, errW_none, errW_some] <;> rfl), by repeat (first | (with_reducible first | exact HB.out | apply below_alloc | apply pw_below_drewN | apply below_drew1 | refine below_set ?_ GE242.out) | exact HB.out)⟩
  ·
   rw [if_neg c3] at H
   have c3b0 : decide (a0_1 ≤ 4611686018427387904) = false := decide_eq_false c3
   clear c3
   obtain rfl := Option.some.inj H
   go_enter Tryd.func47, Tryd.ntmps47
   go_wp2_with (first | ((with_reducible refine gate_dst (N := 1) rfl ?_); (try (refine gate_guard (by rfl) ?_; dsimp only)); refine box_event ?hg (N := 1) ?hd (cs := #[.int .u64 a0_0, .int .u64 a0_1, .int .u64 a0_2, .int .i64 a0_3, .slice A0_4 l0_4.length c0_4, .slice A0_5 l0_5.length c0_5]) (t := 36) ?hr ?_; (case hd => rfl); (case hg => rfl); (case hr => first | (go_simp; done) | (go_simp; rfl)); intro gb242 hg w18 hbox hb; have n0_ := Aside0.mk (below_step (by repeat (first | (with_reducible first | exact HB.out | apply below_alloc | apply pw_below_drewN | apply below_drew1) | exact HB.out)) hb); have n1_ := Aside0.mk (hbox); have n2_ := Aside0.mk ((by rw [hg]; exact (below_size (by repeat (first | (with_reducible first | exact HB.out | apply below_alloc | apply pw_below_drewN | apply below_drew1) | exact HB.out))) : w.heap.size ≤ gb242)); have n3_ := Aside0.mk ((by rw [hg]; exact (below_size (by repeat (first | (with_reducible first | exact HB.out | apply below_alloc | apply pw_below_drewN | apply below_drew1) | exact HB.out))) : w.heap.size ≤ gb242)); clear HB; have HB := n0_; have BK242 := n1_; have GW242 := n2_; have GE242 := n3_; clear n0_ n1_ n2_ n3_; clear hb hbox hg; have hcz19_0 : w18.cell? ⟨gb242, 0, none⟩ = some (.int .u64 a0_0) := (blk_cell BK242.out 0).trans rfl; have hcz19_1 : w18.cell? ⟨gb242, 1, none⟩ = some (.int .u64 a0_1) := (blk_cell BK242.out 1).trans rfl; have hcz19_2 : w18.cell? ⟨gb242, 2, none⟩ = some (.int .u64 a0_2) := (blk_cell BK242.out 2).trans rfl; have hcz19_3 : w18.cell? ⟨gb242, 3, none⟩ = some (.int .i64 a0_3) := (blk_cell BK242.out 3).trans rfl; have hcz19_4 : w18.cell? ⟨gb242, 4, none⟩ = some (.slice A0_4 l0_4.length c0_4) := (blk_cell BK242.out 4).trans rfl; have hcz19_5 : w18.cell? ⟨gb242, 5, none⟩ = some (.slice A0_5 l0_5.length c0_5) := (blk_cell BK242.out 5).trans rfl; have hfz19_0 := blk_frozen BK242.out 0; have hfz19_1 := blk_frozen BK242.out 1; have hfz19_2 := blk_frozen BK242.out 2; have hfz19_3 := blk_frozen BK242.out 3; have hfz19_4 := blk_frozen BK242.out 4; have hfz19_5 := blk_frozen BK242.out 5))
   go_ret
   exact ⟨by first | rfl | (simp [errW_none, errW_some] <;> rfl) | (simp [*, errW_none, errW_some] <;> rfl), by repeat (first | (with_reducible first | exact HB.out | apply below_alloc | apply pw_below_drewN | apply below_drew1 | refine below_set ?_ GE242.out) | exact HB.out)⟩
 ·
  rw [if_neg c2] at H
  have c2b0 : decide (a0_0 ≤ 4611686018427387904) = false := decide_eq_false c2
  clear c2
  obtain rfl := Option.some.inj H
  go_enter Tryd.func47, Tryd.ntmps47
  go_wp2_with (first | ((with_reducible refine gate_dst (N := 1) rfl ?_); (try (refine gate_guard (by rfl) ?_; dsimp only)); refine box_event ?hg (N := 1) ?hd (cs := #[.int .u64 a0_0, .int .u64 a0_1, .int .u64 a0_2, .int .i64 a0_3, .slice A0_4 l0_4.length c0_4, .slice A0_5 l0_5.length c0_5]) (t := 36) ?hr ?_; (case hd => rfl); (case hg => rfl); (case hr => first | (go_simp; done) | (go_simp; rfl)); intro gb242 hg w20 hbox hb; have n0_ := Aside0.mk (below_step (by repeat (first | (with_reducible first | exact HB.out | apply below_alloc | apply pw_below_drewN | apply below_drew1) | exact HB.out)) hb); have n1_ := Aside0.mk (hbox); have n2_ := Aside0.mk ((by rw [hg]; exact (below_size (by repeat (first | (with_reducible first | exact HB.out | apply below_alloc | apply pw_below_drewN | apply below_drew1) | exact HB.out))) : w.heap.size ≤ gb242)); have n3_ := Aside0.mk ((by rw [hg]; exact (below_size (by repeat (first | (with_reducible first | exact HB.out | apply below_alloc | apply pw_below_drewN | apply below_drew1) | exact HB.out))) : w.heap.size ≤ gb242)); clear HB; have HB := n0_; have BK242 := n1_; have GW242 := n2_; have GE242 := n3_; clear n0_ n1_ n2_ n3_; clear hb hbox hg; have hcz21_0 : w20.cell? ⟨gb242, 0, none⟩ = some (.int .u64 a0_0) := (blk_cell BK242.out 0).trans rfl; have hcz21_1 : w20.cell? ⟨gb242, 1, none⟩ = some (.int .u64 a0_1) := (blk_cell BK242.out 1).trans rfl; have hcz21_2 : w20.cell? ⟨gb242, 2, none⟩ = some (.int .u64 a0_2) := (blk_cell BK242.out 2).trans rfl; have hcz21_3 : w20.cell? ⟨gb242, 3, none⟩ = some (.int .i64 a0_3) := (blk_cell BK242.out 3).trans rfl; have hcz21_4 : w20.cell? ⟨gb242, 4, none⟩ = some (.slice A0_4 l0_4.length c0_4) := (blk_cell BK242.out 4).trans rfl; have hcz21_5 : w20.cell? ⟨gb242, 5, none⟩ = some (.slice A0_5 l0_5.length c0_5) := (blk_cell BK242.out 5).trans rfl; have hfz21_0 := blk_frozen BK242.out 0; have hfz21_1 := blk_frozen BK242.out 1; have hfz21_2 := blk_frozen BK242.out 2; have hfz21_3 := blk_frozen BK242.out 3; have hfz21_4 := blk_frozen BK242.out 4; have hfz21_5 := blk_frozen BK242.out 5))
  go_ret
  exact ⟨by first | rfl | (simp [errW_none, errW_some] <;> rfl) | (simp [*, errW_none, errW_some] <;> rfl), by repeat (first | (with_reducible first | exact HB.out | apply below_alloc | apply pw_below_drewN | apply below_drew1 | refine below_set ?_ GE242.out) | exact HB.out)⟩
def impl_ascending.l0 : Nat → List Int → Int → Option (Bool)
 | 0, _, _ => none
 | k + 1, x0, x3 => if x3 < (x0.length : Int) then (if 0 ≤ (wrap64 (x3 - 1)) then (if (wrap64 (x3 - 1)) < (x0.length : Int) then (if 0 ≤ x3 then (if (rd x0 (wrap64 (x3 - 1))) ≥ (rd x0 x3) then (some false) else (impl_ascending.l0 k x0 (wrap64 (x3 + 1)))) else (none)) else (none)) else (none)) else (some true)
def impl_ascending.f (k : Nat) (l0 : List Int) : Option (Bool) := impl_ascending.l0 k l0 1
set_option maxHeartbeats 8000000 in
set_option maxRecDepth 100000 in
theorem impl_ascending.calls (k : Nat) (A0 : Option Addr) (c0 : Nat) (l0 : List Int) (r : Bool) (w : World) (hr0 : Kd.C (Kd.int .u64) w A0 l0.length l0) (hc0 : l0.length ≤ c0) (h : impl_ascending.f k l0 = some r) :
  Calls Tryd.prog 51 #[.slice A0 l0.length c0] w fun e w' => e = .returned (.bool r) ∧ Drawn0 w w' := by
 have HR0 := Aside0.mk hr0
 have HC0 := Aside0.mk hc0
 clear hr0 hc0
 have H : (impl_ascending.l0 k l0 1) = some r := h
 clear h
 have H' := Aside0.mk H
 clear H
 go_enter Tryd.func51, Tryd.ntmps51
 go_wp2
 repeat (go_quiet (fail); try go_wp2)
 go_loopg [3] k (fun kq v3 w' => ∃ (x3_1 : Int), v3 = .int .i64 x3_1 ∧ Aside0 (impl_ascending.l0 kq l0 x3_1 = some r) ∧ Aside0 (kq ≤ k) ∧ Drawn0 w w')
 case atStart => exact ⟨(1), (by first | rfl | (simp; done) | (simp [*]; done)), H', ⟨Nat.le_refl _⟩, by repeat (first | exact Drawn0.refl _ | apply Drawn0.step)⟩
 case round =>
  clear H'
  obtain ⟨x3_1, rfl, HA, HK1, ⟨m1, rfl⟩⟩ := hrel
  cases gk with
  | zero => exact absurd HA.out (by simp [impl_ascending.l0])
  | succ k1 =>
   have H := HA.out
   clear HA
   simp only [impl_ascending.l0] at H
   by_cases c2 : x3_1 < (l0.length : Int)
   ·
    rw [if_pos c2] at H
    have c2b0 : decide (x3_1 < (l0.length : Int)) = true := decide_eq_true c2
    clear c2
    obtain ⟨ji3, hji3⟩ : ∃ j_ : Int, (wrap64 (x3_1 - 1)) = j_ := ⟨_, rfl⟩
    replace H : (if 0 ≤ (ji3) then (if (ji3) < (l0.length : Int) then (if 0 ≤ x3_1 then (if (rd l0 (ji3)) ≥ (rd l0 x3_1) then (some false) else (impl_ascending.l0 k1 l0 (wrap64 (x3_1 + 1)))) else (none)) else (none)) else (none)) = some r := by first | (rw [hji3] at H; exact H) | (simp only [hji3] at H ⊢; exact H)
    have hji3w : (IntKind.i64.wrap (x3_1 - 1)) = ji3 := (i64_w _).trans hji3
    by_cases c4 : 0 ≤ (ji3)
    ·
     rw [if_pos c4] at H
     have c4b0 : decide (0 ≤ (ji3)) = true := decide_eq_true c4
     clear c4
     by_cases c5 : (ji3) < (l0.length : Int)
     ·
      rw [if_pos c5] at H
      have c5b0 : decide ((ji3) < (l0.length : Int)) = true := decide_eq_true c5
      clear c5
      by_cases c6 : 0 ≤ x3_1
      ·
       rw [if_pos c6] at H
       have c6b0 : decide (0 ≤ x3_1) = true := decide_eq_true c6
       clear c6
       by_cases c7 : (rd l0 (ji3)) ≥ (rd l0 x3_1)
       ·
        rw [if_pos c7] at H
        have c7b0 : decide ((rd l0 x3_1) ≤ (rd l0 (ji3))) = true := decide_eq_true c7
        clear c7
        obtain rfl := Option.some.inj H
        have p246 : 0 ≤ ((ji3) : Int) := of_decide_eq_true (by first | (with_reducible assumption) | assumption)
        have q246 : (ji3) < (l0.length : Int) := of_decide_eq_true (by first | (with_reducible assumption) | assumption)
        obtain ⟨ad246, e246, hx246_0⟩ := Kd.at_int HR0.out (ji3) p246 q246
        cases e246
        replace p246 := eq_true p246
        replace q246 := eq_true q246
        have p247 : 0 ≤ (x3_1 : Int) := of_decide_eq_true (by first | (with_reducible assumption) | assumption)
        have q247 : x3_1 < (l0.length : Int) := of_decide_eq_true (by first | (with_reducible assumption) | assumption)
        obtain ⟨ad247, e247, hx247_0⟩ := Kd.at_int HR0.out x3_1 p247 q247
        obtain rfl : ad246 = ad247 := (by injection e247)
        replace p247 := eq_true p247
        replace q247 := eq_true q247
        go_wp2
        repeat (go_quiet (fail); try go_wp2)
        go_ret
        exact ⟨by first | rfl | (simp; done) | (simp only [← hji3] <;> (first | rfl | simp)) | (simp [*]; done), by repeat (first | exact Drawn0.refl _ | apply Drawn0.step)⟩
       ·
        rw [if_neg c7] at H
        have c7b0 : decide ((rd l0 x3_1) ≤ (rd l0 (ji3))) = false := decide_eq_false c7
        clear c7
        have H' := Aside0.mk H
        clear H
        have p246 : 0 ≤ ((ji3) : Int) := of_decide_eq_true (by first | (with_reducible assumption) | assumption)
        have q246 : (ji3) < (l0.length : Int) := of_decide_eq_true (by first | (with_reducible assumption) | assumption)
        obtain ⟨ad246, e246, hx246_0⟩ := Kd.at_int HR0.out (ji3) p246 q246
        cases e246
        replace p246 := eq_true p246
        replace q246 := eq_true q246
        have p247 : 0 ≤ (x3_1 : Int) := of_decide_eq_true (by first | (with_reducible assumption) | assumption)
        have q247 : x3_1 < (l0.length : Int) := of_decide_eq_true (by first | (with_reducible assumption) | assumption)
        obtain ⟨ad247, e247, hx247_0⟩ := Kd.at_int HR0.out x3_1 p247 q247
        obtain rfl : ad246 = ad247 := (by injection e247)
        replace p247 := eq_true p247
        replace q247 := eq_true q247
        go_wp2
        repeat (go_quiet (fail); try go_wp2)
        go_roundg k1
        case measure => have := HK1.out; omega
        case rel => exact ⟨(wrap64 (x3_1 + 1)), (by first | rfl | (simp; done) | (simp [*]; done)), H', ⟨by have := HK1.out; omega⟩, by repeat (first | exact Drawn0.refl _ | apply Drawn0.step)⟩
      ·
       rw [if_neg c6] at H
       exact absurd H (by simp)
     ·
      rw [if_neg c5] at H
      exact absurd H (by simp)
    ·
     rw [if_neg c4] at H
     exact absurd H (by simp)
   ·
    rw [if_neg c2] at H
    have c2b0 : decide (x3_1 < (l0.length : Int)) = false := decide_eq_false c2
    clear c2
    obtain rfl := Option.some.inj H
    go_wp2
    repeat (go_quiet (fail); try go_wp2)
    go_ret
    exact ⟨by first | rfl | (simp; done) | (simp [*]; done), by repeat (first | exact Drawn0.refl _ | apply Drawn0.step)⟩
def impl_lockOk.f (e g n t : Int) (xs : List Se) (ns : List No) (p v : List Int) (o m : Int) (h : List Int) (ep ge : Int) (wa : List Int) : Option Bool := some (lockB e g ⟨p, v, o, m, h, ep, ge, wa⟩)
set_option maxHeartbeats 8000000 in
set_option maxRecDepth 100000 in
theorem impl_lockOk.calls (e g n t : Int) (As : Option Addr) (cs : Nat) (xs : List Se) (An : Option Addr) (cn : Nat) (ns : List No) (A0 : Option Addr) (c0 : Nat) (p : List Int) (A1 : Option Addr) (c1 : Nat) (v : List Int) (o m : Int) (A4 : Option Addr) (c4 : Nat) (h : List Int) (ep ge : Int) (A7 : Option Addr) (c7 : Nat) (wa : List Int) (r : Bool) (w : World) (h1 : Kd.C kSe w As xs.length xs) (hc1 : xs.length ≤ cs) (h2 : Kd.C kNo w An ns.length ns) (hc2 : ns.length ≤ cn) (i0 : Kd.C (Kd.int .u8) w A0 p.length p) (j0 : p.length ≤ c0) (i1 : Kd.C (Kd.int .u8) w A1 v.length v) (j1 : v.length ≤ c1) (i4 : Kd.C (Kd.int .u64) w A4 h.length h) (j4 : h.length ≤ c4) (i7 : Kd.C (Kd.int .u64) w A7 wa.length wa) (j7 : wa.length ≤ c7) (hf : impl_lockOk.f e g n t xs ns p v o m h ep ge wa = some r) :
  Calls Tryd.prog 53 #[.agg #[.int .u64 e, .int .u64 g, .int .u64 n, .int .i64 t, .slice As xs.length cs, .slice An ns.length cn], .agg #[.slice A0 p.length c0, .slice A1 v.length c1, .int .u64 o, .int .i64 m, .slice A4 h.length c4, .int .u64 ep, .int .u64 ge, .slice A7 wa.length c7]] w fun e w' => e = .returned (.bool r) ∧ Below w.heap.size w w' := by
 obtain rfl := Option.some.inj hf
 clear hf h1 hc1 h2 hc2 i0 j0 i1 j1 i4 j4 i7 j7
 go_enter Tryd.func53, Tryd.ntmps53
 go_upto_region 1 with (fail)
 have bx := blk_alloc (blk_new w (.cells #[.int .u64 e, .int .u64 g, .int .u64 n, .int .i64 t, .slice As xs.length cs, .slice An ns.length cn] 36)) (.cells #[.slice A0 p.length c0, .slice A1 v.length c1, .int .u64 o, .int .i64 m, .slice A4 h.length c4, .int .u64 ep, .int .u64 ge, .slice A7 wa.length c7] 76)
 have bn := blk_new (w.alloc (.cells #[.int .u64 e, .int .u64 g, .int .u64 n, .int .i64 t, .slice As xs.length cs, .slice An ns.length cn] 36)) (.cells #[.slice A0 p.length c0, .slice A1 v.length c1, .int .u64 o, .int .i64 m, .slice A4 h.length c4, .int .u64 ep, .int .u64 ge, .slice A7 wa.length c7] 76)
 simp only [World.size_alloc] at bn
 have hB := below_alloc (below_alloc (Below.refl w.heap.size w) (.cells #[.int .u64 e, .int .u64 g, .int .u64 n, .int .i64 t, .slice As xs.length cs, .slice An ns.length cn] 36)) (.cells #[.slice A0 p.length c0, .slice A1 v.length c1, .int .u64 o, .int .i64 m, .slice A4 h.length c4, .int .u64 ep, .int .u64 ge, .slice A7 wa.length c7] 76)
 generalize (w.alloc (.cells #[.int .u64 e, .int .u64 g, .int .u64 n, .int .i64 t, .slice As xs.length cs, .slice An ns.length cn] 36)).alloc (.cells #[.slice A0 p.length c0, .slice A1 v.length c1, .int .u64 o, .int .i64 m, .slice A4 h.length c4, .int .u64 ep, .int .u64 ge, .slice A7 wa.length c7] 76) = W0 at *
 have HB := Aside0.mk hB
 obtain ⟨s0, s1, s2, s3, s4, s5⟩ := cells6 bx
 obtain ⟨n0, n1, n2, n3, n4, n5, n6, n7⟩ := cells8 bn
 clear bx bn hB s2 s3 s4 s5 n0 n1 n2 n7
 have HL := Aside0.mk (show ∀ b, lockB e g ⟨p, v, o, m, h, ep, ge, wa⟩ = b → lockB e g ⟨p, v, o, m, h, ep, ge, wa⟩ = b from fun _ q => q)
 have K1 : ∀ (a b : Int), a = b → (a == b) = true ∧ (a != b) = false := fun a b q => ⟨beq_iff_eq.mpr q, bne_eq_false_iff_eq.mpr q⟩
 have K2 : ∀ (a b : Int), ¬ a = b → (a == b) = false ∧ (a != b) = true := fun a b q => ⟨beq_eq_false_iff_ne.mpr q, bne_iff_ne.mpr q⟩
 rcases Decidable.em (m = 0) with q0 | q0
 ·
  obtain ⟨q0a, q0b⟩ := K1 _ _ q0
  rcases Decidable.em (h.length = 0) with k5 | k5
  ·
   obtain ⟨k5a, k5b⟩ := K1 (h.length : Int) 0 (by omega)
   have k5e : (h = []) = True := by cases h <;> simp_all
   rcases Decidable.em (ep = 0) with k6 | k6
   ·
    obtain ⟨k6a, k6b⟩ := K1 _ _ k6
    rcases Decidable.em (ge = 0) with k7 | k7
    ·
     obtain ⟨k7a, k7b⟩ := K1 _ _ k7
     have hl : lockB e g ⟨p, v, o, m, h, ep, ge, wa⟩ = true := by
      unfold lockB
      first | (simp [q0, k5, k6, k7]; done) | (simp [q0, k5, k6, k7]; omega)
     have HLE := Aside0.mk hl
     clear hl HL K1 K2 q0 k5 k6 k7
     go_wp2_with fail
     go_ret
     exact ⟨by rw [HLE.out]; rfl, HB.out⟩
    ·
     obtain ⟨k7a, k7b⟩ := K2 _ _ k7
     have hl : lockB e g ⟨p, v, o, m, h, ep, ge, wa⟩ = false := by
      unfold lockB
      first | (simp [q0, k5, k6, k7]; done) | (simp [q0, k5, k6, k7]; omega)
     have HLE := Aside0.mk hl
     clear hl HL K1 K2 q0 k5 k6 k7
     go_wp2_with fail
     go_ret
     exact ⟨by rw [HLE.out]; rfl, HB.out⟩
   ·
    obtain ⟨k6a, k6b⟩ := K2 _ _ k6
    have hl : lockB e g ⟨p, v, o, m, h, ep, ge, wa⟩ = false := by
     unfold lockB
     first | (simp [q0, k5, k6]; done) | (simp [q0, k5, k6]; omega)
    have HLE := Aside0.mk hl
    clear hl HL K1 K2 q0 k5 k6
    go_wp2_with fail
    go_ret
    exact ⟨by rw [HLE.out]; rfl, HB.out⟩
  ·
   obtain ⟨k5a, k5b⟩ := K2 (h.length : Int) 0 (by omega)
   have k5e : (h = []) = False := by cases h <;> simp_all
   have hl : lockB e g ⟨p, v, o, m, h, ep, ge, wa⟩ = false := by
    unfold lockB
    first | (simp [q0, k5]; done) | (simp [q0, k5]; omega)
   have HLE := Aside0.mk hl
   clear hl HL K1 K2 q0 k5
   go_wp2_with fail
   go_ret
   exact ⟨by rw [HLE.out]; rfl, HB.out⟩
 ·
  obtain ⟨q0a, q0b⟩ := K2 _ _ q0
  rcases Decidable.em (m = 1) with q1 | q1
  ·
   obtain ⟨q1a, q1b⟩ := K1 _ _ q1
   rcases Decidable.em (h.length = 1) with k1 | k1
   ·
    obtain ⟨k1a, k1b⟩ := K1 (h.length : Int) 1 (by omega)
    rcases Decidable.em (1 ≤ ge) with k2 | k2
    ·
     have k2a : decide (1 ≤ ge) = true := decide_eq_true k2
     rcases Decidable.em (ge ≤ g) with k3 | k3
     ·
      have k3a : decide (ge ≤ g) = true := decide_eq_true k3
      rcases Decidable.em (ep ≤ e) with k4 | k4
      ·
       have k4a : decide (ep ≤ e) = true := decide_eq_true k4
       have hl : lockB e g ⟨p, v, o, m, h, ep, ge, wa⟩ = true := by
        unfold lockB
        first | (simp [q1, k1, k2, k3, k4]; done) | (simp [q1, k1, k2, k3, k4]; omega)
       have HLE := Aside0.mk hl
       clear hl HL K1 K2 q0 q1 k1 k2 k3 k4
       go_wp2_with fail
       go_ret
       exact ⟨by rw [HLE.out]; rfl, HB.out⟩
      ·
       have k4a : decide (ep ≤ e) = false := decide_eq_false k4
       have hl : lockB e g ⟨p, v, o, m, h, ep, ge, wa⟩ = false := by
        unfold lockB
        first | (simp [q1, k1, k2, k3, k4]; done) | (simp [q1, k1, k2, k3, k4]; omega)
       have HLE := Aside0.mk hl
       clear hl HL K1 K2 q0 q1 k1 k2 k3 k4
       go_wp2_with fail
       go_ret
       exact ⟨by rw [HLE.out]; rfl, HB.out⟩
     ·
      have k3a : decide (ge ≤ g) = false := decide_eq_false k3
      have hl : lockB e g ⟨p, v, o, m, h, ep, ge, wa⟩ = false := by
       unfold lockB
       first | (simp [q1, k1, k2, k3]; done) | (simp [q1, k1, k2, k3]; omega)
      have HLE := Aside0.mk hl
      clear hl HL K1 K2 q0 q1 k1 k2 k3
      go_wp2_with fail
      go_ret
      exact ⟨by rw [HLE.out]; rfl, HB.out⟩
    ·
     have k2a : decide (1 ≤ ge) = false := decide_eq_false k2
     have hl : lockB e g ⟨p, v, o, m, h, ep, ge, wa⟩ = false := by
      unfold lockB
      first | (simp [q1, k1, k2]; done) | (simp [q1, k1, k2]; omega)
     have HLE := Aside0.mk hl
     clear hl HL K1 K2 q0 q1 k1 k2
     go_wp2_with fail
     go_ret
     exact ⟨by rw [HLE.out]; rfl, HB.out⟩
   ·
    obtain ⟨k1a, k1b⟩ := K2 (h.length : Int) 1 (by omega)
    have hl : lockB e g ⟨p, v, o, m, h, ep, ge, wa⟩ = false := by
     unfold lockB
     first | (simp [q1, k1]; done) | (simp [q1, k1]; omega)
    have HLE := Aside0.mk hl
    clear hl HL K1 K2 q0 q1 k1
    go_wp2_with fail
    go_ret
    exact ⟨by rw [HLE.out]; rfl, HB.out⟩
  ·
   obtain ⟨q1a, q1b⟩ := K2 _ _ q1
   rcases Decidable.em (m = 2) with q2 | q2
   ·
    obtain ⟨q2a, q2b⟩ := K1 _ _ q2
    rcases Decidable.em (1 ≤ h.length) with k5 | k5
    ·
     have k5a : decide (1 ≤ (h.length : Int)) = true := decide_eq_true (by omega)
     have k5b : decide (1 ≤ h.length) = true := decide_eq_true k5
     rcases Decidable.em (ep = 0) with k6 | k6
     ·
      obtain ⟨k6a, k6b⟩ := K1 _ _ k6
      rcases Decidable.em (ge = 0) with k7 | k7
      ·
       obtain ⟨k7a, k7b⟩ := K1 _ _ k7
       have hl : lockB e g ⟨p, v, o, m, h, ep, ge, wa⟩ = true := by
        unfold lockB
        first | (simp [q0, q1, q2, k5, k6, k7]; done) | (simp [q0, q1, q2, k5, k6, k7]; omega)
       have HLE := Aside0.mk hl
       clear hl HL K1 K2 q0 q1 q2 k5 k6 k7
       go_wp2_with fail
       go_ret
       exact ⟨by rw [HLE.out]; rfl, HB.out⟩
      ·
       obtain ⟨k7a, k7b⟩ := K2 _ _ k7
       have hl : lockB e g ⟨p, v, o, m, h, ep, ge, wa⟩ = false := by
        unfold lockB
        first | (simp [q0, q1, q2, k5, k6, k7]; done) | (simp [q0, q1, q2, k5, k6, k7]; omega)
       have HLE := Aside0.mk hl
       clear hl HL K1 K2 q0 q1 q2 k5 k6 k7
       go_wp2_with fail
       go_ret
       exact ⟨by rw [HLE.out]; rfl, HB.out⟩
     ·
      obtain ⟨k6a, k6b⟩ := K2 _ _ k6
      have hl : lockB e g ⟨p, v, o, m, h, ep, ge, wa⟩ = false := by
       unfold lockB
       first | (simp [q0, q1, q2, k5, k6]; done) | (simp [q0, q1, q2, k5, k6]; omega)
      have HLE := Aside0.mk hl
      clear hl HL K1 K2 q0 q1 q2 k5 k6
      go_wp2_with fail
      go_ret
      exact ⟨by rw [HLE.out]; rfl, HB.out⟩
    ·
     have k5a : decide (1 ≤ (h.length : Int)) = false := decide_eq_false (by omega)
     have k5b : decide (1 ≤ h.length) = false := decide_eq_false k5
     have hl : lockB e g ⟨p, v, o, m, h, ep, ge, wa⟩ = false := by
      unfold lockB
      first | (simp [q0, q1, q2, k5]; done) | (simp [q0, q1, q2, k5]; omega)
     have HLE := Aside0.mk hl
     clear hl HL K1 K2 q0 q1 q2 k5
     go_wp2_with fail
     go_ret
     exact ⟨by rw [HLE.out]; rfl, HB.out⟩
   ·
    obtain ⟨q2a, q2b⟩ := K2 _ _ q2
    have hl : lockB e g ⟨p, v, o, m, h, ep, ge, wa⟩ = false := by
     unfold lockB
     first | (simp [q0, q1, q2]; done) | (simp [q0, q1, q2]; omega)
    have HLE := Aside0.mk hl
    clear hl HL K1 K2 q0 q1 q2
    go_wp2_with fail
    go_ret
    exact ⟨by rw [HLE.out]; rfl, HB.out⟩
theorem char_cases (x : Int) : (charB x = true ∧ (decide (97 ≤ x) = true ∧ decide (x ≤ 122) = true)) ∨
  (charB x = true ∧ decide (97 ≤ x) = false ∧ decide (48 ≤ x) = true ∧ decide (x ≤ 57) = true) ∨
  (charB x = true ∧ x = 45) ∨ (charB x = true ∧ x = 95) ∨
  (charB x = false ∧ decide (97 ≤ x) = false ∧ decide (48 ≤ x) = false ∧ decide (x = 45) = false ∧ decide (x = 95) = false ∧ (x == 45) = false ∧ (x == 95) = false) ∨
  (charB x = false ∧ decide (97 ≤ x) = false ∧ decide (48 ≤ x) = true ∧ decide (x ≤ 57) = false ∧ decide (x = 45) = false ∧ decide (x = 95) = false ∧ (x == 45) = false ∧ (x == 95) = false) ∨
  (charB x = false ∧ decide (97 ≤ x) = true ∧ decide (x ≤ 122) = false ∧ decide (48 ≤ x) = true ∧ decide (x ≤ 57) = false ∧ decide (x = 45) = false ∧ decide (x = 95) = false ∧ (x == 45) = false ∧ (x == 95) = false) := by
 unfold charB
 by_cases h1 : 97 ≤ x
 ·
  by_cases h2 : x ≤ 122
  ·
   simp [h1, h2]
  ·
   have h3 : 48 ≤ x := by omega
   have h4 : ¬ x ≤ 57 := by omega
   have h5 : ¬ x = 45 := by omega
   have h6 : ¬ x = 95 := by omega
   simp [h1, h2, h3, h4, h5, h6]
 ·
  by_cases h3 : 48 ≤ x
  ·
   by_cases h4 : x ≤ 57
   ·
    simp [h1, h3, h4]
   ·
    by_cases h6 : x = 95
    ·
     simp [h6]
    ·
     have h5 : ¬ x = 45 := by omega
     simp [h1, h3, h4, h5, h6]
  ·
   by_cases h5 : x = 45
   ·
    simp [h5]
   ·
    have h6 : ¬ x = 95 := by omega
    simp [h1, h3, h5, h6]
theorem nameB_yes {l : List Int} (h1 : 1 ≤ l.length) (h2 : l.length ≤ 16) (h : ∀ j, j < l.length → charB (rd l (j : Nat)) = true) : nameB l = true := by
 unfold nameB
 simp only [Bool.and_eq_true, decide_eq_true_eq, List.all_eq_true]
 refine ⟨⟨h1, h2⟩, fun x hx => ?_⟩
 obtain ⟨j, hj, rfl⟩ := List.getElem_of_mem hx
 have := h j hj
 unfold rd at this
 simpa [List.getD_eq_getElem?_getD, hj] using this
theorem nameB_no {l : List Int} {j : Nat} (hj : j < l.length) (h : charB (rd l (j : Nat)) = false) : nameB l = false := by
 unfold nameB
 have : l.all charB = false := by
  rw [List.all_eq_false]
  refine ⟨l[j], List.getElem_mem hj, ?_⟩
  unfold rd at h
  simp [List.getD_eq_getElem?_getD, hj] at h
  simp [h]
 simp [this]
set_option maxHeartbeats 2000000 in
set_option maxRecDepth 100000 in
theorem nameOk_calls (A : Option Addr) (c : Nat) (l : List Int) (w : World) (h : Kd.C (Kd.int .u8) w A l.length l) (hc : l.length ≤ c) :
  Calls Tryd.prog 40 #[.slice A l.length c] w fun e w' => e = .returned (.bool (nameB l)) ∧ w' = w := by
 by_cases h1 : l.length < 1
 ·
  have e : nameB l = false := by unfold nameB; rw [decide_eq_false (by omega)]; rfl
  have d1 : decide ((l.length : Int) < 1) = true := decide_eq_true (by omega)
  rw [e]
  clear e
  go_enter Tryd.func40, Tryd.ntmps40
  go_wp2
  go_ret
  exact ⟨rfl, rfl⟩
 by_cases h2 : 16 < l.length
 ·
  have e : nameB l = false := by unfold nameB; rw [decide_eq_false (show ¬ l.length ≤ 16 by omega)]; simp
  have d1 : decide ((l.length : Int) < 1) = false := decide_eq_false (by omega)
  have d2 : decide ((16 : Int) < (l.length : Int)) = true := decide_eq_true (by omega)
  rw [e]
  clear e
  go_enter Tryd.func40, Tryd.ntmps40
  go_wp2
  go_ret
  exact ⟨rfl, rfl⟩
 have d1 : decide ((l.length : Int) < 1) = false := decide_eq_false (by omega)
 have d2 : decide ((16 : Int) < (l.length : Int)) = false := decide_eq_false (by omega)
 have HR := Aside0.mk h
 have HL := Aside0.mk (show 1 ≤ l.length ∧ l.length ≤ 16 by omega)
 clear h h1 h2
 go_enter Tryd.func40, Tryd.ntmps40
 go_wp2
 clear d1 d2
 go_loop [15] (fun v15 => ∃ i : Nat, v15 = .int .i64 i ∧ Aside0 (i ≤ l.length ∧ ∀ j, j < i → charB (rd l (j : Nat)) = true)) (fun v15 => l.length - (intOf v15).toNat)
 case atStart => exact ⟨0, rfl, ⟨⟨Nat.zero_le _, fun j hj => absurd hj (Nat.not_lt_zero _)⟩⟩⟩
 case round =>
  obtain ⟨i, rfl, HI⟩ := hrel
  by_cases hlt : i < l.length
  ·
   have d3 : decide ((i : Int) < (l.length : Int)) = true := decide_eq_true (by omega)
   obtain ⟨ad, rfl, hx⟩ := Kd.at_int HR.out (i : Int) (by omega) (by omega)
   rw [Int.toNat_natCast] at hx
   have HX := Aside0.mk (show rd l (i : Nat) = rd l (i : Nat) from rfl)
   obtain ⟨x, hxx⟩ : ∃ x, rd l (i : Nat) = x := ⟨_, rfl⟩
   rw [hxx] at hx
   have HXX := Aside0.mk hxx
   have hi1 : (0 : Int) ≤ i := by omega
   have hi2 : (i : Int) < (l.length : Int) := by omega
   have hlen : l.length ≤ 16 := HL.out.2
   clear hxx HX
   rcases char_cases x with ⟨hb, q1, q2⟩ | ⟨hb, q1, q2, q3⟩ | ⟨hb, rfl⟩ | ⟨hb, rfl⟩ | ⟨hb, q1, q2, q3, q4, q5, q6⟩ | ⟨hb, q1, q2, q3, q4, q5, q6, q7⟩ | ⟨hb, q1, q2, q3, q4, q5, q6, q7, q8⟩
   ·
    have HB := Aside0.mk hb
    clear hb
    go_wp2
    go_round
    case rel => exact ⟨i + 1, by go_num, ⟨⟨by omega, fun j hj => by
     by_cases e : j = i
     ·
      rw [e, HXX.out]; exact HB.out
     ·
      exact HI.out.2 j (by omega)⟩⟩⟩
    case measure => simp [intOf]; omega
   ·
    have HB := Aside0.mk hb
    clear hb
    go_wp2
    go_round
    case rel => exact ⟨i + 1, by go_num, ⟨⟨by omega, fun j hj => by
     by_cases e : j = i
     ·
      rw [e, HXX.out]; exact HB.out
     ·
      exact HI.out.2 j (by omega)⟩⟩⟩
    case measure => simp [intOf]; omega
   ·
    have HB := Aside0.mk hb
    clear hb
    go_wp2
    go_round
    case rel => exact ⟨i + 1, by go_num, ⟨⟨by omega, fun j hj => by
     by_cases e : j = i
     ·
      rw [e, HXX.out]; exact HB.out
     ·
      exact HI.out.2 j (by omega)⟩⟩⟩
    case measure => simp [intOf]; omega
   ·
    have HB := Aside0.mk hb
    clear hb
    go_wp2
    go_round
    case rel => exact ⟨i + 1, by go_num, ⟨⟨by omega, fun j hj => by
     by_cases e : j = i
     ·
      rw [e, HXX.out]; exact HB.out
     ·
      exact HI.out.2 j (by omega)⟩⟩⟩
    case measure => simp [intOf]; omega
   all_goals
    have HB := Aside0.mk hb
    clear hb
    go_wp2
    go_ret
    rw [nameB_no hlt (by rw [HXX.out]; exact HB.out)]
    exact ⟨rfl, rfl⟩
  ·
   have d3 : decide ((i : Int) < (l.length : Int)) = false := decide_eq_false (by omega)
   obtain rfl : i = l.length := by have := HI.out.1; omega
   go_wp2
   go_ret
   rw [nameB_yes HL.out.1 HL.out.2 HI.out.2]
   exact ⟨rfl, rfl⟩
set_option maxHeartbeats 2000000 in
set_option maxRecDepth 100000 in
theorem nameNot_calls (A : Option Addr) (c : Nat) (l : List Int) (w : World) (h : Kd.C (Kd.int .u8) w A l.length l) (hc : l.length ≤ c) :
  Calls Tryd.prog 39 #[.slice A l.length c] w fun e w' => e = .returned (.bool (!nameB l)) ∧ w' = w := by
 go_enter Tryd.func39, Tryd.ntmps39
 go_wp2_with (go_at_call 40; refine (nameOk_calls A c l w h hc).mono ?_; rintro e w' ⟨rfl, rfl⟩)
 go_ret
 exact ⟨rfl, rfl⟩
end Go.Proofs.YtbgbocdohadhoaaDoor.Print
namespace Go.Proofs
open Go.Shelf
def Tryd.laysSplit_ren : Go.Shelf.Ren := ⟨fun | 7 => 37 | 11 => 87 | 14 => 119 | 15 => 120 | 16 => 121 | 17 => 139 | 19 => 140 | 20 => 141 | 21 => 142 | 22 => 72 | 23 => 143 | 24 => 144 | 25 => 145 | 26 => 165 | 29 => 149 | 30 => 166 | 31 => 167 | n => n, fun | 22 => 22 | 23 => 57 | 3 => 3 | 4 => 4 | 0 => 0 | 34 => 169 | 21 => 21 | 5 => 5 | 45 => 146 | 9 => 9 | 58 => 190 | 38 => 189 | 28 => 199 | 62 => 202 | 61 => 201 | n => n, fun | 2 => 0 | 3 => 1 | 4 => 2 | n => n⟩
theorem Tryd.laysSplit : Go.Proofs.SlLaysP.n7 Tryd.prog Tryd.laysSplit_ren := {
 mixed := by kernel_rfl
 f7 := Tryd.func37.trans (congrArg some (by kernel_rfl))
 f11 := Tryd.func87.trans (congrArg some (by kernel_rfl))
 f15 := Tryd.func120.trans (congrArg some (by kernel_rfl))
 f16 := Tryd.func121.trans (congrArg some (by kernel_rfl))
 f20 := Tryd.func141.trans (congrArg some (by kernel_rfl))
 f21 := Tryd.func142.trans (congrArg some (by kernel_rfl))
 f22 := Tryd.func72.trans (congrArg some (by kernel_rfl))
 f23 := Tryd.func143.trans (congrArg some (by kernel_rfl))
 f24 := Tryd.func144.trans (congrArg some (by kernel_rfl))
 f25 := Tryd.func145.trans (congrArg some (by kernel_rfl))
 f30 := Tryd.func166.trans (congrArg some (by kernel_rfl))
 f31 := Tryd.func167.trans (congrArg some (by kernel_rfl))
 t0 := Tryd.underlying0
 a0 := Tryd.isAgg0
 z0 := Tryd.sizeOf0
 v0 := Tryd.zeroValue0
 t3 := Tryd.underlying3
 a3 := Tryd.isAgg3
 z3 := Tryd.sizeOf3
 v3 := Tryd.zeroValue3
 t4 := Tryd.underlying4
 a4 := Tryd.isAgg4
 z4 := Tryd.sizeOf4
 v4 := Tryd.zeroValue4
 t5 := Tryd.underlying5
 a5 := Tryd.isAgg5
 z5 := Tryd.sizeOf5
 v5 := Tryd.zeroValue5
 t9 := Tryd.underlying9
 a9 := Tryd.isAgg9
 z9 := Tryd.sizeOf9
 v9 := Tryd.zeroValue9
 t22 := Tryd.underlying22
 a22 := Tryd.isAgg22
 z22 := Tryd.sizeOf22
 v22 := Tryd.zeroValue22
 t23 := Tryd.underlying57
 a23 := Tryd.isAgg57
 z23 := Tryd.sizeOf57
 v23 := Tryd.zeroValue57
 t38 := Tryd.underlying189
 a38 := Tryd.isAgg189
 z38 := Tryd.sizeOf189
 v38 := Tryd.zeroValue189
 t45 := Tryd.underlying146
 a45 := Tryd.isAgg146
 z45 := Tryd.sizeOf146
 v45 := Tryd.zeroValue146
 t58 := Tryd.underlying190
 a58 := Tryd.isAgg190
 z58 := Tryd.sizeOf190
 v58 := Tryd.zeroValue190
 g2 := by kernel_rfl
 i22 := by kernel_rfl }
def Tryd.laysCF_ren : Go.Shelf.Ren := ⟨fun | 8 => 38 | 6 => 88 | n => n, fun | 22 => 57 | 23 => 22 | 25 => 23 | 4 => 4 | 3 => 3 | 0 => 0 | n => n, fun | n => n⟩
theorem Tryd.laysCF : Go.Proofs.SlLaysH.n8 Tryd.prog Tryd.laysCF_ren := {
 mixed := by kernel_rfl
 f6 := ⟨Tryd.f88.name, by decide, Tryd.func88.trans (congrArg some (by kernel_rfl))⟩
 f8 := ⟨Tryd.f38.name, by decide, Tryd.func38.trans (congrArg some (by kernel_rfl))⟩
 t0 := Tryd.underlying0
 a0 := Tryd.isAgg0
 z0 := Tryd.sizeOf0
 v0 := Tryd.zeroValue0
 t3 := Tryd.underlying3
 a3 := Tryd.isAgg3
 z3 := Tryd.sizeOf3
 v3 := Tryd.zeroValue3
 t4 := Tryd.underlying4
 a4 := Tryd.isAgg4
 z4 := Tryd.sizeOf4
 v4 := Tryd.zeroValue4
 t22 := Tryd.underlying57
 a22 := Tryd.isAgg57
 z22 := Tryd.sizeOf57
 v22 := Tryd.zeroValue57
 a23 := Tryd.isAgg22
 z23 := Tryd.sizeOf22
 t25 := Tryd.underlying23
 a25 := Tryd.isAgg23
 z25 := Tryd.sizeOf23
 v25 := Tryd.zeroValue23 }
end Go.Proofs
