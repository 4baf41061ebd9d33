/- Texts of this session, joined by its own program. -/
import Derived.Test.YtbgbocdohadhoaaCDO2
import Derived.Deep.LoopGhost
import Derived.Laws.BitsLemmas
import Derived.Test.YtbgbocdohadhoaaCDO0
namespace Go.Proofs.Ytbgbocdohadhoaa.Print
open Go Go.RowKit Go.Proofs.YtbgbocdohadhoaaW.PrintWords Go.Proofs.YtbgbocdohadhoaaW.PrintLast Go.Proofs.YtbgbocdohadhoaaW.PrintMore
set_option linter.unusedVariables false
set_option linter.unusedSimpArgs false
structure PK (w0 W : World) (g : Nat) (l : List Int) : Prop where
  ex : ∃ A c, W.heap[g]? = some (.cells #[.slice A l.length c] 43 (0, 0)) ∧ Kd.R (Kd.int .u8) 5 W w0.heap.size (fun _ => True) (.slice A l.length c) l
  be : Below w0.heap.size w0 W
  hg : w0.heap.size ≤ g
def KeepP (w w' : World) (g : Nat) : Prop := w.heap.size ≤ w'.heap.size ∧ ∀ b, b < w.heap.size → b ≠ g → (¬ ∃ cs, w.heap[b]? = some (.cells cs 5 (0, 0))) → w'.heap[b]? = w.heap[b]?
theorem KeepP.refl (w : World) (g : Nat) : KeepP w w g := ⟨Nat.le_refl _, fun _ _ _ _ => rfl⟩
theorem KeepP.trans {a b c : World} {g : Nat} (h : KeepP a b g) (k : KeepP b c g) : KeepP a c g :=
  ⟨Nat.le_trans h.1 k.1, fun i hi hn hu => by
    have e := h.2 i hi hn hu
    exact (k.2 i (Nat.lt_of_lt_of_le hi h.1) hn (by rw [e]; exact hu)).trans e⟩
theorem KeepP.below {w w1 w2 : World} {g : Nat} (h : KeepP w w1 g) (hb : Below w1.heap.size w1 w2) : KeepP w w2 g := h.trans ⟨hb.size, fun i hi _ _ => hb.block i hi⟩
theorem KeepP.grown {w w1 w2 : World} {g : Nat} {v : Value} (h : KeepP w w1 g) (hg : w1.grownBy w2 v.ownBlock) (hty : ∀ k, v.ownBlock = some k → ∃ cells, w1.heap[k]? = some (.cells cells 5 (0, 0))) : KeepP w w2 g :=
  h.trans ⟨hg.size, fun i hi _ hu => hg.block i hi (fun e => hu (hty i e.symm))⟩
theorem KeepP.set {w w1 : World} {g j : Nat} (h : KeepP w w1 g) (v : Value) : KeepP w (w1.setCell ⟨g, j, none⟩ v) g :=
  h.trans ⟨by simp [World.setCell], fun i hi hn _ => Below.heap_setCell w1 ⟨g, j, none⟩ v i hn⟩
theorem or_byte (y : Int) (h : 0 ≤ y) : Go.bits .or .u8 (y % 256) 128 = y % 128 + 128 := by
  have key : ∀ n : Fin 256, Go.bits .or .u8 ((n.val : Nat) : Int) 128 = ((n.val : Nat) : Int) % 128 + 128 := by decide +kernel
  have h2 := key ⟨(y % 256).toNat, by omega⟩
  simp only at h2
  rw [show (((y % 256).toNat : Nat) : Int) = y % 256 by omega] at h2
  rw [h2]
  omega
theorem LEN10 (l xs : List Int) (i : Nat) (hi : i ≤ xs.length) : (l ++ (xs.take i).flatMap varN).length + 10 ≤ l.length + 10 * (i + 1) := by
  have h : ∀ ys : List Int, (ys.flatMap varN).length ≤ 10 * ys.length := by
    intro ys
    induction ys with
    | nil => simp
    | cons y r ih =>
      rw [List.flatMap_cons, List.length_append, List.length_cons]
      have := varN_length y
      omega
  have := h (xs.take i)
  rw [List.length_append]
  rw [List.length_take] at this
  omega
set_option maxHeartbeats 4000000 in
set_option maxRecDepth 100000 in
theorem packer_numbers (w0 w : World) (g : Nat) (l : List Int) (A : Option Addr) (c : Nat) (xs : List Int) (bx : Nat) (okx : Nat → Prop) (HP : PK w0 w g l) (hx : Kd.R (Kd.int .u64) 22 w bx okx (.slice A xs.length c) xs) (hr : ∀ x ∈ xs, 0 ≤ x ∧ x < 18446744073709551616) (hl : l.length + 10 * xs.length ≤ 100000000) :
    Calls Try.prog 24 #[.pointer (some ⟨g, 0, none⟩), .slice A xs.length c] w fun e w' => e = .returned (.tuple #[]) ∧ PK w0 w' g (l ++ xs.flatMap varN) ∧ KeepP w w' g := by
  have HX := Aside0.mk hx
  have HQ := Aside0.mk HP
  have HRR := Aside0.mk hr
  have HLL := Aside0.mk hl
  have hxl : xs.length ≤ 100000000 := by omega
  clear hx HP hr hl
  go_enter Try.func24, Try.ntmps24
  go_wp2
  go_loopw [8] (fun v8 wr => ∃ i : Nat, v8 = .int .i64 i ∧ i ≤ xs.length ∧ Aside0 (PK w0 wr g (l ++ (xs.take i).flatMap varN)) ∧ Aside0 (Kd.R (Kd.int .u64) 22 wr bx okx (.slice A xs.length c) xs) ∧ Aside0 (KeepP w wr g)) (fun v8 _ => xs.length - (intOf v8).toNat)
  case atStart => exact ⟨0, rfl, by omega, by simpa using HQ, HX, ⟨KeepP.refl w g⟩⟩
  case round =>
    clear HQ HX
    obtain ⟨i, rfl, hi, HQ, HX, HK⟩ := hrel
    by_cases hlt : i < xs.length
    · obtain ⟨ga, ca, eA, gb, gl, _⟩ := Kd.R_form HX.out (by omega)
      injection eA with eA _ eC
      subst eA
      subst eC
      have x0 := (Kd.R_celln (enc := Value.int .u64) (h1 := fun _ => rfl) 0 HX.out (i : Int) (by omega) (by omega)).1
      rw [Int.toNat_natCast] at x0
      have hxi : rdOf 0 xs (i : Int) = xs[i] := by rw [show rdOf 0 xs (i : Int) = xs.getD i 0 from rfl]; simp [List.getD_eq_getElem?_getD, hlt]
      rw [hxi] at x0
      have ⟨r0, r1⟩ := HRR.out xs[i] (List.getElem_mem hlt)
      have hd1 : decide ((i : Int) < (xs.length : Int)) = true := decide_eq_true (by omega)
      have hd2 : decide (i < xs.length) = true := decide_eq_true hlt
      have HTK := Aside0.mk (show (xs.take (i + 1)).flatMap varN = (xs.take i).flatMap varN ++ varN xs[i] by rw [List.take_succ_eq_append_getElem hlt, List.flatMap_append, List.flatMap_singleton])
      generalize hxe : xs[i] = x at *
      have HXE := Aside0.mk hxe
      clear hxe hxi
      go_wp2
      obtain ⟨wo, rfl⟩ : ∃ wo : World, wo = wr := ⟨_, rfl⟩
      go_loopw [5] (fun v5 wi => ∃ (y : Int) (j : Nat) (pre : List Int), v5 = .int .u64 y ∧ 0 ≤ y ∧ y < 18446744073709551616 ∧ Aside0 (y < 128 ^ j ∧ 0 < j ∧ pre.length + j ≤ l.length + 10 * (i + 1)) ∧ Aside0 (pre ++ varB j y = l ++ (xs.take i).flatMap varN ++ varN x) ∧ Aside0 (PK w0 wi g pre) ∧ Aside0 (Kd.R (Kd.int .u64) 22 wi bx okx (.slice (some ⟨ga, 0, none⟩) xs.length c) xs) ∧ Aside0 (KeepP w wi g)) (fun v5 _ => (intOf v5).toNat)
      case atStart => exact ⟨x, 10, l ++ (xs.take i).flatMap varN, rfl, r0, r1, ⟨⟨Int.lt_trans r1 (by decide), by omega, LEN10 l xs i (by omega)⟩⟩, ⟨rfl⟩, HQ, HX, HK⟩
      case round =>
        clear HQ HX HK r0 r1 x0
        obtain ⟨y, j, pre, rfl, y0, y1, HJ, HV, HP, HX, HK⟩ := hrel
        obtain ⟨hj1, hj2, hj3⟩ := HJ.out
        have HL := Aside0.mk (show (pre.length + 1) * 1 ≤ 140737488355328 by have := HLL.out; omega)
        obtain ⟨⟨Ap, cp, hbox, hR⟩, hbe, hgg⟩ := HP.out
        have z0 := blk_cell hbox 0
        have f0 := blk_frozen hbox 0
        simp only [List.getElem?_toArray, List.getElem?_cons_zero] at z0
        have HR := Aside0.mk hR
        have HB := Aside0.mk hbe
        have hne := Kd.R_ne hR hbox (by decide)
        have HZ := Aside0.mk (show (∀ w5, wr.grownBy w5 (Value.slice Ap pre.length cp).ownBlock → w5.cell? ⟨g, 0, none⟩ = some (Value.slice Ap pre.length cp)) ∧ (∀ w5, wr.grownBy w5 (Value.slice Ap pre.length cp).ownBlock → w5.frozen? ⟨g, 0, none⟩ = false) from ⟨fun w5 hg => (blk_cell (blk_grown hbox hg hne) 0).trans rfl, fun w5 hg => blk_frozen (blk_grown hbox hg hne) 0⟩)
        have HN := Aside0.mk (And.intro hbox (And.intro hne hgg))
        clear hbox hR hbe hgg hne
        by_cases hy : 128 ≤ y
        · have t1 : decide (128 ≤ y) = true := decide_eq_true hy
          have t2 := or_byte y y0
          have HD := Aside0.mk (And.intro y0 (And.intro y1 (And.intro hy (And.intro hj1 (And.intro hj2 hj3)))))
          clear hj1 hj2 hj3 hy y1
          go_wp2_with (at_builtin; refine Kd.R_append (Kd.int .u8) (w0 := w0) w0.heap.size rfl (.tmp 18) (.tmp 22) 23 5 (.int .u8 0) 1 rfl Try.underlying23 info5 rfl (by decide) (by omega) (.slice Ap pre.length cp) pre (y % 128 + 128) [.int .u8 (y % 128 + 128)] (fun _ => True) (fun _ => False) ?eS ?eX rfl (fun _ hk => hk.elim) (fun _ _ => trivial) HR.out HB.out HB.out.size HL.out ?_; (case eS => first | rfl | simp [Act.eval, Act.put]); (case eX => first | rfl | simp [Act.eval, Act.put]); intro v1 w5 ho hb hg hat; obtain ⟨A1, c1, rfl⟩ := Kd.R_slice ho; have ho' := Aside0.mk ho; have hb' := Aside0.mk hb; have hg' := Aside0.mk hg; have y0 := HZ.out.1 w5 hg; have y1 := HZ.out.2 w5 hg; clear ho hb hg hat)
          have HPn := Aside0.mk (show PK w0 (w5.setCell ⟨g, 0, none⟩ (.slice A1 (pre ++ [y % 128 + 128]).length c1)) g (pre ++ [y % 128 + 128]) from ⟨⟨A1, c1, blk_put (blk_grown HN.out.1 hg'.out HN.out.2.1) 0 _ rfl, Kd.R_set ho'.out (blk_grown HN.out.1 hg'.out HN.out.2.1) (by decide) 0 _⟩, below_set hb'.out HN.out.2.2, HN.out.2.2⟩)
          have HXn := Aside0.mk (show Kd.R (Kd.int .u64) 22 (w5.setCell ⟨g, 0, none⟩ (.slice A1 (pre ++ [y % 128 + 128]).length c1)) bx okx (.slice (some ⟨ga, 0, none⟩) xs.length c) xs from Kd.R_set (Kd.R_over' HX.out (Kd.R_typed HR.out) (by decide) hg'.out) (blk_grown HN.out.1 hg'.out HN.out.2.1) (by decide) 0 _)
          have HKn := Aside0.mk ((HK.out.grown hg'.out (Kd.R_typed HR.out)).set (j := 0) (.slice A1 (pre ++ [y % 128 + 128]).length c1))
          have eL : (pre ++ [y % 128 + 128]).length = pre.length + 1 := by simp
          rw [eL] at HPn HXn HKn
          obtain ⟨d0, d1, d2, d3, d4, d5⟩ := HD.out
          obtain ⟨j, rfl⟩ : ∃ q, j = q + 1 := ⟨j - 1, by omega⟩
          have hj0 : 0 < j := by
            rcases Nat.eq_zero_or_pos j with rfl | h
            · simp at d3; omega
            · exact h
          have hdv : y / 128 < 128 ^ j := by
            rw [Int.ediv_lt_iff_lt_mul (by omega)]
            rw [Int.pow_succ] at d3
            exact d3
          have hvv : (pre ++ [y % 128 + 128]) ++ varB j (y / 128) = l ++ (xs.take i).flatMap varN ++ varN x := by
            rw [← HV.out, varB, if_neg (by omega), List.append_assoc]
            rfl
          go_roundw
          case rel => exact ⟨y / 128, j, pre ++ [y % 128 + 128], rfl, by omega, by omega, ⟨⟨hdv, hj0, by rw [eL]; omega⟩⟩, ⟨hvv⟩, HPn, HXn, HKn⟩
          case measure => simp [intOf]; omega
        · have t1 : decide (128 ≤ y) = false := decide_eq_false hy
          have t3 : y % 256 = y := by omega
          have HD := Aside0.mk (And.intro y0 (And.intro y1 (And.intro hy (And.intro hj1 (And.intro hj2 hj3)))))
          clear hj1 hj2 hj3 hy y1 y0
          go_wp2_with (at_builtin; refine Kd.R_append (Kd.int .u8) (w0 := w0) w0.heap.size rfl (.tmp 32) (.tmp 35) 23 5 (.int .u8 0) 1 rfl Try.underlying23 info5 rfl (by decide) (by omega) (.slice Ap pre.length cp) pre (y) [.int .u8 (y)] (fun _ => True) (fun _ => False) ?eS ?eX rfl (fun _ hk => hk.elim) (fun _ _ => trivial) HR.out HB.out HB.out.size HL.out ?_; (case eS => first | rfl | simp [Act.eval, Act.put]); (case eX => first | rfl | simp [Act.eval, Act.put]); intro v1 w5 ho hb hg hat; obtain ⟨A1, c1, rfl⟩ := Kd.R_slice ho; have ho' := Aside0.mk ho; have hb' := Aside0.mk hb; have hg' := Aside0.mk hg; have y0 := HZ.out.1 w5 hg; have y1 := HZ.out.2 w5 hg; clear ho hb hg hat)
          have HPn := Aside0.mk (show PK w0 (w5.setCell ⟨g, 0, none⟩ (.slice A1 (pre ++ [y]).length c1)) g (pre ++ [y]) from ⟨⟨A1, c1, blk_put (blk_grown HN.out.1 hg'.out HN.out.2.1) 0 _ rfl, Kd.R_set ho'.out (blk_grown HN.out.1 hg'.out HN.out.2.1) (by decide) 0 _⟩, below_set hb'.out HN.out.2.2, HN.out.2.2⟩)
          have HXn := Aside0.mk (show Kd.R (Kd.int .u64) 22 (w5.setCell ⟨g, 0, none⟩ (.slice A1 (pre ++ [y]).length c1)) bx okx (.slice (some ⟨ga, 0, none⟩) xs.length c) xs from Kd.R_set (Kd.R_over' HX.out (Kd.R_typed HR.out) (by decide) hg'.out) (blk_grown HN.out.1 hg'.out HN.out.2.1) (by decide) 0 _)
          have HKn := Aside0.mk ((HK.out.grown hg'.out (Kd.R_typed HR.out)).set (j := 0) (.slice A1 (pre ++ [y]).length c1))
          have eL : (pre ++ [y]).length = pre.length + 1 := by simp
          rw [eL] at HPn HXn HKn
          obtain ⟨d0, d1, d2, d3, d4, d5⟩ := HD.out
          obtain ⟨j, rfl⟩ : ∃ q, j = q + 1 := ⟨j - 1, by omega⟩
          have hvv : pre ++ [y] = l ++ (xs.take (i + 1)).flatMap varN := by
            rw [HTK.out, ← List.append_assoc, ← HV.out, varB, if_pos (by omega)]
          rw [hvv] at HPn
          go_roundw
          case rel => exact ⟨i + 1, by go_num, by omega, HPn, HXn, HKn⟩
          case measure => simp [intOf]; omega
    · obtain rfl : i = xs.length := by omega
      go_wp2
      go_end0
      exact ⟨rfl, by simpa using HQ.out, HK.out⟩
theorem lit1 (w : World) (x : Int) : Kd.R (Kd.int .u64) 22 (w.alloc (.cells #[.int .u64 x] 22)) w.heap.size (fun _ => True) (.slice (some ⟨w.heap.size, 0, none⟩) 1 1) [x] :=
  Kd.R_of_own (enc := Value.int .u64) (h1 := fun _ => rfl) (xs := [x]) (own_lit w w.heap.size 22 .u64 [x] (Nat.le_refl _) (by simp)) (fun _ _ => trivial)
theorem PK.open_ {w0 W : World} {g : Nat} {l : List Int} (h : PK w0 W g l) : ∃ A c, W.heap[g]? = some (.cells #[.slice A l.length c] 43 (0, 0)) ∧ Kd.R (Kd.int .u8) 5 W w0.heap.size (fun _ => True) (.slice A l.length c) l ∧ W.cell? ⟨g, 0, none⟩ = some (.slice A l.length c) ∧ W.frozen? ⟨g, 0, none⟩ = false ∧
    ∀ w5, W.grownBy w5 (Value.slice A l.length c).ownBlock → w5.heap[g]? = some (.cells #[.slice A l.length c] 43 (0, 0)) ∧ w5.cell? ⟨g, 0, none⟩ = some (.slice A l.length c) ∧ w5.frozen? ⟨g, 0, none⟩ = false := by
  obtain ⟨⟨A, c, hbox, hR⟩, hbe, hgg⟩ := h
  have hne := Kd.R_ne hR hbox (by decide)
  exact ⟨A, c, hbox, hR, (blk_cell hbox 0).trans rfl, blk_frozen hbox 0, fun w5 hg => ⟨blk_grown hbox hg hne, (blk_cell (blk_grown hbox hg hne) 0).trans rfl, blk_frozen (blk_grown hbox hg hne) 0⟩⟩
theorem PK.put {w0 W w5 : World} {g : Nat} {l l' : List Int} {A A' : Option Addr} {c c' : Nat} (h : PK w0 W g l) (h5 : w5.heap[g]? = some (.cells #[.slice A l.length c] 43 (0, 0))) (hr : Kd.R (Kd.int .u8) 5 w5 w0.heap.size (fun _ => True) (.slice A' l'.length c') l') (hb : Below w0.heap.size w0 w5) : PK w0 (w5.setCell ⟨g, 0, none⟩ (.slice A' l'.length c')) g l' :=
  ⟨⟨A', c', blk_put h5 0 _ rfl, Kd.R_set hr h5 (by decide) 0 _⟩, below_set hb h.hg, h.hg⟩
theorem PK.alloc {w0 W : World} {g : Nat} {l : List Int} (h : PK w0 W g l) (o : Obj) : PK w0 (W.alloc o) g l := by
  obtain ⟨⟨A, c, hbox, hR⟩, hbe, hgg⟩ := h
  exact ⟨⟨A, c, blk_alloc hbox o, Kd.R_alloc hR o⟩, below_alloc hbe o, hgg⟩
set_option maxHeartbeats 2000000 in
set_option maxRecDepth 100000 in
theorem packer_text (w0 w : World) (g : Nat) (l : List Int) (A : Option Addr) (c : Nat) (b : List Int) (HP : PK w0 w g l) (hb : Kd.C (Kd.int .u8) w0 A b.length b) (hc : b.length ≤ c) (hl : l.length + 10 + b.length ≤ 100000000) :
    Calls Try.prog 25 #[.pointer (some ⟨g, 0, none⟩), .slice A b.length c] w fun e w' => e = .returned (.tuple #[]) ∧ PK w0 w' g (l ++ textB b) ∧ KeepP w w' g := by
  have HQ := Aside0.mk HP
  have HC := Aside0.mk hb
  have HLL := Aside0.mk hl
  have hu : IntKind.u64.wrap (b.length : Int) = (b.length : Int) := u64_id _ (by omega) (by omega)
  clear HP hb hl
  go_enter Try.func25, Try.ntmps25
  go_wp2_with fail
  refine (packer_numbers w0 _ g l (some ⟨w.heap.size, 0, none⟩) 1 [(b.length : Int)] w.heap.size (fun _ => True) (HQ.out.alloc _) (lit1 w _) (by intro x hx; rw [List.mem_singleton.1 hx]; have := HLL.out; omega) (by have := HLL.out; simp only [List.length_singleton]; omega)).mono ?_
  rintro e w1 ⟨rfl, h1, h2⟩
  rw [List.flatMap_singleton] at h1
  obtain ⟨Ap, cp, hbox, hR, z0, f0, hgz⟩ := h1.open_
  have H1 := Aside0.mk h1
  have HR := Aside0.mk hR
  have HX := Aside0.mk hbox
  have HZ := Aside0.mk hgz
  have HK := Aside0.mk ((KeepP.refl w g).below (below_alloc (Below.refl w.heap.size w) (.cells #[.int .u64 (b.length : Int)] 22)) |>.trans h2)
  have HL := Aside0.mk (show ((l ++ varN (b.length : Int)).length + b.length) * 1 ≤ 140737488355328 by have := HLL.out; have := varN_length (b.length : Int); rw [List.length_append]; omega)
  generalize hq : l ++ varN (b.length : Int) = q at *
  have HE := Aside0.mk hq
  clear h1 h2 hbox hR hgz hq hu
  go_wp2_with (at_builtin; refine Kd.R_append_rows (Kd.int .u8) (w0 := w0) w0.heap.size rfl (.tmp 14) (.tmp 15) 23 5 (.int .u8 0) 1 rfl Try.underlying23 info5 rfl (by decide) (by omega) (.slice Ap q.length cp) q b A b.length c (fun _ => True) (fun _ => False) ?eS ?eX ?aO ?aR (fun _ _ h => h) (fun _ h => h.elim) (fun _ _ => trivial) ?aB ?aS ?aL ?_; (case aO => exact HR.out); (case aR => exact Kd.C_below HC.out H1.out.be); (case aB => exact H1.out.be); (case aS => exact H1.out.be.size); (case aL => exact HL.out); (case eS => first | rfl | simp [Act.eval, Act.put]); (case eX => first | rfl | simp [Act.eval, Act.put]); intro v1 w5 ho hb hg hat; obtain ⟨A1, c1, rfl⟩ := Kd.R_slice ho; have ho' := Aside0.mk ho; have hb' := Aside0.mk hb; have hg' := Aside0.mk hg; have y0 := (HZ.out w5 hg).2.1; have y1 := (HZ.out w5 hg).2.2; clear ho hb hg hat)
  go_end0
  have hfin := H1.out.put (HZ.out _ hg'.out).1 ho'.out hb'.out
  have hk := (HK.out.grown hg'.out (Kd.R_typed HR.out)).set (j := 0) (.slice A1 (q ++ b).length c1)
  have eT : q ++ b = l ++ textB b := by rw [← HE.out, textB, List.append_assoc]
  have eL : (q ++ b).length = q.length + b.length := List.length_append
  rw [eL] at hfin hk
  rw [← eT]
  exact ⟨rfl, hfin, hk⟩
end Go.Proofs.Ytbgbocdohadhoaa.Print
namespace Go.Proofs.Ytbgbocdohadhoaa.Print
open Go.RowKit Go.Proofs.YtbgbocdohadhoaaW.PrintWords Go.Proofs.YtbgbocdohadhoaaW.PrintLast Go.Proofs.YtbgbocdohadhoaaW.PrintMore
set_option linter.unusedVariables false
set_option linter.unusedSimpArgs false
def OB (A : Option Addr) (n c : Nat) (k : Nat) : Prop := some k = (Value.slice A n c).ownBlock
structure BK (w0 W : World) (lo hi : Nat) (A : Option Addr) (c : Nat) (l : List Int) : Prop where
  r : Kd.R (Kd.int .u8) 5 W w0.heap.size (fun k => OB A l.length c k) (.slice A l.length c) l
  b : ∀ k, OB A l.length c k → lo ≤ k ∧ k < hi
theorem BK.reads {w0 W : World} {lo hi : Nat} {A : Option Addr} {c : Nat} {l : List Int} (h : BK w0 W lo hi A c l) : Kd.C (Kd.int .u8) W A l.length l ∧ l.length ≤ c := ⟨(Kd.R_reads' h.r).2.2, (Kd.R_reads' h.r).2.1⟩
theorem BK.of {w0 w W : World} {ok : Nat → Prop} {A : Option Addr} {c : Nat} {l : List Int} (h : Kd.R (Kd.int .u8) 5 W w.heap.size ok (.slice A l.length c) l) (hB : Below w0.heap.size w0 w) : BK w0 W w.heap.size W.heap.size A c l :=
  ⟨Kd.R_tight rfl (Kd.R_lower h hB.size), fun k hk => ⟨Kd.R_base h k hk.symm, Kd.R_lt h k hk.symm⟩⟩
theorem BK.kept {w0 W W' : World} {lo hi : Nat} {A : Option Addr} {c : Nat} {l : List Int} {S : Nat → Prop} (h : BK w0 W lo hi A c l) (hk : Kept W W' S) (hS : ∀ k, lo ≤ k → k < hi → ¬ S k) : BK w0 W' lo hi A c l :=
  ⟨Kd.R_kept h.r hk (fun k ho => hS k (h.b k ho).1 (h.b k ho).2), h.b⟩
theorem BK.below {w0 W W' : World} {lo hi : Nat} {A : Option Addr} {c : Nat} {l : List Int} (h : BK w0 W lo hi A c l) (hb : Below W.heap.size W W') : BK w0 W' lo hi A c l := ⟨Kd.R_below h.r hb, h.b⟩
end Go.Proofs.Ytbgbocdohadhoaa.Print
namespace Go.Proofs.Ytbgbocdohadhoaa.Print
open Go.RowKit Go.Proofs.YtbgbocdohadhoaaW.PrintWords Go.Proofs.YtbgbocdohadhoaaW.PrintLast Go.Proofs.YtbgbocdohadhoaaW.PrintMore
attribute [local go_sem] max2_int min2_int max_two min_two max_three min_three max_four min_four
set_option linter.unusedVariables false
set_option linter.unusedSimpArgs false
def laws_toByteS.l0 : Nat → List Int → List Int → Int → Option (List Int)
  | 0, _, _, _ => none
  | k + 1, x0, x3, x4 => if x4 < (x0.length : Int) then (if 0 ≤ x4 then (if x4 < (x3.length : Int) then (laws_toByteS.l0 k x0 (x3.set (x4 : Int).toNat (rd x0 x4)) (wrap64 (x4 + 1))) else (none)) else (none)) else (some x3)
def laws_toByteS.f (k : Nat) (l0 : List Int) : Option (List Int) := if 0 ≤ (l0.length : Int) then (if ((l0.length : Int) : Int).toNat ≤ 281474976710656 then (laws_toByteS.l0 k l0 (List.replicate ((l0.length : Int) : Int).toNat 0) 0) else (none)) else (none)
set_option maxHeartbeats 8000000 in
set_option maxRecDepth 100000 in
theorem laws_toByteS.calls (k : Nat) (A0 : Option Addr) (c0 : Nat) (l0 : List Int) (r : List Int) (w : World) (hr0 : Kd.C (Kd.int .u8) w A0 l0.length l0) (hc0 : l0.length ≤ c0) (h : laws_toByteS.f k l0 = some r) :
    Calls Try.prog 15 #[.slice A0 l0.length c0] w fun e w' => ∃ v0_ : Value, e = .returned (v0_) ∧ Kd.R (Kd.int .u8) 5 w' w.heap.size (fun _ => True) v0_ r ∧ Below w.heap.size w w' := by
  have HR0 := Aside0.mk hr0
  have HC0 := Aside0.mk hc0
  clear hr0 hc0
  have HB := Aside0.mk (Below.refl w.heap.size w)
  have H : (if 0 ≤ (l0.length : Int) then (if ((l0.length : Int) : Int).toNat ≤ 281474976710656 then (laws_toByteS.l0 k l0 (List.replicate ((l0.length : Int) : Int).toNat 0) 0) else (none)) else (none)) = some r := h
  clear h
  by_cases c2 : 0 ≤ (l0.length : Int)
  · rw [if_pos c2] at H
    have c2b0 := eq_true c2
    have c2b1 : decide (0 ≤ (l0.length : Int)) = true := decide_eq_true c2
    clear c2
    by_cases c3 : ((l0.length : Int) : Int).toNat ≤ 281474976710656
    · rw [if_pos c3] at H
      have c3b0 := eq_true c3
      have c3b1 : decide (((l0.length : Int) : Int).toNat ≤ 281474976710656) = true := decide_eq_true c3
      clear c3
      obtain ⟨y156, hy156⟩ : ∃ y_ : List Int, y_ = (List.replicate ((l0.length : Int) : Int).toNat 0) := ⟨_, rfl⟩
      replace H : (laws_toByteS.l0 k l0 y156 0) = some r := by first | (rw [hy156]; with_reducible exact H) | (have H2_ := (Option.bind_some _ _).symm.trans H; rw [hy156]; with_reducible exact H2_) | (have H2_ := (Option.bind_some _ _).symm.trans H; with_reducible exact H2_) | with_reducible exact H | (rw [hy156]; exact H) | exact H
      have Ny156 := Aside0.mk hy156
      clear hy156
      have H' := Aside0.mk H
      clear H
      go_enter Try.func15, Try.ntmps15
      go_wp2_with (first | ((with_reducible refine gate_dst (N := 7) rfl ?_); refine Kd.R_make (Kd.int .u8) _ 5 rfl (N := 7) rfl 23 _ _ rfl (l0.length : Int) rfl rfl Try.underlying23 (.int .u8 0) 1 info5 rfl (by decide) (by omega) 0 (ok := fun _ => True) (okp := fun _ => True) rfl (fun _ hk => hk) trivial (of_decide_eq_true (by first | (with_reducible assumption) | assumption)) (Nat.le_trans (Nat.mul_le_mul_right _ (of_decide_eq_true (by first | (with_reducible assumption) | assumption) : (l0.length : Int).toNat ≤ 281474976710656)) (by omega)) (Below.refl _ _) (Nat.le_refl _) ?_; intro v157 w4 ho5 hb hg_ hnew_; clear hg_ hnew_; (first | rw [← Ny156.out] at ho5 | (simp only [Int.reduceToNat] at ho5; rw [← Ny156.out] at ho5)); have n0_ := Aside0.mk (Kd.R_lower ho5 (below_size (by repeat (first | (with_reducible first | exact HB.out | apply below_alloc | apply pw_below_drewN | apply below_drew1) | exact HB.out)))); have n1_ := Aside0.mk (below_step (by repeat (first | (with_reducible first | exact HB.out | apply below_alloc | apply pw_below_drewN | apply below_drew1) | exact HB.out)) hb); clear HB; have HO158 := n0_; have HB := n1_; clear n0_ n1_; clear hb ho5))
      go_loopg [4] k (fun kq v4 w' => ∃ (x3_1 : List Int) (x4_1 : Int), v4 = .int .i64 x4_1 ∧ Aside0 (laws_toByteS.l0 kq l0 x3_1 x4_1 = some r) ∧ Aside0 (kq ≤ k) ∧ Aside0 (Kd.R (Kd.int .u8) 5 w' w.heap.size (fun _ => True) v157 x3_1) ∧ Aside0 (Below w.heap.size w w'))
      case atStart => exact ⟨(y156), (0), (by first | rfl | (simp; done) | (simp [*]; done)), H', ⟨Nat.le_refl _⟩, ⟨by (with_reducible repeat (first | apply Kd.R_alloc | apply Kd.R_drewN | apply Kd.R_drew)); exact HO158.out⟩, ⟨by repeat (first | (with_reducible first | exact HB.out | apply below_alloc | apply pw_below_drewN | apply below_drew1) | exact HB.out)⟩⟩
      case round =>
        clear H'
        try clear c1
        try clear c2
        try clear c2b0
        try clear c2b1
        try clear p2
        try clear c3
        try clear c3b0
        try clear c3b1
        obtain ⟨x3_1, x4_1, rfl, HA, HK1, HO_3, HB⟩ := hrel
        cases gk with
        | zero => exact absurd HA.out (by simp [laws_toByteS.l0])
        | succ k1 =>
          have H := HA.out
          clear HA
          simp only [laws_toByteS.l0] at H
          by_cases c6 : x4_1 < (l0.length : Int)
          · rw [if_pos c6] at H
            have c6b0 : decide (x4_1 < (l0.length : Int)) = true := decide_eq_true c6
            clear c6
            by_cases c7 : 0 ≤ x4_1
            · rw [if_pos c7] at H
              have c7b0 : decide (0 ≤ x4_1) = true := decide_eq_true c7
              clear c7
              by_cases c8 : x4_1 < (x3_1.length : Int)
              · rw [if_pos c8] at H
                have c8b0 : decide (x4_1 < (x3_1.length : Int)) = true := decide_eq_true c8
                clear c8
                obtain ⟨y160, hy160⟩ : ∃ y_ : List Int, y_ = (x3_1.set (x4_1 : Int).toNat (rd l0 x4_1)) := ⟨_, rfl⟩
                replace H : (laws_toByteS.l0 k1 l0 y160 (wrap64 (x4_1 + 1))) = some r := by first | (rw [hy160]; with_reducible exact H) | (have H2_ := (Option.bind_some _ _).symm.trans H; rw [hy160]; with_reducible exact H2_) | (have H2_ := (Option.bind_some _ _).symm.trans H; with_reducible exact H2_) | with_reducible exact H | (rw [hy160]; exact H) | exact H
                have Ny160 := Aside0.mk hy160
                clear hy160
                have H' := Aside0.mk H
                clear H
                have p159 : 0 ≤ (x4_1 : Int) := of_decide_eq_true (by first | (with_reducible assumption) | assumption)
                have q159 : x4_1 < (l0.length : Int) := of_decide_eq_true (by first | (with_reducible assumption) | assumption)
                obtain ⟨ad159, e159, hx159_0⟩ := Kd.at_int HR0.out x4_1 p159 q159
                cases e159
                replace hx159_0 := (HB.out.cell (World.block_lt_of_cell? w _ hx159_0)).trans hx159_0
                replace p159 := eq_true p159
                replace q159 := eq_true q159
                have p9 : 0 ≤ (x4_1 : Int) := of_decide_eq_true (by first | (with_reducible assumption) | assumption)
                have q9 : (x4_1 : Int) < ((x3_1.length : Int) : Int) := of_decide_eq_true (by first | (with_reducible assumption) | assumption)
                obtain ⟨go9, co9, eo9, gb9, gl9, cl9, HG9⟩ := Kd.R_form HO_3.out (by omega)
                (first | cases eo9 | (injection eo9 with ea_ en_ ec_; (first | subst ea_ | (injection ea_ with ea_; subst ea_)); subst ec_; clear en_))
                have GB9 := Aside0.mk gb9
                have GG9 := Aside0.mk HG9
                clear gb9 gl9 HG9
                obtain ⟨hx9_0, hf9_0⟩ := Kd.R_celln 0 HO_3.out (x4_1 : Int) p9 q9
                replace p9 := eq_true p9
                replace q9 := eq_true q9
                have HP10 := Kd.R_putg HO_3.out (x4_1 : Int) (rd l0 x4_1)
                go_wp2_with (first | ((with_reducible refine gate_store (t := 5) (p := 20) rfl ?_); refine store_event (t := 5) (p := 20) (v := ?vo_w11) (w1 := (wr.setCell ⟨go9, (x4_1 : Int).toNat, none⟩ (.int .u8 (rd l0 x4_1)))) ?hg ?ho ?hn ?hr ?_; (case ho => rfl); (case hg => rfl); (case hn => rfl); (case hr => first | (go_simp; done) | (go_simp; rfl)); intro w11 hw; have hg : wr.grownBy w11 (some go9) := (by rw [hw]; exact HP10.2); have hp_ : Kd.R (Kd.int .u8) 5 w11 w.heap.size (fun _ => True) (.slice (some ⟨go9, 0, none⟩) x3_1.length co9) y160 := (by rw [hw, Ny160.out]; exact HP10.1); clear HP10; have n0_ := Aside0.mk (hp_); have n1_ := Aside0.mk ((by rw [hw]; exact below_set (HB.out) GB9.out : Below w.heap.size w w11)); clear HO_3; clear HB; have HO_3 := n0_; have HB := n1_; clear n0_ n1_; clear hg hw hp_))
                go_roundg k1
                case measure => have := HK1.out; omega
                case rel => exact ⟨(y160), (wrap64 (x4_1 + 1)), (by first | rfl | (simp; done) | (simp [*]; done)), H', ⟨by have := HK1.out; omega⟩, ⟨by (with_reducible repeat (first | apply Kd.R_alloc | apply Kd.R_drewN | apply Kd.R_drew)); exact HO_3.out⟩, ⟨by repeat (first | (with_reducible first | exact HB.out | apply below_alloc | apply pw_below_drewN | apply below_drew1) | exact HB.out)⟩⟩
              · rw [if_neg c8] at H
                exact absurd H (by simp)
            · rw [if_neg c7] at H
              exact absurd H (by simp)
          · rw [if_neg c6] at H
            have c6b0 : decide (x4_1 < (l0.length : Int)) = false := decide_eq_false c6
            clear c6
            obtain rfl := Option.some.inj H
            go_wp2
            go_ret
            exact ⟨_, by first | rfl | (simp [errW_none, errW_some] <;> rfl) | (simp [*, errW_none, errW_some] <;> rfl), by (with_reducible repeat (first | apply Kd.R_alloc | apply Kd.R_drewN | apply Kd.R_drew)); exact HO_3.out, by repeat (first | (with_reducible first | exact HB.out | apply below_alloc | apply pw_below_drewN | apply below_drew1) | exact HB.out)⟩
    · rw [if_neg c3] at H
      exact absurd H (by simp)
  · rw [if_neg c2] at H
    exact absurd H (by simp)
end Go.Proofs.Ytbgbocdohadhoaa.Print
namespace Go.Proofs.Ytbgbocdohadhoaa.Print
open Go.RowKit Go.Proofs.YtbgbocdohadhoaaW.PrintWords Go.Proofs.YtbgbocdohadhoaaW.PrintLast Go.Proofs.YtbgbocdohadhoaaW.PrintMore
attribute [local go_sem] max2_int min2_int max_two min_two max_three min_three max_four min_four
set_option linter.unusedVariables false
set_option linter.unusedSimpArgs false
def laws_eqByteS.l0 : Nat → List Int → List Int → Int → Option (Bool)
  | 0, _, _, _ => none
  | k + 1, x0, x1, x5 => if x5 < (x0.length : Int) then (if 0 ≤ x5 then (if x5 < (x1.length : Int) then (if (rd x0 x5) = (rd x1 x5) then (laws_eqByteS.l0 k x0 x1 (wrap64 (x5 + 1))) else (some false)) else (none)) else (none)) else (some true)
def laws_eqByteS.f (k : Nat) (l0 : List Int) (l1 : List Int) : Option (Bool) := if (l0.length : Int) = (l1.length : Int) then (laws_eqByteS.l0 k l0 l1 0) else (some false)
set_option maxHeartbeats 8000000 in
set_option maxRecDepth 100000 in
theorem laws_eqByteS.calls (k : Nat) (A0 : Option Addr) (c0 : Nat) (l0 : List Int) (A1 : Option Addr) (c1 : Nat) (l1 : List Int) (r : Bool) (w : World) (hr0 : Kd.C (Kd.int .u8) w A0 l0.length l0) (hc0 : l0.length ≤ c0) (hr1 : Kd.C (Kd.int .u8) w A1 l1.length l1) (hc1 : l1.length ≤ c1) (h : laws_eqByteS.f k l0 l1 = some r) :
    Calls Try.prog 9 #[.slice A0 l0.length c0, .slice A1 l1.length c1] w fun e w' => e = .returned (.bool r) ∧ Drawn0 w w' := by
  have HR0 := Aside0.mk hr0
  have HC0 := Aside0.mk hc0
  clear hr0 hc0
  have HR1 := Aside0.mk hr1
  have HC1 := Aside0.mk hc1
  clear hr1 hc1
  have H : (if (l0.length : Int) = (l1.length : Int) then (laws_eqByteS.l0 k l0 l1 0) else (some false)) = some r := h
  clear h
  by_cases c3 : (l0.length : Int) = (l1.length : Int)
  · rw [if_pos c3] at H
    have c3b0 : ((l0.length : Int) == (l1.length : Int)) = true := beq_iff_eq.mpr c3
    have c3b1 : ((l0.length : Int) != (l1.length : Int)) = false := bne_eq_false_iff_eq.mpr c3
    have c3b2 : (l0.length == l1.length) = true := by first | simpa using c3 | (simp at c3 ⊢; omega)
    clear c3
    have H' := Aside0.mk H
    clear H
    go_enter Try.func9, Try.ntmps9
    go_wp2
    repeat (go_quiet (fail); try go_wp2)
    go_loopg [5] k (fun kq v5 w' => ∃ (x5_1 : Int), v5 = .int .i64 x5_1 ∧ Aside0 (laws_eqByteS.l0 kq l0 l1 x5_1 = some r) ∧ Aside0 (kq ≤ k) ∧ Drawn0 w w')
    case atStart => exact ⟨(0), (by first | rfl | (simp; done) | (simp [*]; done)), H', ⟨Nat.le_refl _⟩, by repeat (first | exact Drawn0.refl _ | apply Drawn0.step)⟩
    case round =>
      clear H'
      try clear c1
      try clear p2
      try clear c3
      try clear c3b0
      try clear c3b1
      try clear c3b2
      obtain ⟨x5_1, rfl, HA, HK1, ⟨m1, rfl⟩⟩ := hrel
      cases gk with
      | zero => exact absurd HA.out (by simp [laws_eqByteS.l0])
      | succ k1 =>
        have H := HA.out
        clear HA
        simp only [laws_eqByteS.l0] at H
        by_cases c4 : x5_1 < (l0.length : Int)
        · rw [if_pos c4] at H
          have c4b0 : decide (x5_1 < (l0.length : Int)) = true := decide_eq_true c4
          clear c4
          by_cases c5 : 0 ≤ x5_1
          · rw [if_pos c5] at H
            have c5b0 : decide (0 ≤ x5_1) = true := decide_eq_true c5
            clear c5
            by_cases c6 : x5_1 < (l1.length : Int)
            · rw [if_pos c6] at H
              have c6b0 : decide (x5_1 < (l1.length : Int)) = true := decide_eq_true c6
              clear c6
              by_cases c7 : (rd l0 x5_1) = (rd l1 x5_1)
              · rw [if_pos c7] at H
                have c7b0 : ((rd l0 x5_1) == (rd l1 x5_1)) = true := beq_iff_eq.mpr c7
                have c7b1 : ((rd l0 x5_1) != (rd l1 x5_1)) = false := bne_eq_false_iff_eq.mpr c7
                clear c7
                have H' := Aside0.mk H
                clear H
                have p190 : 0 ≤ (x5_1 : Int) := of_decide_eq_true (by first | (with_reducible assumption) | assumption)
                have q190 : x5_1 < (l0.length : Int) := of_decide_eq_true (by first | (with_reducible assumption) | assumption)
                obtain ⟨ad190, e190, hx190_0⟩ := Kd.at_int HR0.out x5_1 p190 q190
                cases e190
                replace p190 := eq_true p190
                replace q190 := eq_true q190
                have p191 : 0 ≤ (x5_1 : Int) := of_decide_eq_true (by first | (with_reducible assumption) | assumption)
                have q191 : x5_1 < (l1.length : Int) := of_decide_eq_true (by first | (with_reducible assumption) | assumption)
                obtain ⟨ad191, e191, hx191_0⟩ := Kd.at_int HR1.out x5_1 p191 q191
                cases e191
                replace p191 := eq_true p191
                replace q191 := eq_true q191
                go_wp2
                repeat (go_quiet (fail); try go_wp2)
                go_roundg k1
                case measure => have := HK1.out; omega
                case rel => exact ⟨(wrap64 (x5_1 + 1)), (by first | rfl | (simp; done) | (simp [*]; done)), H', ⟨by have := HK1.out; omega⟩, by repeat (first | exact Drawn0.refl _ | apply Drawn0.step)⟩
              · rw [if_neg c7] at H
                have c7b0 : ((rd l0 x5_1) == (rd l1 x5_1)) = false := beq_eq_false_iff_ne.mpr c7
                have c7b1 : ((rd l0 x5_1) != (rd l1 x5_1)) = true := bne_iff_ne.mpr c7
                obtain rfl := Option.some.inj H
                have p190 : 0 ≤ (x5_1 : Int) := of_decide_eq_true (by first | (with_reducible assumption) | assumption)
                have q190 : x5_1 < (l0.length : Int) := of_decide_eq_true (by first | (with_reducible assumption) | assumption)
                obtain ⟨ad190, e190, hx190_0⟩ := Kd.at_int HR0.out x5_1 p190 q190
                cases e190
                replace p190 := eq_true p190
                replace q190 := eq_true q190
                have p191 : 0 ≤ (x5_1 : Int) := of_decide_eq_true (by first | (with_reducible assumption) | assumption)
                have q191 : x5_1 < (l1.length : Int) := of_decide_eq_true (by first | (with_reducible assumption) | assumption)
                obtain ⟨ad191, e191, hx191_0⟩ := Kd.at_int HR1.out x5_1 p191 q191
                cases e191
                replace p191 := eq_true p191
                replace q191 := eq_true q191
                go_wp2
                repeat (go_quiet (fail); try go_wp2)
                go_ret
                exact ⟨by first | rfl | (simp; done) | (simp [*]; done), by repeat (first | exact Drawn0.refl _ | apply Drawn0.step)⟩
            · rw [if_neg c6] at H
              exact absurd H (by simp)
          · rw [if_neg c5] at H
            exact absurd H (by simp)
        · rw [if_neg c4] at H
          have c4b0 : decide (x5_1 < (l0.length : Int)) = false := decide_eq_false c4
          clear c4
          obtain rfl := Option.some.inj H
          go_wp2
          repeat (go_quiet (fail); try go_wp2)
          go_ret
          exact ⟨by first | rfl | (simp; done) | (simp [*]; done), by repeat (first | exact Drawn0.refl _ | apply Drawn0.step)⟩
  · rw [if_neg c3] at H
    have c3b0 : ((l0.length : Int) == (l1.length : Int)) = false := beq_eq_false_iff_ne.mpr c3
    have c3b1 : ((l0.length : Int) != (l1.length : Int)) = true := bne_iff_ne.mpr c3
    have c3b2 : (l0.length == l1.length) = false := by first | simpa using c3 | (simp at c3 ⊢; omega)
    obtain rfl := Option.some.inj H
    go_enter Try.func9, Try.ntmps9
    go_wp2
    repeat (go_quiet (fail); try go_wp2)
    go_ret
    exact ⟨by first | rfl | (simp; done) | (simp [*]; done), by repeat (first | exact Drawn0.refl _ | apply Drawn0.step)⟩
end Go.Proofs.Ytbgbocdohadhoaa.Print
namespace Go.Proofs.Ytbgbocdohadhoaa.Print
open Go.RowKit Go.Proofs.YtbgbocdohadhoaaW.PrintWords Go.Proofs.YtbgbocdohadhoaaW.PrintLast Go.Proofs.YtbgbocdohadhoaaW.PrintMore
attribute [local go_sem] max2_int min2_int max_two min_two max_three min_three max_four min_four
set_option linter.unusedVariables false
set_option linter.unusedSimpArgs false
def laws_markByteS.l0 : Nat → List Int → Int → Int → Option (Int × List Int)
  | 0, _, _, _ => none
  | k + 1, x0, x1, x5 => if x5 < (x0.length : Int) then (if 0 ≤ x5 then (laws_markByteS.l0 k (x0.set (x5 : Int).toNat ((x1) % 256)) (wrap64 (x1 + 1)) (wrap64 (x5 + 1))) else (none)) else (some (x1, x0))
def laws_markByteS.f (k : Nat) (l0 : List Int) (a1 : Int) : Option (Int × List Int) := laws_markByteS.l0 k l0 a1 0
set_option maxHeartbeats 8000000 in
set_option maxRecDepth 100000 in
theorem laws_markByteS.calls (k : Nat) (P0_ : Nat → Prop) (u9000_ : Value) (l0 : List Int) (a1 : Int) (r1 : Int) (r2 : List Int) (w0 w : World) (hB : Below w0.heap.size w0 w) (ho0 : Kd.R (Kd.int .u8) 5 w w0.heap.size P0_ u9000_ l0) (h : laws_markByteS.f k l0 a1 = some (r1, r2)) :
    Calls Try.prog 12 #[u9000_, .int .i64 a1] w fun e w' => e = .returned (.int .i64 r1) ∧ Kd.R (Kd.int .u8) 5 w' w0.heap.size (fun k_ => (P0_ k_ ∨ w.heap.size ≤ k_)) u9000_ r2 ∧ Below w0.heap.size w0 w' ∧ Kept w w' (fun k_ => P0_ k_) := by
  have HO0 := Aside0.mk (show Kd.R (Kd.int .u8) 5 w w0.heap.size (fun k_ => (P0_ k_ ∨ w.heap.size ≤ k_)) u9000_ l0 from Kd.R_mono ho0 (fun k_ hk => (.inl hk)))
  have HK := Aside0.mk (Kept.refl w (fun k_ => P0_ k_))
  have HW0 := Aside0.mk hB.size
  have HB := Aside0.mk hB
  clear hB
  have H : (laws_markByteS.l0 k l0 a1 0) = some (r1, r2) := h
  clear h
  have H' := Aside0.mk H
  clear H
  go_enter Try.func12, Try.ntmps12
  go_wp2
  go_loopg [1, 5] k (fun kq v1 v5 w' => ∃ (x0_1 : List Int) (x1_1 : Int) (x5_1 : Int), v1 = .int .i64 x1_1 ∧ v5 = .int .i64 x5_1 ∧ Aside0 (laws_markByteS.l0 kq x0_1 x1_1 x5_1 = some (r1, r2)) ∧ Aside0 (kq ≤ k) ∧ Aside0 (Kd.R (Kd.int .u8) 5 w' w0.heap.size (fun k_ => (P0_ k_ ∨ w.heap.size ≤ k_)) u9000_ x0_1) ∧ Aside0 (Kept w w' (fun k_ => P0_ k_)) ∧ Aside0 (Below w0.heap.size w0 w'))
  case atStart => exact ⟨(l0), (a1), (0), (by first | rfl | (simp; done) | (simp [*]; done)), (by first | rfl | (simp; done) | (simp [*]; done)), H', ⟨Nat.le_refl _⟩, ⟨by (with_reducible repeat (first | apply Kd.R_alloc | apply Kd.R_drewN | apply Kd.R_drew)); exact HO0.out⟩, ⟨by repeat (first | (with_reducible first | exact HK.out | apply Kept.alloc | apply Kept.drewN | apply Kept.drew) | exact HK.out)⟩, ⟨by repeat (first | (with_reducible first | exact HB.out | apply below_alloc | apply pw_below_drewN | apply below_drew1) | exact HB.out)⟩⟩
  case round =>
    clear H'
    try clear c1
    try clear p2
    obtain ⟨x0_1, x1_1, x5_1, rfl, rfl, HA, HK1, HO_0, HK, HB⟩ := hrel
    cases gk with
    | zero => exact absurd HA.out (by simp [laws_markByteS.l0])
    | succ k1 =>
      have H := HA.out
      clear HA
      simp only [laws_markByteS.l0] at H
      by_cases c3 : x5_1 < (x0_1.length : Int)
      · rw [if_pos c3] at H
        have c3b0 : decide (x5_1 < (x0_1.length : Int)) = true := decide_eq_true c3
        clear c3
        by_cases c4 : 0 ≤ x5_1
        · rw [if_pos c4] at H
          have c4b0 : decide (0 ≤ x5_1) = true := decide_eq_true c4
          clear c4
          obtain ⟨y196, hy196⟩ : ∃ y_ : List Int, y_ = (x0_1.set (x5_1 : Int).toNat ((x1_1) % 256)) := ⟨_, rfl⟩
          replace H : (laws_markByteS.l0 k1 y196 (wrap64 (x1_1 + 1)) (wrap64 (x5_1 + 1))) = some (r1, r2) := by first | (rw [hy196]; with_reducible exact H) | (have H2_ := (Option.bind_some _ _).symm.trans H; rw [hy196]; with_reducible exact H2_) | (have H2_ := (Option.bind_some _ _).symm.trans H; with_reducible exact H2_) | with_reducible exact H | (rw [hy196]; exact H) | exact H
          have Ny196 := Aside0.mk hy196
          clear hy196
          have H' := Aside0.mk H
          clear H
          obtain ⟨Ao6, co6, eo6⟩ := Kd.R_slice HO_0.out
          subst eo6
          have p5 : 0 ≤ (x5_1 : Int) := of_decide_eq_true (by first | (with_reducible assumption) | assumption)
          have q5 : (x5_1 : Int) < ((x0_1.length : Int) : Int) := of_decide_eq_true (by first | (with_reducible assumption) | assumption)
          obtain ⟨go5, co5, eo5, gb5, gl5, cl5, HG5⟩ := Kd.R_form HO_0.out (by omega)
          (first | cases eo5 | (injection eo5 with ea_ en_ ec_; (first | subst ea_ | (injection ea_ with ea_; subst ea_)); subst ec_; clear en_))
          have GB5 := Aside0.mk gb5
          have GG5 := Aside0.mk HG5
          clear gb5 gl5 HG5
          have HMgo5 := Aside0.mk (show (P0_ go5 ∨ w.heap.size ≤ go5) from (HO_0.out.1 _ rfl))
          obtain ⟨hx5_0, hf5_0⟩ := Kd.R_celln 0 HO_0.out (x5_1 : Int) p5 q5
          replace p5 := eq_true p5
          replace q5 := eq_true q5
          have HP7 := Kd.R_putg HO_0.out (x5_1 : Int) ((x1_1) % 256)
          go_wp2_with (first | ((with_reducible refine gate_store (t := 5) (p := 16) rfl ?_); refine store_event (t := 5) (p := 16) (v := ?vo_w8) (w1 := (wr.setCell ⟨go5, (x5_1 : Int).toNat, none⟩ (.int .u8 ((x1_1) % 256)))) ?hg ?ho ?hn ?hr ?_; (case ho => rfl); (case hg => rfl); (case hn => rfl); (case hr => first | (go_simp; done) | (go_simp; rfl)); intro w8 hw; have hg : wr.grownBy w8 (some go5) := (by rw [hw]; exact HP7.2); have hp_ : Kd.R (Kd.int .u8) 5 w8 w0.heap.size (fun k_ => (P0_ k_ ∨ w.heap.size ≤ k_)) (.slice (some ⟨go5, 0, none⟩) x0_1.length co6) y196 := (by rw [hw, Ny196.out]; exact HP7.1); clear HP7; have n0_ := Aside0.mk (hp_); have n1_ := Aside0.mk ((by rw [hw]; exact below_set (HB.out) GB5.out : Below w0.heap.size w0 w8)); have n2_ := Aside0.mk (Kept.of_grown (S := (fun k_ => P0_ k_)) hg (by repeat (first | (with_reducible first | exact HK.out | apply Kept.alloc | apply Kept.drewN | apply Kept.drew) | exact HK.out)) (fun k_ e_ => (HO_0.out.1 k_ e_))); clear HO_0; clear HB; clear HK; have HO_0 := n0_; have HB := n1_; have HK := n2_; clear n0_ n1_ n2_; clear hg hw hp_))
          go_roundg k1
          case measure => have := HK1.out; omega
          case rel => exact ⟨(y196), (wrap64 (x1_1 + 1)), (wrap64 (x5_1 + 1)), (by first | rfl | (simp; done) | (simp [*]; done)), (by first | rfl | (simp; done) | (simp [*]; done)), H', ⟨by have := HK1.out; omega⟩, ⟨by (with_reducible repeat (first | apply Kd.R_alloc | apply Kd.R_drewN | apply Kd.R_drew)); exact HO_0.out⟩, ⟨by repeat (first | (with_reducible first | exact HK.out | apply Kept.alloc | apply Kept.drewN | apply Kept.drew) | exact HK.out)⟩, ⟨by repeat (first | (with_reducible first | exact HB.out | apply below_alloc | apply pw_below_drewN | apply below_drew1) | exact HB.out)⟩⟩
        · rw [if_neg c4] at H
          exact absurd H (by simp)
      · rw [if_neg c3] at H
        have c3b0 : decide (x5_1 < (x0_1.length : Int)) = false := decide_eq_false c3
        clear c3
        simp only [Option.some.injEq, Prod.mk.injEq] at H
        obtain ⟨rfl, rfl⟩ := H
        obtain ⟨Ao9, co9, eo9⟩ := Kd.R_slice HO_0.out
        subst eo9
        go_wp2
        go_ret
        exact ⟨by first | rfl | (simp [errW_none, errW_some] <;> rfl) | (simp [*, errW_none, errW_some] <;> rfl), by (with_reducible repeat (first | apply Kd.R_alloc | apply Kd.R_drewN | apply Kd.R_drew)); exact HO_0.out, by repeat (first | (with_reducible first | exact HB.out | apply below_alloc | apply pw_below_drewN | apply below_drew1) | exact HB.out), by repeat (first | (with_reducible first | exact HK.out | apply Kept.alloc | apply Kept.drewN | apply Kept.drew) | exact HK.out)⟩
end Go.Proofs.Ytbgbocdohadhoaa.Print
namespace Go.Proofs.Ytbgbocdohadhoaa.Print
open Go.RowKit Go.Proofs.YtbgbocdohadhoaaW.PrintWords Go.Proofs.YtbgbocdohadhoaaW.PrintLast Go.Proofs.YtbgbocdohadhoaaW.PrintMore
attribute [local go_sem] max2_int min2_int max_two min_two max_three min_three max_four min_four
set_option linter.unusedVariables false
set_option linter.unusedSimpArgs false
def laws_heldByteS.l0 : Nat → List Int → Int → Int → Option (Int)
  | 0, _, _, _ => none
  | k + 1, x0, x1, x5 => if x5 < (x0.length : Int) then (if 0 ≤ x5 then (if (rd x0 x5) = ((x1) % 256) then (laws_heldByteS.l0 k x0 (wrap64 (x1 + 1)) (wrap64 (x5 + 1))) else (some (-1))) else (none)) else (some x1)
def laws_heldByteS.f (k : Nat) (l0 : List Int) (a1 : Int) : Option (Int) := laws_heldByteS.l0 k l0 a1 0
set_option maxHeartbeats 8000000 in
set_option maxRecDepth 100000 in
theorem laws_heldByteS.calls (k : Nat) (A0 : Option Addr) (c0 : Nat) (l0 : List Int) (a1 : Int) (r : Int) (w : World) (hr0 : Kd.C (Kd.int .u8) w A0 l0.length l0) (hc0 : l0.length ≤ c0) (h : laws_heldByteS.f k l0 a1 = some r) :
    Calls Try.prog 13 #[.slice A0 l0.length c0, .int .i64 a1] w fun e w' => e = .returned (.int .i64 r) ∧ Drawn0 w w' := by
  have HR0 := Aside0.mk hr0
  have HC0 := Aside0.mk hc0
  clear hr0 hc0
  have H : (laws_heldByteS.l0 k l0 a1 0) = some r := h
  clear h
  have H' := Aside0.mk H
  clear H
  go_enter Try.func13, Try.ntmps13
  go_wp2
  go_loopg [1, 5] k (fun kq v1 v5 w' => ∃ (x1_1 : Int) (x5_1 : Int), v1 = .int .i64 x1_1 ∧ v5 = .int .i64 x5_1 ∧ Aside0 (laws_heldByteS.l0 kq l0 x1_1 x5_1 = some r) ∧ Aside0 (kq ≤ k) ∧ Drawn0 w w')
  case atStart => exact ⟨(a1), (0), (by first | rfl | (simp; done) | (simp [*]; done)), (by first | rfl | (simp; done) | (simp [*]; done)), H', ⟨Nat.le_refl _⟩, by repeat (first | exact Drawn0.refl _ | apply Drawn0.step)⟩
  case round =>
    clear H'
    try clear c1
    try clear p2
    obtain ⟨x1_1, x5_1, rfl, rfl, HA, HK1, ⟨m1, rfl⟩⟩ := hrel
    cases gk with
    | zero => exact absurd HA.out (by simp [laws_heldByteS.l0])
    | succ k1 =>
      have H := HA.out
      clear HA
      simp only [laws_heldByteS.l0] at H
      by_cases c3 : x5_1 < (l0.length : Int)
      · rw [if_pos c3] at H
        have c3b0 : decide (x5_1 < (l0.length : Int)) = true := decide_eq_true c3
        clear c3
        by_cases c4 : 0 ≤ x5_1
        · rw [if_pos c4] at H
          have c4b0 : decide (0 ≤ x5_1) = true := decide_eq_true c4
          clear c4
          by_cases c5 : (rd l0 x5_1) = ((x1_1) % 256)
          · rw [if_pos c5] at H
            have c5b0 : ((rd l0 x5_1) == ((x1_1) % 256)) = true := beq_iff_eq.mpr c5
            have c5b1 : ((rd l0 x5_1) != ((x1_1) % 256)) = false := bne_eq_false_iff_eq.mpr c5
            clear c5
            have H' := Aside0.mk H
            clear H
            have p202 : 0 ≤ (x5_1 : Int) := of_decide_eq_true (by first | (with_reducible assumption) | assumption)
            have q202 : x5_1 < (l0.length : Int) := of_decide_eq_true (by first | (with_reducible assumption) | assumption)
            obtain ⟨ad202, e202, hx202_0⟩ := Kd.at_int HR0.out x5_1 p202 q202
            cases e202
            replace p202 := eq_true p202
            replace q202 := eq_true q202
            go_wp2
            go_roundg k1
            case measure => have := HK1.out; omega
            case rel => exact ⟨(wrap64 (x1_1 + 1)), (wrap64 (x5_1 + 1)), (by first | rfl | (simp; done) | (simp [*]; done)), (by first | rfl | (simp; done) | (simp [*]; done)), H', ⟨by have := HK1.out; omega⟩, by repeat (first | exact Drawn0.refl _ | apply Drawn0.step)⟩
          · rw [if_neg c5] at H
            have c5b0 : ((rd l0 x5_1) == ((x1_1) % 256)) = false := beq_eq_false_iff_ne.mpr c5
            have c5b1 : ((rd l0 x5_1) != ((x1_1) % 256)) = true := bne_iff_ne.mpr c5
            obtain rfl := Option.some.inj H
            have p202 : 0 ≤ (x5_1 : Int) := of_decide_eq_true (by first | (with_reducible assumption) | assumption)
            have q202 : x5_1 < (l0.length : Int) := of_decide_eq_true (by first | (with_reducible assumption) | assumption)
            obtain ⟨ad202, e202, hx202_0⟩ := Kd.at_int HR0.out x5_1 p202 q202
            cases e202
            replace p202 := eq_true p202
            replace q202 := eq_true q202
            go_wp2
            go_ret
            exact ⟨by first | rfl | (simp; done) | (simp [*]; done), by repeat (first | exact Drawn0.refl _ | apply Drawn0.step)⟩
        · rw [if_neg c4] at H
          exact absurd H (by simp)
      · rw [if_neg c3] at H
        have c3b0 : decide (x5_1 < (l0.length : Int)) = false := decide_eq_false c3
        clear c3
        obtain rfl := Option.some.inj H
        go_wp2
        go_ret
        exact ⟨by first | rfl | (simp; done) | (simp [*]; done), by repeat (first | exact Drawn0.refl _ | apply Drawn0.step)⟩
end Go.Proofs.Ytbgbocdohadhoaa.Print
namespace Go.Proofs.Ytbgbocdohadhoaa.Print
open Go.RowKit Go.Proofs.YtbgbocdohadhoaaW.PrintWords Go.Proofs.YtbgbocdohadhoaaW.PrintLast Go.Proofs.YtbgbocdohadhoaaW.PrintMore
attribute [local go_sem] max2_int min2_int max_two min_two max_three min_three max_four min_four
set_option linter.unusedVariables false
set_option linter.unusedSimpArgs false
end Go.Proofs.Ytbgbocdohadhoaa.Print
namespace Go.Proofs.Ytbgbocdohadhoaa.Print
open Go.RowKit Go.Proofs.YtbgbocdohadhoaaW.PrintWords Go.Proofs.YtbgbocdohadhoaaW.PrintLast Go.Proofs.YtbgbocdohadhoaaW.PrintMore
theorem wrap_up (i : Nat) (h : i ≤ 140737488355328) : wrap64 ((i : Int) + 1) = ((i + 1 : Nat) : Int) := by
  unfold wrap64; omega
theorem rd_nat (l : List Int) (i : Nat) : rd l (i : Int) = l.getD i 0 := by
  unfold rd; rw [Int.toNat_natCast]
theorem getD_at (l : List Int) (i : Nat) (h : i < l.length) : l.getD i 0 = l[i] := by
  rw [List.getD_eq_getElem?_getD, List.getElem?_eq_getElem h]; rfl
theorem toByteS_loop (l : List Int) (hl : l.length ≤ 140737488351232) (d : Nat) : ∀ (k i : Nat) (x : List Int), x.length = l.length → i + d = l.length → d < k →
    (∀ j, j < i → x[j]? = l[j]?) → laws_toByteS.l0 k l x (i : Int) = some l := by
  induction d with
  | zero =>
    intro k i x hx hi hk hj
    obtain ⟨k, rfl⟩ : ∃ m, k = m + 1 := ⟨k - 1, by omega⟩
    simp only [laws_toByteS.l0]
    rw [if_neg (by omega)]
    congr 1
    apply List.ext_getElem?
    intro j
    rcases Nat.lt_or_ge j i with h | h
    · exact hj j h
    · rw [List.getElem?_eq_none (by omega), List.getElem?_eq_none (by omega)]
  | succ d ih =>
    intro k i x hx hi hk hj
    obtain ⟨k, rfl⟩ : ∃ m, k = m + 1 := ⟨k - 1, by omega⟩
    simp only [laws_toByteS.l0]
    rw [if_pos (by omega), if_pos (by omega), if_pos (by omega), wrap_up i (by omega)]
    refine ih k (i + 1) _ (by rw [List.length_set]; exact hx) (by omega) (by omega) ?_
    intro j h
    rw [Int.toNat_natCast, List.getElem?_set]
    by_cases e : i = j
    · subst e
      rw [if_pos rfl, if_pos (by omega), rd_nat, List.getD_eq_getElem?_getD, List.getElem?_eq_getElem (by omega)]
      rfl
    · rw [if_neg e]
      exact hj j (by omega)
theorem toByteS_f (l : List Int) (hl : l.length ≤ 140737488351232) (k : Nat) (hk : l.length < k) : laws_toByteS.f k l = some l := by
  unfold laws_toByteS.f
  rw [if_pos (by omega), if_pos (by omega)]
  exact toByteS_loop l hl l.length k 0 _ (by rw [List.length_replicate]; omega) (by omega) hk (fun j h => absurd h (by omega))
theorem eqByteS_loop (l : List Int) (hl : l.length ≤ 140737488351232) (d : Nat) : ∀ (k i : Nat), i + d = l.length → d < k → laws_eqByteS.l0 k l l (i : Int) = some true := by
  induction d with
  | zero =>
    intro k i hi hk
    obtain ⟨k, rfl⟩ : ∃ m, k = m + 1 := ⟨k - 1, by omega⟩
    simp only [laws_eqByteS.l0]
    rw [if_neg (by omega)]
  | succ d ih =>
    intro k i hi hk
    obtain ⟨k, rfl⟩ : ∃ m, k = m + 1 := ⟨k - 1, by omega⟩
    simp only [laws_eqByteS.l0]
    rw [if_pos (by omega), if_pos (by omega), if_pos (by omega), if_pos trivial, wrap_up i (by omega)]
    exact ih k (i + 1) (by omega) (by omega)
theorem eqByteS_self (l : List Int) (hl : l.length ≤ 140737488351232) (k : Nat) (hk : l.length < k) : laws_eqByteS.f k l l = some true := by
  unfold laws_eqByteS.f
  rw [if_pos rfl]
  exact eqByteS_loop l hl l.length k 0 (by omega) hk
def marksB (n : Nat) (m : Nat) : List Int := (List.range n).map fun i => ((m + i : Nat) : Int) % 256
theorem marksB_length (n m : Nat) : (marksB n m).length = n := by simp [marksB]
theorem marksB_at (n m i : Nat) (h : i < n) : (marksB n m)[i]? = some (((m + i : Nat) : Int) % 256) := by simp [marksB, h]
theorem markByteS_loop (n m : Nat) (hm : m + n ≤ 140737488351232) (d : Nat) : ∀ (k i : Nat) (x : List Int), x.length = n → i + d = n → d < k → (∀ j, j < i → x[j]? = (marksB n m)[j]?) →
    laws_markByteS.l0 k x ((m + i : Nat) : Int) (i : Int) = some (((m + n : Nat) : Int), marksB n m) := by
  induction d with
  | zero =>
    intro k i x hx hi hk hj
    obtain ⟨k, rfl⟩ : ∃ m, k = m + 1 := ⟨k - 1, by omega⟩
    simp only [laws_markByteS.l0]
    rw [if_neg (by omega)]
    have e : x = marksB n m := by
      apply List.ext_getElem?
      intro j
      rcases Nat.lt_or_ge j i with h | h
      · exact hj j h
      · rw [List.getElem?_eq_none (by omega), List.getElem?_eq_none (by rw [marksB_length]; omega)]
    rw [e, show i = n by omega]
  | succ d ih =>
    intro k i x hx hi hk hj
    obtain ⟨k, rfl⟩ : ∃ m, k = m + 1 := ⟨k - 1, by omega⟩
    simp only [laws_markByteS.l0]
    rw [if_pos (by omega), if_pos (by omega), wrap_up i (by omega), wrap_up (m + i) (by omega)]
    refine ih k (i + 1) _ (by rw [List.length_set]; exact hx) (by omega) (by omega) ?_
    intro j h
    rw [Int.toNat_natCast, List.getElem?_set]
    by_cases e : i = j
    · subst e
      rw [if_pos rfl, if_pos (by omega), marksB_at n m i (by omega)]
    · rw [if_neg e]
      exact hj j (by omega)
theorem markByteS_f (l : List Int) (m : Nat) (hm : m + l.length ≤ 140737488351232) (k : Nat) (hk : l.length < k) : laws_markByteS.f k l (m : Int) = some (((m + l.length : Nat) : Int), marksB l.length m) := by
  unfold laws_markByteS.f
  exact markByteS_loop l.length m hm l.length k 0 l rfl (by omega) hk (fun j h => absurd h (by omega))
theorem heldByteS_loop (n m : Nat) (hm : m + n ≤ 140737488351232) (d : Nat) : ∀ (k i : Nat), i + d = n → d < k → laws_heldByteS.l0 k (marksB n m) ((m + i : Nat) : Int) (i : Int) = some (((m + n : Nat) : Int)) := by
  induction d with
  | zero =>
    intro k i hi hk
    obtain ⟨k, rfl⟩ : ∃ m, k = m + 1 := ⟨k - 1, by omega⟩
    simp only [laws_heldByteS.l0]
    rw [if_neg (by rw [marksB_length]; omega), show i = n by omega]
  | succ d ih =>
    intro k i hi hk
    obtain ⟨k, rfl⟩ : ∃ m, k = m + 1 := ⟨k - 1, by omega⟩
    simp only [laws_heldByteS.l0]
    have hr : rd (marksB n m) (i : Int) = ((m + i : Nat) : Int) % 256 := by
      rw [rd_nat, List.getD_eq_getElem?_getD, marksB_at n m i (by omega)]; rfl
    rw [if_pos (by rw [marksB_length]; omega), if_pos (by omega), if_pos hr, wrap_up i (by omega), wrap_up (m + i) (by omega)]
    exact ih k (i + 1) (by omega) (by omega)
theorem heldByteS_f (n m : Nat) (hm : m + n ≤ 140737488351232) (k : Nat) (hk : n < k) : laws_heldByteS.f k (marksB n m) (m : Int) = some (((m + n : Nat) : Int)) := by
  unfold laws_heldByteS.f
  exact heldByteS_loop n m hm n k 0 (by omega) hk
end Go.Proofs.Ytbgbocdohadhoaa.Print
namespace Go.Proofs.Ytbgbocdohadhoaa.Print
open Go.RowKit Go.Proofs.YtbgbocdohadhoaaW.PrintWords Go.Proofs.YtbgbocdohadhoaaW.PrintLast Go.Proofs.YtbgbocdohadhoaaW.PrintMore
attribute [local go_sem] max2_int min2_int max_two min_two max_three min_three max_four min_four
set_option linter.unusedVariables false
set_option linter.unusedSimpArgs false
end Go.Proofs.Ytbgbocdohadhoaa.Print
