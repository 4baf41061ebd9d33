/- Texts of this session, joined by its own program. -/
import Derived.Test.YtbgbocdohadhoaaDoorCDS3
namespace Go.Proofs.YtbgbocdohadhoaaDoor.Print
open Go Go.RowKit Go.Proofs.YtbgbocdohadhoaaDoorW.PrintWords Go.Proofs.YtbgbocdohadhoaaDoorW.PrintLast Go.Proofs.YtbgbocdohadhoaaDoorW.PrintMore
set_option linter.unusedVariables false
set_option linter.unusedSimpArgs false
section
def endL {α : Type} (ln : α → Nat) (xs : List α) (m : Nat) : Nat := m + sumL ln xs
theorem u64_of (v : Int) (h0 : 0 ≤ v) (h1 : v < 18446744073709551616) : IntKind.u64.wrap v = v := by
 simp [IntKind.wrap, IntKind.bits, IntKind.signed]
 omega
def markL {α : Type} (mk : α → Nat → α) (ln : α → Nat) : List α → Nat → List α
 | [], _ => []
 | x :: r, m => mk x m :: markL mk ln r (m + ln x)
section
variable {α : Type} (mk : α → Nat → α) (ln : α → Nat)
theorem markL_length (xs : List α) : ∀ m, (markL mk ln xs m).length = xs.length := by
 induction xs with
 | nil => intro m; rfl
 | cons x r ih => intro m; simp [markL, ih]
theorem markL_snoc (xs : List α) (x : α) : ∀ m, markL mk ln (xs ++ [x]) m = markL mk ln xs m ++ [mk x (m + sumL ln xs)] := by
 induction xs with
 | nil => intro m; simp [markL, sumL]
 | cons y r ih =>
  intro m
  simp only [List.cons_append, markL, ih, sumL]
  rw [Nat.add_assoc]
theorem sumL_take_le (xs : List α) (j : Nat) : sumL ln (xs.take j) ≤ sumL ln xs := by
 induction xs generalizing j with
 | nil => simp
 | cons x r ih => cases j with
  | zero => simp [sumL]
  | succ j => simp only [List.take_succ_cons, sumL]; have := ih j; omega
def midL (xs : List α) (m j : Nat) : List α := markL mk ln (xs.take j) m ++ xs.drop j
theorem midL_length (xs : List α) (m j : Nat) (hj : j ≤ xs.length) : (midL mk ln xs m j).length = xs.length := by simp [midL, markL_length]; omega
theorem midL_at (xs : List α) (m j : Nat) (hj : j < xs.length) : (midL mk ln xs m j)[j]? = some xs[j] := by
 unfold midL
 rw [List.getElem?_append_right (by rw [markL_length, List.length_take]; omega), markL_length, List.length_take]
 rw [show j - min j xs.length = 0 by omega, List.getElem?_drop, Nat.add_zero, List.getElem?_eq_getElem hj]
theorem midL_succ (xs : List α) (m j : Nat) (hj : j < xs.length) : (midL mk ln xs m j).set j (mk xs[j] (m + sumL ln (xs.take j))) = midL mk ln xs m (j + 1) := by
 unfold midL
 rw [List.set_append_right _ _ (by rw [markL_length, List.length_take]; omega), markL_length, List.length_take, show j - min j xs.length = 0 by omega, List.take_succ_eq_append_getElem hj, markL_snoc, List.drop_eq_getElem_cons hj, List.set_cons_zero, List.append_assoc]
 rfl
theorem midL_full (xs : List α) (m : Nat) : midL mk ln xs m xs.length = markL mk ln xs m := by rw [midL, List.take_length, List.drop_length, List.append_nil]
theorem markL_at (xs : List α) (m j : Nat) (hj : j < xs.length) : (markL mk ln xs m)[j]'(by rw [markL_length]; exact hj) = mk xs[j] (m + sumL ln (xs.take j)) := by
 induction xs generalizing m j with
 | nil => simp at hj
 | cons x r ih => cases j with
  | zero => rfl
  | succ j =>
   simp only [markL, List.getElem_cons_succ, List.take_succ_cons, sumL]
   rw [ih _ j (by simpa using hj), Nat.add_assoc]
end
def marksU (n : Nat) (m : Nat) : List Int := (List.range n).map fun i => ((m + i : Nat) : Int)
theorem marksU_length (n m : Nat) : (marksU n m).length = n := by simp [marksU]
theorem marksU_at (n m i : Nat) (h : i < n) : (marksU n m)[i]? = some (((m + i : Nat) : Int)) := by simp [marksU, h]
theorem u64_nat (m : Nat) (h : m ≤ 140737488351232) : IntKind.u64.wrap (m : Int) = (m : Int) := u64_of _ (by omega) (by omega)
theorem markUint64S_loop (n m : Nat) (hm : m + n ≤ 140737488351232) (d : Nat) : ∀ (k i : Nat) (x : List Int), x.length = n → i + d = n → d < k → (∀ j, j < i → x[j]? = (marksU n m)[j]?) →
  laws_markUint64S.l0 k x ((m + i : Nat) : Int) (i : Int) = some (((m + n : Nat) : Int), marksU n m) := by
 induction d with
 | zero =>
  intro k i x hx hi hk hj
  obtain ⟨k, rfl⟩ : ∃ q, k = q + 1 := ⟨k - 1, by omega⟩
  have he : x = marksU n m := by
   apply List.ext_getElem?
   intro j
   rcases Nat.lt_or_ge j i with h | h
   ·
    exact hj j h
   ·
    rw [List.getElem?_eq_none (by omega), List.getElem?_eq_none (by rw [marksU_length]; omega)]
  rw [laws_markUint64S.l0, if_neg (by omega), he, show i = n by omega]
 | succ d ih =>
  intro k i x hx hi hk hj
  obtain ⟨k, rfl⟩ : ∃ q, k = q + 1 := ⟨k - 1, by omega⟩
  rw [laws_markUint64S.l0, if_pos (by omega), if_pos (by omega), wrap_up (m + i) (by omega), wrap_up i (by omega), u64_nat _ (by omega), Int.toNat_natCast]
  refine ih k (i + 1) _ (by simp [hx]) (by omega) (by omega) (fun j hjj => ?_)
  by_cases e : j = i
  ·
   subst e
   rw [List.getElem?_set_self (by omega), marksU_at _ _ _ (by omega)]
  ·
   rw [List.getElem?_set_ne (fun q => e q.symm)]
   exact hj j (by omega)
theorem markUint64S_f (l : List Int) (m : Nat) (hm : m + l.length ≤ 140737488351232) (k : Nat) (hk : l.length < k) : laws_markUint64S.f k l (m : Int) = some (((m + l.length : Nat) : Int), marksU l.length m) := by
 unfold laws_markUint64S.f
 exact markUint64S_loop l.length m hm l.length k 0 l rfl (by omega) hk (fun j hj => absurd hj (Nat.not_lt_zero _))
theorem wrap_upL (i : Nat) (h : i < 9223372036854775807) : wrap64 ((i : Int) + 1) = ((i + 1 : Nat) : Int) := by unfold wrap64; omega
theorem w64_id (i : Nat) (h : i ≤ 140737488355328) : wrap64 (i : Int) = (i : Int) := by unfold wrap64; omega
theorem i64_id (i : Nat) (h : i ≤ 140737488355328) : IntKind.i64.wrap (i : Int) = (i : Int) := (i64_w _).trans (w64_id i h)
theorem u64_id (i : Nat) (h : i ≤ 140737488355328) : IntKind.u64.wrap (i : Int) = (i : Int) := u64_of _ (by omega) (by omega)
def mkEv (x : Ev) (m : Nat) : Ev := ⟨(m : Int), marksB x.f1.length (m + 1)⟩
def lnEv (x : Ev) : Nat := 1 + x.f1.length
def mkSe (x : Se) (m : Nat) : Se := ⟨(m : Int), ((m + 1 : Nat) : Int), markL mkEv lnEv x.f2 (m + 2)⟩
def lnSe (x : Se) : Nat := 2 + sumL lnEv x.f2
def mkNo (x : No) (m : Nat) : No := ⟨marksB x.f0.length m, marksB x.f1.length (m + x.f0.length), ((m + x.f0.length + x.f1.length : Nat) : Int), ((m + x.f0.length + x.f1.length + 1 : Nat) : Int), marksU x.f4.length (m + x.f0.length + x.f1.length + 2), ((m + x.f0.length + x.f1.length + 2 + x.f4.length : Nat) : Int), ((m + x.f0.length + x.f1.length + 3 + x.f4.length : Nat) : Int), marksU x.f7.length (m + x.f0.length + x.f1.length + 4 + x.f4.length)⟩
def lnNo (x : No) : Nat := x.f0.length + x.f1.length + 4 + x.f4.length + x.f7.length
theorem H_at {α : Type} {d : Kd α} {e g n cap : Nat} {W : World} {base : Nat} {ok oki : Nat → Prop} {xs : List α} {i : Int} {c : List Value} (h : Kd.H d e W base ok (.slice (some ⟨g, 0, none⟩) n cap) xs i oki c) (h0 : 0 ≤ i) (h1 : i < n) :
  (∀ j u, c[j]? = some u → W.cell? ⟨g, i.toNat * d.sz + j, none⟩ = some u) ∧ ∀ j, W.frozen? ⟨g, i.toNat * d.sz + j, none⟩ = false := by
 obtain ⟨rows, _, hraw, _, _, hcc, _⟩ := Kd.H_raw h h0 h1
 obtain ⟨_, _, _, _, hfr⟩ := Kd.R_elem hraw [] i h0 h1
 exact ⟨hcc, hfr⟩
theorem R_reok2 {d : Kd Int} {e : Nat} {W : World} {base : Nat} {ok1 ok : Nat → Prop} {v : Value} {xs : List Int} (hE : d.E = []) (h : d.R e W base ok1 v xs) (hok : ∀ k, v.ownBlock = some k → ok k) : d.R e W base ok v xs := Kd.R_mono (Kd.R_tight hE h) (fun k hk => hok k hk.symm)
theorem kept_set {w w1 : World} {ok : Nat → Prop} {g j : Nat} {v : Value} (h : Kept w w1 ok) (hg : ok g) : Kept w (w1.setCell ⟨g, j, none⟩ v) ok :=
 ⟨Nat.le_trans h.1 (by simp), fun i hi hn => by rw [Below.heap_setCell w1 _ _ i (fun e => hn (e ▸ hg))]; exact h.2 i hi hn⟩
theorem kept_trans {w w1 w2 : World} {ok oki : Nat → Prop} (h : Kept w w1 ok) (h2 : Kept w1 w2 oki) (hs : ∀ k, oki k → ok k) : Kept w w2 ok :=
 ⟨Nat.le_trans h.1 h2.1, fun i hi hn => by rw [h2.2 i (Nat.lt_of_lt_of_le hi h.1) (fun q => hn (hs i q))]; exact h.2 i hi hn⟩
theorem H_kept {α : Type} {d : Kd α} {e g n cap : Nat} {W W1 : World} {base : Nat} {ok oki okj : Nat → Prop} {xs : List α} {i : Int} {c : List Value} (h : Kd.H d e W base ok (.slice (some ⟨g, 0, none⟩) n cap) xs i oki c) (hk : Kept W W1 okj) (hs : ∀ k, okj k → oki k) : Kd.H d e W1 base ok (.slice (some ⟨g, 0, none⟩) n cap) xs i oki c :=
 Kd.H_step h (fun k _ hn hlt => hk.2 k hlt (fun q => hn (hs k q)))
theorem H_set {α : Type} {d : Kd α} {e g n cap : Nat} {W : World} {base : Nat} {ok oki : Nat → Prop} {xs : List α} {i : Nat} {c c' : List Value} (h : Kd.H d e W base ok (.slice (some ⟨g, 0, none⟩) n cap) xs (i : Int) oki c) (h1 : (i : Int) < n) (j : Nat) (v : Value) (hj : j + 1 ≤ d.sz) (hv : v.oneCell' = true) (hc : c.take j ++ [v] ++ c.drop (j + 1) = c') :
  Kd.H d e (W.setCell ⟨g, i * d.sz + j, none⟩ v) base ok (.slice (some ⟨g, 0, none⟩) n cap) xs (i : Int) oki c' := by
 have hs := (Kd.H_seg h (by omega) h1 (seg := [v]) (j := j) hj (by intro q hq; rw [List.mem_singleton.1 hq]; exact hv)).1
 rw [Int.toNat_natCast] at hs
 rw [← hc]
 exact hs
theorem H_setN {e g n cap : Nat} {W : World} {base : Nat} {ok oki : Nat → Prop} {xs : List No} {i : Nat} {c c' : List Value} (h : Kd.H aNo e W base ok (.slice (some ⟨g, 0, none⟩) n cap) xs (i : Int) oki c) (h1 : (i : Int) < n) (j : Nat) (v : Value) (hj : j + 1 ≤ 8) (hv : v.oneCell' = true) (hc : c.take j ++ [v] ++ c.drop (j + 1) = c') :
  Kd.H aNo e (W.setCell ⟨g, i * 8 + j, none⟩ v) base ok (.slice (some ⟨g, 0, none⟩) n cap) xs (i : Int) oki c' := H_set h h1 j v hj hv hc
theorem R_kept {α : Type} {d : Kd α} {e : Nat} {w w1 : World} {base : Nat} {ok okj : Nat → Prop} {v : Value} {xs : List α} (h : Kd.R d e w base ok v xs) (hk : Kept w w1 okj) (hs : ∀ k, ok k → ¬ okj k) : Kd.R d e w1 base ok v xs := Kd.R_step h (fun k hk1 hlt => hk.2 k hlt (hs k hk1))
set_option maxHeartbeats 2000000 in
set_option maxRecDepth 100000 in
theorem markEventS_calls (m : Nat) (w0 w : World) (ok : Nat → Prop) (A : Option Addr) (c : Nat) (xs : List Ev) (hB : Below w0.heap.size w0 w) (h : Kd.S kEv tEv w w0.heap.size ok (.slice A xs.length c) xs) (hm : m + sumL lnEv xs ≤ 100000000) :
  Calls Tryd.prog 104 #[.slice A xs.length c, .int .i64 m] w fun e w' => e = .returned (.int .i64 ((m + sumL lnEv xs : Nat) : Int)) ∧ Kd.S kEv tEv w' w0.heap.size ok (.slice A xs.length c) (markL mkEv lnEv xs m) ∧ Below w0.heap.size w0 w' ∧ Kept w w' ok := by
 have HS := Aside0.mk h
 have HB := Aside0.mk hB
 clear h hB
 go_enter Tryd.func104, Tryd.ntmps104
 go_wp2
 go_loopg [1, 5] (xs.length + 1) (fun kq v1 v5 w' => ∃ (j : Nat), v1 = .int .i64 ((endL lnEv (xs.take j) m : Nat) : Int) ∧ v5 = .int .i64 (j : Int) ∧ Aside0 (j + kq = xs.length + 1 ∧ j ≤ xs.length) ∧ Aside0 (Kd.S kEv tEv w' w0.heap.size ok (.slice A xs.length c) (midL mkEv lnEv xs m j)) ∧ Aside0 (Kept w w' ok) ∧ Aside0 (Below w0.heap.size w0 w'))
 case atStart => exact ⟨0, by simp [endL, sumL], by simp, ⟨⟨by omega, by omega⟩⟩, ⟨by simp only [midL, List.take_zero, markL, List.nil_append, List.drop_zero]; exact HS.out⟩, ⟨Kept.refl _ _⟩, HB⟩
 case round =>
  clear HS HB
  obtain ⟨j, rfl, rfl, HJ, HS, HK, HB⟩ := hrel
  have hj0 := HJ.out
  by_cases hj : j < xs.length
  ·
   have c1 : decide ((j : Int) < (xs.length : Int)) = true := decide_eq_true (by omega)
   have c2 : decide (j < xs.length) = true := decide_eq_true hj
   have hlen := midL_length mkEv lnEv xs m j (by omega)
   have hat := midL_at mkEv lnEv xs m j hj
   have hes := sumL_succ lnEv xs j hj
   have hed : endL lnEv (xs.take j) m = m + sumL lnEv (xs.take j) := rfl
   have hed2 : endL lnEv (xs.take (j + 1)) m = m + sumL lnEv (xs.take (j + 1)) := rfl
   have hle := sumL_take_le lnEv xs (j + 1)
   have hlx : lnEv xs[j] = 1 + xs[j].f1.length := rfl
   obtain ⟨hmj, hl2⟩ : endL lnEv (xs.take j) m ≤ 100000000 ∧ endL lnEv (xs.take j) m + 1 + xs[j].f1.length ≤ 100000000 := by constructor <;> omega
   have hsucc := midL_succ mkEv lnEv xs m j hj
   have hes2 : endL lnEv (xs.take (j + 1)) m = endL lnEv (xs.take j) m + 1 + xs[j].f1.length := by omega
   rw [← hed] at hsucc
   clear hle hlx hes hed hed2
   generalize endL lnEv (xs.take j) m = mj at *
   generalize midL mkEv lnEv xs m j = ys at *
   have hpos : 0 < ys.length := by omega
   obtain ⟨g, cap, eA, gb, gl, _⟩ := Kd.S_form (by rw [← hlen] at HS; exact HS.out) hpos
   injection eA with eA _ eC
   subst eA
   subst eC
   obtain ⟨oki, cc, hcl, hM, hcc, hfr, hoki, hH⟩ := Kd.S_elem HS.out z138 (j : Int) (by omega) (by omega)
   rw [show ys.getD (j : Int).toNat z138 = xs[j] by rw [Int.toNat_natCast, List.getD_eq_getElem?_getD, hat]; rfl] at hM
   obtain ⟨v1, rfl, hR⟩ := k138_openM hM
   obtain ⟨Aj, kj, rfl⟩ := Kd.R_slice hR
   have x0 := hcc 0 _ rfl
   have x1 := hcc 1 _ rfl
   have f0 := hfr 0
   have f1 := hfr 1
   rw [show (j : Int).toNat * kEv.sz + 0 = j * 2 by rw [Int.toNat_natCast]; rfl] at x0 f0
   rw [show (j : Int).toNat * kEv.sz + 1 = j * 2 + 1 by rw [Int.toNat_natCast]; rfl] at x1 f1
   have hmB : mj ≤ 140737488355328 := by omega
   have hjB : j < 9223372036854775807 := by
    have := (Kd.S_reads' HS.out).2.2.2.1
    omega
   have HW := Aside0.mk (And.intro hmB hjB)
   clear hmB hjB
   have HH := Aside0.mk hH
   have HO := Aside0.mk hR
   have HM := Aside0.mk (And.intro hl2 (And.intro hsucc hes2))
   have gl' : g < wr.heap.size := gl
   have HG := Aside0.mk hoki
   clear hH hR hM hcc hfr hat hsucc hes2 hoki
   have hmk : mkEv xs[j] mj = ⟨(mj : Int), marksB xs[j].f1.length (mj + 1)⟩ := rfl
   rw [hmk] at HM
   clear hmk
   generalize xs[j].f1 = lb at x1 hl2 HO HM HH
   have hl3 : lb.length ≤ 100000000 := by omega
   have hl4 : mj + 1 + lb.length ≤ 100000000 := hl2
   have HN := Aside0.mk (And.intro gb (And.intro gl (And.intro hlen hj0)))
   have HL := Aside0.mk (And.intro hl3 hl4)
   clear hm hcl hj0 gb gl hlen hpos hl2 hl3 hl4
   have cu := i64_id mj HW.out.1
   have cu2 := w64_id mj HW.out.1
   have cw : wrap64 ((mj : Int) + 1) = (mj : Int) + 1 := wrap_up mj HW.out.1
   go_wp2_with fail
   clear cu cu2 cw
   obtain ⟨gb, gl, hlen, hj0⟩ := HN.out
   have hmf : laws_markByteS.f 200000000 lb ((mj : Int) + 1) = some (((mj + 1 + lb.length : Nat) : Int), marksB lb.length (mj + 1)) := by
    have := markByteS_f lb (mj + 1) (by have := HL.out; omega) 200000000 (by have := HL.out; omega)
    rwa [show ((mj + 1 : Nat) : Int) = (mj : Int) + 1 by omega] at this
   have hB1 : Below w0.heap.size w0 (wr.setCell ⟨g, j * 2, none⟩ (.int .i64 (mj : Int))) := below_set HB.out gb
   refine (laws_markByteS.calls 200000000 oki _ lb _ _ _ w0 _ hB1 (Kd.R_far (p := ⟨g, j * 2, none⟩) HO.out (fun k hk => (HG.out k hk).2) _) hmf).mono ?_
   rintro e w2 ⟨rfl, hr2, hb2, hk2⟩
   have okg : ok g := (Kd.S_R HS.out).1 g rfl
   have hs1 := H_set (g := g) HH.out (by omega) 0 (.int .i64 (mj : Int)) (by show 0 + 1 ≤ 2; omega) rfl (c' := [.int .i64 (mj : Int), .slice Aj lb.length kj]) rfl
   have hs2 := H_kept hs1 hk2 (fun _ h => h)
   have hM2 := k138_mkM w2 w0.heap.size oki ⟨(mj : Int), marksB lb.length (mj + 1)⟩ (v1 := .slice Aj lb.length kj) (R_reok2 rfl hr2 (fun k e => HO.out.1 k e))
   have hS2 := Kd.H_back hs2 (x' := ⟨(mj : Int), marksB lb.length (mj + 1)⟩) hM2 (fun k hk => hk)
   rw [Int.toNat_natCast, HM.out.2.1] at hS2
   have hK2 : Kept w w2 ok := kept_trans (kept_set HK.out okg) hk2 (fun k hk => (HG.out k hk).1)
   have HS2 := Aside0.mk hS2
   have HK2 := Aside0.mk hK2
   have HB2 := Aside0.mk hb2
   obtain ⟨k1, rfl⟩ : ∃ k1, gk = k1 + 1 := ⟨gk - 1, by omega⟩
   have HE := Aside0.mk HM.out.2.2
   clear HS HK HB hS2 hK2 hb2 hk2 hs1 hs2 hM2 hr2 hmf hB1 okg
   have HJ2 := Aside0.mk hj0
   clear hj0 gb gl hlen
   have cj := wrap_upL j HW.out.2
   go_wp2_with fail
   go_roundg k1
   case measure => clear cj; have := HJ2.out; omega
   case rel => exact ⟨j + 1, by rw [HE.out]; exact congrArg (Value.int .i64) (by clear cj; omega), congrArg (Value.int .i64) cj, ⟨by have := HJ2.out; omega⟩, HS2, HK2, HB2⟩
  ·
   have e : j = xs.length := by omega
   subst e
   have c1 : decide ((xs.length : Int) < (xs.length : Int)) = false := decide_eq_false (by omega)
   go_wp2
   go_ret
   exact ⟨by simp [endL, List.take_length], by have := HS.out; rwa [midL_full] at this, HB.out, HK.out⟩
set_option maxHeartbeats 2000000 in
set_option maxRecDepth 100000 in
theorem markSessionS_calls (m : Nat) (w0 w : World) (ok : Nat → Prop) (A : Option Addr) (c : Nat) (xs : List Se) (hB : Below w0.heap.size w0 w) (h : Kd.S aSe tSe w w0.heap.size ok (.slice A xs.length c) xs) (hm : m + sumL lnSe xs ≤ 100000000) :
  Calls Tryd.prog 59 #[.slice A xs.length c, .int .i64 m] w fun e w' => e = .returned (.int .i64 ((m + sumL lnSe xs : Nat) : Int)) ∧ Kd.S aSe tSe w' w0.heap.size ok (.slice A xs.length c) (markL mkSe lnSe xs m) ∧ Below w0.heap.size w0 w' ∧ Kept w w' ok := by
 have HS := Aside0.mk h
 have HB := Aside0.mk hB
 clear h hB
 go_enter Tryd.func59, Tryd.ntmps59
 go_wp2
 go_loopg [1, 5] (xs.length + 1) (fun kq v1 v5 w' => ∃ (j : Nat), v1 = .int .i64 ((endL lnSe (xs.take j) m : Nat) : Int) ∧ v5 = .int .i64 (j : Int) ∧ Aside0 (j + kq = xs.length + 1 ∧ j ≤ xs.length) ∧ Aside0 (Kd.S aSe tSe w' w0.heap.size ok (.slice A xs.length c) (midL mkSe lnSe xs m j)) ∧ Aside0 (Kept w w' ok) ∧ Aside0 (Below w0.heap.size w0 w'))
 case atStart => exact ⟨0, by simp [endL, sumL], by simp, ⟨⟨by omega, by omega⟩⟩, ⟨by simp only [midL, List.take_zero, markL, List.nil_append, List.drop_zero]; exact HS.out⟩, ⟨Kept.refl _ _⟩, HB⟩
 case round =>
  clear HS HB
  obtain ⟨j, rfl, rfl, HJ, HS, HK, HB⟩ := hrel
  have hj0 := HJ.out
  by_cases hj : j < xs.length
  ·
   have c1 : decide ((j : Int) < (xs.length : Int)) = true := decide_eq_true (by omega)
   have c2 : decide (j < xs.length) = true := decide_eq_true hj
   have hlen := midL_length mkSe lnSe xs m j (by omega)
   have hat := midL_at mkSe lnSe xs m j hj
   have hes := sumL_succ lnSe xs j hj
   have hed : endL lnSe (xs.take j) m = m + sumL lnSe (xs.take j) := rfl
   have hed2 : endL lnSe (xs.take (j + 1)) m = m + sumL lnSe (xs.take (j + 1)) := rfl
   have hle := sumL_take_le lnSe xs (j + 1)
   have hlx : lnSe xs[j] = 2 + sumL lnEv xs[j].f2 := rfl
   obtain ⟨hmj, hl2⟩ : endL lnSe (xs.take j) m ≤ 100000000 ∧ endL lnSe (xs.take j) m + 2 + sumL lnEv xs[j].f2 ≤ 100000000 := by constructor <;> omega
   have hsucc := midL_succ mkSe lnSe xs m j hj
   have hes2 : endL lnSe (xs.take (j + 1)) m = endL lnSe (xs.take j) m + 2 + sumL lnEv xs[j].f2 := by omega
   rw [← hed] at hsucc
   clear hle hlx hes hed hed2
   generalize endL lnSe (xs.take j) m = mj at *
   generalize midL mkSe lnSe xs m j = ys at *
   have hpos : 0 < ys.length := by omega
   obtain ⟨g, cap, eA, gb, gl, _⟩ := Kd.S_form (by rw [← hlen] at HS; exact HS.out) hpos
   injection eA with eA _ eC
   subst eA
   subst eC
   obtain ⟨oki, cc, hcl, hM, hcc, hfr, hoki, hH⟩ := Kd.S_elem HS.out z70 (j : Int) (by omega) (by omega)
   rw [show ys.getD (j : Int).toNat z70 = xs[j] by rw [Int.toNat_natCast, List.getD_eq_getElem?_getD, hat]; rfl] at hM
   obtain ⟨v1, rfl, hR⟩ := aSe_open hM
   obtain ⟨Aj, kj, rfl⟩ := Kd.S_slice hR
   have x0 := hcc 0 _ rfl
   have x1 := hcc 1 _ rfl
   have x2 := hcc 2 _ rfl
   have f0 := hfr 0
   have f1 := hfr 1
   have f2 := hfr 2
   rw [show (j : Int).toNat * aSe.sz + 0 = j * 3 by rw [Int.toNat_natCast]; rfl] at x0 f0
   rw [show (j : Int).toNat * aSe.sz + 1 = j * 3 + 1 by rw [Int.toNat_natCast]; rfl] at x1 f1
   rw [show (j : Int).toNat * aSe.sz + 2 = j * 3 + 2 by rw [Int.toNat_natCast]; rfl] at x2 f2
   have hmB : mj ≤ 140737488355328 := by omega
   have hmB2 : mj + 1 ≤ 140737488355328 := by omega
   have hjB : j < 9223372036854775807 := by
    have := (Kd.S_reads' HS.out).2.2.2.1
    omega
   have HW := Aside0.mk (And.intro hmB (And.intro hmB2 hjB))
   clear hmB hmB2 hjB
   have HH := Aside0.mk hH
   have HO := Aside0.mk hR
   have HM := Aside0.mk (And.intro hl2 (And.intro hsucc hes2))
   have gl' : g < wr.heap.size := gl
   have HG := Aside0.mk hoki
   clear hH hR hM hcc hfr hat hsucc hes2 hoki
   have hmk : mkSe xs[j] mj = ⟨(mj : Int), ((mj + 1 : Nat) : Int), markL mkEv lnEv xs[j].f2 (mj + 2)⟩ := rfl
   rw [hmk] at HM
   clear hmk
   generalize xs[j].f2 = lb at x2 hl2 HO HM HH
   have HN := Aside0.mk (And.intro gb (And.intro gl (And.intro hlen hj0)))
   have HL := Aside0.mk hl2
   clear hm hcl hj0 gb gl hlen hpos hl2
   have cu := u64_id mj HW.out.1
   have ci2 := w64_id (mj + 1) HW.out.2.1
   have ci3 := i64_id (mj + 1) HW.out.2.1
   have cw := wrap_up mj HW.out.1
   have cw2 : wrap64 (((mj + 1 : Nat) : Int) + 1) = ((mj + 2 : Nat) : Int) := wrap_up (mj + 1) HW.out.2.1
   obtain ⟨m1, hm1⟩ : ∃ m1, mj + 1 = m1 := ⟨_, rfl⟩
   obtain ⟨m2, hm2⟩ : ∃ m2, mj + 2 = m2 := ⟨_, rfl⟩
   rw [hm1] at ci2 ci3 cw cw2 HM
   rw [hm2] at cw2 HM
   have HME := Aside0.mk (And.intro hm1 hm2)
   clear hm1 hm2
   go_wp2_with fail
   clear cu ci2 ci3 cw cw2
   obtain ⟨gb, gl, hlen, hj0⟩ := HN.out
   obtain ⟨rfl, rfl⟩ := HME.out
   have hB1 := below_set (below_set HB.out (j := j * 3) (v := .int .u64 (mj : Int)) gb) (j := j * 3 + 1) (v := .int .i64 ((mj + 1 : Nat) : Int)) gb
   have hR1 := Kd.S_far (p := ⟨g, j * 3 + 1, none⟩) (Kd.S_far (p := ⟨g, j * 3, none⟩) HO.out (fun k hk => (HG.out k hk).2) (.int .u64 (mj : Int))) (fun k hk => (HG.out k hk).2) (.int .i64 ((mj + 1 : Nat) : Int))
   refine (markEventS_calls (mj + 2) w0 _ oki Aj kj lb hB1 hR1 HL.out).mono ?_
   rintro e w2 ⟨rfl, hr2, hb2, hk2⟩
   have okg : ok g := (Kd.S_R HS.out).1 g rfl
   have hs1 := H_set (g := g) HH.out (by omega) 0 (.int .u64 (mj : Int)) (by show 0 + 1 ≤ 3; omega) rfl (c' := [.int .u64 (mj : Int), _, .slice Aj lb.length kj]) rfl
   have hs1b := H_set (g := g) hs1 (by omega) 1 (.int .i64 ((mj + 1 : Nat) : Int)) (by show 1 + 1 ≤ 3; omega) rfl (c' := [.int .u64 (mj : Int), .int .i64 ((mj + 1 : Nat) : Int), .slice Aj lb.length kj]) rfl
   have hs2 := H_kept hs1b hk2 (fun _ h => h)
   have hM2 := aSe_mk w2 w0.heap.size oki ⟨(mj : Int), ((mj + 1 : Nat) : Int), markL mkEv lnEv lb (mj + 2)⟩ (v2 := .slice Aj lb.length kj) hr2
   have hS2 := Kd.H_back hs2 (x' := ⟨(mj : Int), ((mj + 1 : Nat) : Int), markL mkEv lnEv lb (mj + 2)⟩) hM2 (fun k hk => hk)
   rw [Int.toNat_natCast, HM.out.2.1] at hS2
   have hK2 : Kept w w2 ok := kept_trans (kept_set (kept_set HK.out okg) okg) hk2 (fun k hk => (HG.out k hk).1)
   have HS2 := Aside0.mk hS2
   have HK2 := Aside0.mk hK2
   have HB2 := Aside0.mk hb2
   obtain ⟨k1, rfl⟩ : ∃ k1, gk = k1 + 1 := ⟨gk - 1, by omega⟩
   have HE := Aside0.mk HM.out.2.2
   clear HS HK HB hS2 hK2 hb2 hk2 hs1 hs1b hs2 hM2 hr2 hR1 hB1 okg
   have HJ2 := Aside0.mk hj0
   clear hj0 gb gl hlen
   have cj := wrap_upL j HW.out.2.2
   go_wp2_with fail
   go_roundg k1
   case measure => clear cj; have := HJ2.out; omega
   case rel => exact ⟨j + 1, by rw [HE.out]; exact congrArg (Value.int .i64) (by clear cj; omega), congrArg (Value.int .i64) cj, ⟨by have := HJ2.out; omega⟩, HS2, HK2, HB2⟩
  ·
   have e : j = xs.length := by omega
   subst e
   have c1 : decide ((xs.length : Int) < (xs.length : Int)) = false := decide_eq_false (by omega)
   go_wp2
   go_ret
   exact ⟨by simp [endL, List.take_length], by have := HS.out; rwa [midL_full] at this, HB.out, HK.out⟩
set_option maxHeartbeats 4000000 in
set_option maxRecDepth 100000 in
theorem markNodeS_calls (m : Nat) (w0 w : World) (ok : Nat → Prop) (A : Option Addr) (c : Nat) (xs : List No) (hB : Below w0.heap.size w0 w) (h : Kd.S aNo tNo w w0.heap.size ok (.slice A xs.length c) xs) (hm : m + sumL lnNo xs ≤ 100000000) :
  Calls Tryd.prog 60 #[.slice A xs.length c, .int .i64 m] w fun e w' => e = .returned (.int .i64 ((m + sumL lnNo xs : Nat) : Int)) ∧ Kd.S aNo tNo w' w0.heap.size ok (.slice A xs.length c) (markL mkNo lnNo xs m) ∧ Below w0.heap.size w0 w' ∧ Kept w w' ok := by
 have HS := Aside0.mk h
 have HB := Aside0.mk hB
 clear h hB
 go_enter Tryd.func60, Tryd.ntmps60
 go_wp2
 go_loopg [1, 5] (xs.length + 1) (fun kq v1 v5 w' => ∃ (j : Nat), v1 = .int .i64 ((endL lnNo (xs.take j) m : Nat) : Int) ∧ v5 = .int .i64 (j : Int) ∧ Aside0 (j + kq = xs.length + 1 ∧ j ≤ xs.length) ∧ Aside0 (Kd.S aNo tNo w' w0.heap.size ok (.slice A xs.length c) (midL mkNo lnNo xs m j)) ∧ Aside0 (Kept w w' ok) ∧ Aside0 (Below w0.heap.size w0 w'))
 case atStart => exact ⟨0, by simp [endL, sumL], by simp, ⟨⟨by omega, by omega⟩⟩, ⟨by simp only [midL, List.take_zero, markL, List.nil_append, List.drop_zero]; exact HS.out⟩, ⟨Kept.refl _ _⟩, HB⟩
 case round =>
  clear HS HB
  obtain ⟨j, rfl, rfl, HJ, HS, HK, HB⟩ := hrel
  have hj0 := HJ.out
  by_cases hj : j < xs.length
  ·
   have c1 : decide ((j : Int) < (xs.length : Int)) = true := decide_eq_true (by omega)
   have c2 : decide (j < xs.length) = true := decide_eq_true hj
   have hlen := midL_length mkNo lnNo xs m j (by omega)
   have hat := midL_at mkNo lnNo xs m j hj
   have hes := sumL_succ lnNo xs j hj
   have hed : endL lnNo (xs.take j) m = m + sumL lnNo (xs.take j) := rfl
   have hed2 : endL lnNo (xs.take (j + 1)) m = m + sumL lnNo (xs.take (j + 1)) := rfl
   have hle := sumL_take_le lnNo xs (j + 1)
   have hlx : lnNo xs[j] = xs[j].f0.length + xs[j].f1.length + 4 + xs[j].f4.length + xs[j].f7.length := rfl
   obtain ⟨hmj, hl2⟩ : endL lnNo (xs.take j) m ≤ 100000000 ∧ endL lnNo (xs.take j) m + xs[j].f0.length + xs[j].f1.length + 4 + xs[j].f4.length + xs[j].f7.length ≤ 100000000 := by constructor <;> omega
   have hsucc := midL_succ mkNo lnNo xs m j hj
   have hes2 : endL lnNo (xs.take (j + 1)) m = endL lnNo (xs.take j) m + xs[j].f0.length + xs[j].f1.length + 4 + xs[j].f4.length + xs[j].f7.length := by omega
   rw [← hed] at hsucc
   clear hle hlx hes hed hed2
   generalize endL lnNo (xs.take j) m = mj at *
   generalize midL mkNo lnNo xs m j = ys at *
   have hpos : 0 < ys.length := by omega
   obtain ⟨g, cap, eA, gb, gl, _⟩ := Kd.S_form (by rw [← hlen] at HS; exact HS.out) hpos
   injection eA with eA _ eC
   subst eA
   subst eC
   obtain ⟨oki, cc, hcl, hM, hcc, hfr, hoki, hH⟩ := Kd.S_elem HS.out z76 (j : Int) (by omega) (by omega)
   rw [show ys.getD (j : Int).toNat z76 = xs[j] by rw [Int.toNat_natCast, List.getD_eq_getElem?_getD, hat]; rfl] at hM
   obtain ⟨p0, p1, p4, v0, v1, v4, v7, rfl, hR0, hR1, hR4, hR7⟩ := aNo_open hM
   have hmk : mkNo xs[j] mj = ⟨marksB xs[j].f0.length mj, marksB xs[j].f1.length (mj + xs[j].f0.length), ((mj + xs[j].f0.length + xs[j].f1.length : Nat) : Int), ((mj + xs[j].f0.length + xs[j].f1.length + 1 : Nat) : Int), marksU xs[j].f4.length (mj + xs[j].f0.length + xs[j].f1.length + 2), ((mj + xs[j].f0.length + xs[j].f1.length + 2 + xs[j].f4.length : Nat) : Int), ((mj + xs[j].f0.length + xs[j].f1.length + 3 + xs[j].f4.length : Nat) : Int), marksU xs[j].f7.length (mj + xs[j].f0.length + xs[j].f1.length + 4 + xs[j].f4.length)⟩ := rfl
   rw [hmk] at hsucc
   clear hmk
   obtain ⟨nd, hnd⟩ : ∃ nd, xs[j] = nd := ⟨_, rfl⟩
   rw [hnd] at hR0 hR1 hR4 hR7 hsucc hes2 hl2 hM hH hcc hcl
   obtain ⟨l0, l1, ow, mo, l4, ep, ge, l7⟩ := nd
   simp only at hR0 hR1 hR4 hR7 hsucc hes2 hl2 hH hcc
   clear hnd hM
   obtain ⟨A0, k0, rfl⟩ := Kd.R_slice hR0
   obtain ⟨A1, k1', rfl⟩ := Kd.R_slice hR1
   obtain ⟨A4, k4, rfl⟩ := Kd.R_slice hR4
   obtain ⟨A7, k7, rfl⟩ := Kd.R_slice hR7
   obtain ⟨m1, hm1⟩ : ∃ m1, mj + l0.length = m1 := ⟨_, rfl⟩
   rw [hm1] at hsucc hes2 hl2
   obtain ⟨m2, hm2⟩ : ∃ m2, m1 + l1.length = m2 := ⟨_, rfl⟩
   rw [hm2] at hsucc hes2 hl2
   obtain ⟨m4, hm4⟩ : ∃ m4, m2 + 2 + l4.length = m4 := ⟨_, rfl⟩
   rw [hm4, show m2 + 3 + l4.length = m4 + 1 by omega, show m2 + 4 + l4.length = m4 + 2 by omega] at hsucc
   have hes3 : endL lnNo (xs.take (j + 1)) m = m4 + 2 + l7.length := by omega
   have hjB : j < 9223372036854775807 := by
    have := (Kd.S_reads' HS.out).2.2.2.1
    omega
   have hmB : m2 ≤ 140737488355328 ∧ m2 + 1 ≤ 140737488355328 ∧ m4 ≤ 140737488355328 ∧ m4 + 1 ≤ 140737488355328 := by omega
   have HW := Aside0.mk (And.intro hjB hmB)
   clear hjB hmB
   have hm0 : mj + l0.length ≤ 100000000 ∧ m1 + l1.length ≤ 100000000 ∧ m2 + 2 + l4.length ≤ 100000000 ∧ m4 + 2 + l7.length ≤ 100000000 := by omega
   obtain ⟨n1, hn1⟩ : ∃ n1, m2 + 1 = n1 := ⟨_, rfl⟩
   obtain ⟨n2, hn2⟩ : ∃ n2, m2 + 2 = n2 := ⟨_, rfl⟩
   obtain ⟨n4, hn4⟩ : ∃ n4, m4 + 1 = n4 := ⟨_, rfl⟩
   obtain ⟨n5, hn5⟩ : ∃ n5, m4 + 2 = n5 := ⟨_, rfl⟩
   rw [hn1] at hsucc
   rw [hn2] at hsucc hm0 hm4
   rw [hn4] at hsucc
   rw [hn5] at hsucc hm0 hes3
   have HNN := Aside0.mk (And.intro hn1 (And.intro hn2 (And.intro hn4 hn5)))
   have HO0 := Aside0.mk hR0
   have HO1 := Aside0.mk hR1
   have HO4 := Aside0.mk hR4
   have HO7 := Aside0.mk hR7
   have HH := Aside0.mk hH
   have HM := Aside0.mk (And.intro hsucc hes3)
   have HL := Aside0.mk hm0
   have HE := Aside0.mk (And.intro hm1 (And.intro hm2 hm4))
   have HG := Aside0.mk hoki
   have okg : ok g := (Kd.S_R HS.out).1 g rfl
   have OKG := Aside0.mk okg
   have hji : (0 : Int) ≤ (j : Int) ∧ (j : Int) < xs.length := by omega
   have HJI := Aside0.mk hji
   have HN := Aside0.mk (And.intro gb (And.intro gl (And.intro hlen hj0)))
   obtain ⟨hcc, hfr⟩ := H_at hH hji.1 hji.2
   have x0 := hcc 0 _ rfl
   have f0 := hfr 0
   rw [show (j : Int).toNat * aNo.sz + 0 = j * 8 by rw [Int.toNat_natCast]; rfl] at x0 f0
   have x1 := hcc 1 _ rfl
   have f1 := hfr 1
   rw [show (j : Int).toNat * aNo.sz + 1 = j * 8 + 1 by rw [Int.toNat_natCast]; rfl] at x1 f1
   have x2 := hcc 2 _ rfl
   have f2 := hfr 2
   rw [show (j : Int).toNat * aNo.sz + 2 = j * 8 + 2 by rw [Int.toNat_natCast]; rfl] at x2 f2
   have x3 := hcc 3 _ rfl
   have f3 := hfr 3
   rw [show (j : Int).toNat * aNo.sz + 3 = j * 8 + 3 by rw [Int.toNat_natCast]; rfl] at x3 f3
   have x4 := hcc 4 _ rfl
   have f4 := hfr 4
   rw [show (j : Int).toNat * aNo.sz + 4 = j * 8 + 4 by rw [Int.toNat_natCast]; rfl] at x4 f4
   have x5 := hcc 5 _ rfl
   have f5 := hfr 5
   rw [show (j : Int).toNat * aNo.sz + 5 = j * 8 + 5 by rw [Int.toNat_natCast]; rfl] at x5 f5
   have x6 := hcc 6 _ rfl
   have f6 := hfr 6
   rw [show (j : Int).toNat * aNo.sz + 6 = j * 8 + 6 by rw [Int.toNat_natCast]; rfl] at x6 f6
   have x7 := hcc 7 _ rfl
   have f7 := hfr 7
   rw [show (j : Int).toNat * aNo.sz + 7 = j * 8 + 7 by rw [Int.toNat_natCast]; rfl] at x7 f7
   clear hH hR0 hR1 hR4 hR7 hcc hfr hat hsucc hes2 hes3 hoki hm1 hm2 hm4 hn1 hn2 hn4 hn5 hl2 hm0 okg hji hm hcl hj0 gb gl hlen hpos
   go_wp2_with fail
   have hmf0 : laws_markByteS.f 200000000 l0 (mj : Int) = some ((m1 : Int), marksB l0.length mj) := by
    rw [← HE.out.1]
    exact markByteS_f l0 mj (by have := HL.out; omega) 200000000 (by have := HL.out; omega)
   refine (laws_markByteS.calls 200000000 _ _ l0 _ _ _ w0 _ HB.out HO0.out hmf0).mono ?_
   rintro e w1 ⟨rfl, hr, hb, hk⟩
   replace HO1 := Aside0.mk (R_kept HO1.out hk (fun k h q => h.1.2 q.2))
   replace HO4 := Aside0.mk (R_kept HO4.out hk (fun k h q => h.1.1.2 q.2))
   replace HO7 := Aside0.mk (R_kept HO7.out hk (fun k h q => h.1.1.2 q.2))
   replace HH := Aside0.mk (H_kept HH.out hk (fun k h => h.1))
   replace HK := Aside0.mk (kept_trans HK.out hk (fun k h => (HG.out k (h.1)).1))
   have HO0' := HO0
   replace HO0 := Aside0.mk (R_reok2 rfl hr (fun k e => HO0'.out.1 k e))
   replace HB := Aside0.mk hb
   clear hr hb hk HO0' hmf0 x0 x1 x2 x3 x4 x5 x6 x7 f0 f1 f2 f3 f4 f5 f6 f7
   obtain ⟨hcc, hfr⟩ := H_at HH.out HJI.out.1 HJI.out.2
   have x0 := hcc 0 _ rfl
   have f0 := hfr 0
   rw [show (j : Int).toNat * aNo.sz + 0 = j * 8 by rw [Int.toNat_natCast]; rfl] at x0 f0
   have x1 := hcc 1 _ rfl
   have f1 := hfr 1
   rw [show (j : Int).toNat * aNo.sz + 1 = j * 8 + 1 by rw [Int.toNat_natCast]; rfl] at x1 f1
   have x2 := hcc 2 _ rfl
   have f2 := hfr 2
   rw [show (j : Int).toNat * aNo.sz + 2 = j * 8 + 2 by rw [Int.toNat_natCast]; rfl] at x2 f2
   have x3 := hcc 3 _ rfl
   have f3 := hfr 3
   rw [show (j : Int).toNat * aNo.sz + 3 = j * 8 + 3 by rw [Int.toNat_natCast]; rfl] at x3 f3
   have x4 := hcc 4 _ rfl
   have f4 := hfr 4
   rw [show (j : Int).toNat * aNo.sz + 4 = j * 8 + 4 by rw [Int.toNat_natCast]; rfl] at x4 f4
   have x5 := hcc 5 _ rfl
   have f5 := hfr 5
   rw [show (j : Int).toNat * aNo.sz + 5 = j * 8 + 5 by rw [Int.toNat_natCast]; rfl] at x5 f5
   have x6 := hcc 6 _ rfl
   have f6 := hfr 6
   rw [show (j : Int).toNat * aNo.sz + 6 = j * 8 + 6 by rw [Int.toNat_natCast]; rfl] at x6 f6
   have x7 := hcc 7 _ rfl
   have f7 := hfr 7
   rw [show (j : Int).toNat * aNo.sz + 7 = j * 8 + 7 by rw [Int.toNat_natCast]; rfl] at x7 f7
   clear hcc hfr
   go_wp2_with fail
   have hmf1 : laws_markByteS.f 200000000 l1 (m1 : Int) = some ((m2 : Int), marksB l1.length m1) := by
    rw [← HE.out.2.1]
    exact markByteS_f l1 m1 (by have := HL.out; omega) 200000000 (by have := HL.out; omega)
   refine (laws_markByteS.calls 200000000 _ _ l1 _ _ _ w0 _ HB.out HO1.out hmf1).mono ?_
   rintro e w2 ⟨rfl, hr, hb, hk⟩
   replace HO0 := Aside0.mk (R_kept HO0.out hk (fun k h q => q.1.2 h.2))
   replace HO4 := Aside0.mk (R_kept HO4.out hk (fun k h q => h.1.2 q.2))
   replace HO7 := Aside0.mk (R_kept HO7.out hk (fun k h q => h.1.2 q.2))
   replace HH := Aside0.mk (H_kept HH.out hk (fun k h => h.1.1))
   replace HK := Aside0.mk (kept_trans HK.out hk (fun k h => (HG.out k (h.1.1)).1))
   have HO1' := HO1
   replace HO1 := Aside0.mk (R_reok2 rfl hr (fun k e => HO1'.out.1 k e))
   replace HB := Aside0.mk hb
   clear hr hb hk HO1' hmf1 x0 x1 x2 x3 x4 x5 x6 x7 f0 f1 f2 f3 f4 f5 f6 f7
   obtain ⟨hcc, hfr⟩ := H_at HH.out HJI.out.1 HJI.out.2
   have x0 := hcc 0 _ rfl
   have f0 := hfr 0
   rw [show (j : Int).toNat * aNo.sz + 0 = j * 8 by rw [Int.toNat_natCast]; rfl] at x0 f0
   have x1 := hcc 1 _ rfl
   have f1 := hfr 1
   rw [show (j : Int).toNat * aNo.sz + 1 = j * 8 + 1 by rw [Int.toNat_natCast]; rfl] at x1 f1
   have x2 := hcc 2 _ rfl
   have f2 := hfr 2
   rw [show (j : Int).toNat * aNo.sz + 2 = j * 8 + 2 by rw [Int.toNat_natCast]; rfl] at x2 f2
   have x3 := hcc 3 _ rfl
   have f3 := hfr 3
   rw [show (j : Int).toNat * aNo.sz + 3 = j * 8 + 3 by rw [Int.toNat_natCast]; rfl] at x3 f3
   have x4 := hcc 4 _ rfl
   have f4 := hfr 4
   rw [show (j : Int).toNat * aNo.sz + 4 = j * 8 + 4 by rw [Int.toNat_natCast]; rfl] at x4 f4
   have x5 := hcc 5 _ rfl
   have f5 := hfr 5
   rw [show (j : Int).toNat * aNo.sz + 5 = j * 8 + 5 by rw [Int.toNat_natCast]; rfl] at x5 f5
   have x6 := hcc 6 _ rfl
   have f6 := hfr 6
   rw [show (j : Int).toNat * aNo.sz + 6 = j * 8 + 6 by rw [Int.toNat_natCast]; rfl] at x6 f6
   have x7 := hcc 7 _ rfl
   have f7 := hfr 7
   rw [show (j : Int).toNat * aNo.sz + 7 = j * 8 + 7 by rw [Int.toNat_natCast]; rfl] at x7 f7
   clear hcc hfr
   have cu2 := u64_id m2 HW.out.2.1
   have ca2 := wrap_up m2 HW.out.2.1
   have ci2 := w64_id (m2 + 1) HW.out.2.2.1
   have ci3 := i64_id (m2 + 1) HW.out.2.2.1
   have ca3 : wrap64 (((m2 + 1 : Nat) : Int) + 1) = ((m2 + 2 : Nat) : Int) := wrap_up (m2 + 1) HW.out.2.2.1
   rw [HNN.out.1] at ca2 ci2 ci3 ca3
   rw [HNN.out.2.1] at ca3
   go_wp2_with fail
   clear cu2 ca2 ci2 ci3 ca3
   have hB1 := below_set (below_set HB.out (j := j * 8 + 2) (v := .int .u64 (m2 : Int)) HN.out.1) (j := j * 8 + 3) (v := .int .i64 (n1 : Int)) HN.out.1
   have hs1 := H_setN (g := g) HH.out HJI.out.2 2 (.int .u64 (m2 : Int)) (by omega) rfl (c' := [.slice A0 l0.length k0, .slice A1 l1.length k1', .int .u64 (m2 : Int), .int .i64 mo, .slice A4 l4.length k4, .int .u64 ep, .int .u64 ge, .slice A7 l7.length k7]) rfl
   have hs2 := H_setN (g := g) hs1 HJI.out.2 3 (.int .i64 (n1 : Int)) (by omega) rfl (c' := [.slice A0 l0.length k0, .slice A1 l1.length k1', .int .u64 (m2 : Int), .int .i64 (n1 : Int), .slice A4 l4.length k4, .int .u64 ep, .int .u64 ge, .slice A7 l7.length k7]) rfl
   have hK1 := kept_set (kept_set HK.out OKG.out (j := j * 8 + 2) (v := .int .u64 (m2 : Int))) OKG.out (j := j * 8 + 3) (v := .int .i64 (n1 : Int))
   have far := fun {β : Type} {d : Kd β} {e : Nat} {q : Nat → Prop} {v : Value} {l : List β} (h : Kd.R d e w2 w0.heap.size q v l) (hq : ∀ k, q k → oki k) => Kd.R_far (p := ⟨g, j * 8 + 3, none⟩) (Kd.R_far (p := ⟨g, j * 8 + 2, none⟩) h (fun k hk => (HG.out k (hq k hk)).2) (.int .u64 (m2 : Int))) (fun k hk => (HG.out k (hq k hk)).2) (.int .i64 (n1 : Int))
   replace HO0 := Aside0.mk (far HO0.out (fun _ h => h.1))
   replace HO1 := Aside0.mk (far HO1.out (fun _ h => h.1.1))
   replace HO4 := Aside0.mk (far HO4.out (fun _ h => h.1.1.1))
   replace HO7 := Aside0.mk (far HO7.out (fun _ h => h.1.1.1))
   replace HH := Aside0.mk hs2
   replace HK := Aside0.mk hK1
   replace HB := Aside0.mk hB1
   clear far hs1 hs2 hK1 hB1
   generalize (w2.setCell ⟨g, j * 8 + 2, none⟩ (.int .u64 (m2 : Int))).setCell ⟨g, j * 8 + 3, none⟩ (.int .i64 (n1 : Int)) = w2' at *
   have hmf4 : laws_markUint64S.f 200000000 l4 (n2 : Int) = some ((m4 : Int), marksU l4.length n2) := by
    rw [← HE.out.2.2]
    exact markUint64S_f l4 n2 (by have := HL.out; omega) 200000000 (by have := HL.out; omega)
   refine (laws_markUint64S.calls 200000000 _ _ l4 _ _ _ w0 _ HB.out HO4.out hmf4).mono ?_
   rintro e w3 ⟨rfl, hr, hb, hk⟩
   replace HO0 := Aside0.mk (R_kept HO0.out hk (fun k h q => q.1.1.2 h.2))
   replace HO1 := Aside0.mk (R_kept HO1.out hk (fun k h q => q.1.2 h.2))
   replace HO7 := Aside0.mk (R_kept HO7.out hk (fun k h q => h.2 q.2))
   replace HH := Aside0.mk (H_kept HH.out hk (fun k h => h.1.1.1))
   replace HK := Aside0.mk (kept_trans HK.out hk (fun k h => (HG.out k (h.1.1.1)).1))
   have HO4' := HO4
   replace HO4 := Aside0.mk (R_reok2 rfl hr (fun k e => HO4'.out.1 k e))
   replace HB := Aside0.mk hb
   clear hr hb hk HO4' hmf4 x0 x1 x2 x3 x4 x5 x6 x7 f0 f1 f2 f3 f4 f5 f6 f7
   obtain ⟨hcc, hfr⟩ := H_at HH.out HJI.out.1 HJI.out.2
   have x0 := hcc 0 _ rfl
   have f0 := hfr 0
   rw [show (j : Int).toNat * aNo.sz + 0 = j * 8 by rw [Int.toNat_natCast]; rfl] at x0 f0
   have x1 := hcc 1 _ rfl
   have f1 := hfr 1
   rw [show (j : Int).toNat * aNo.sz + 1 = j * 8 + 1 by rw [Int.toNat_natCast]; rfl] at x1 f1
   have x2 := hcc 2 _ rfl
   have f2 := hfr 2
   rw [show (j : Int).toNat * aNo.sz + 2 = j * 8 + 2 by rw [Int.toNat_natCast]; rfl] at x2 f2
   have x3 := hcc 3 _ rfl
   have f3 := hfr 3
   rw [show (j : Int).toNat * aNo.sz + 3 = j * 8 + 3 by rw [Int.toNat_natCast]; rfl] at x3 f3
   have x4 := hcc 4 _ rfl
   have f4 := hfr 4
   rw [show (j : Int).toNat * aNo.sz + 4 = j * 8 + 4 by rw [Int.toNat_natCast]; rfl] at x4 f4
   have x5 := hcc 5 _ rfl
   have f5 := hfr 5
   rw [show (j : Int).toNat * aNo.sz + 5 = j * 8 + 5 by rw [Int.toNat_natCast]; rfl] at x5 f5
   have x6 := hcc 6 _ rfl
   have f6 := hfr 6
   rw [show (j : Int).toNat * aNo.sz + 6 = j * 8 + 6 by rw [Int.toNat_natCast]; rfl] at x6 f6
   have x7 := hcc 7 _ rfl
   have f7 := hfr 7
   rw [show (j : Int).toNat * aNo.sz + 7 = j * 8 + 7 by rw [Int.toNat_natCast]; rfl] at x7 f7
   clear hcc hfr
   have cu4 := u64_id m4 HW.out.2.2.2.1
   have ca4 := wrap_up m4 HW.out.2.2.2.1
   have cu5 := u64_id (m4 + 1) HW.out.2.2.2.2
   have ca5 : wrap64 (((m4 + 1 : Nat) : Int) + 1) = ((m4 + 2 : Nat) : Int) := wrap_up (m4 + 1) HW.out.2.2.2.2
   rw [HNN.out.2.2.1] at ca4 cu5 ca5
   rw [HNN.out.2.2.2] at ca5
   go_wp2_with fail
   clear cu4 ca4 cu5 ca5
   have hB1 := below_set (below_set HB.out (j := j * 8 + 5) (v := .int .u64 (m4 : Int)) HN.out.1) (j := j * 8 + 6) (v := .int .u64 (n4 : Int)) HN.out.1
   have hs1 := H_setN (g := g) HH.out HJI.out.2 5 (.int .u64 (m4 : Int)) (by omega) rfl (c' := [.slice A0 l0.length k0, .slice A1 l1.length k1', .int .u64 (m2 : Int), .int .i64 (n1 : Int), .slice A4 l4.length k4, .int .u64 (m4 : Int), .int .u64 ge, .slice A7 l7.length k7]) rfl
   have hs2 := H_setN (g := g) hs1 HJI.out.2 6 (.int .u64 (n4 : Int)) (by omega) rfl (c' := [.slice A0 l0.length k0, .slice A1 l1.length k1', .int .u64 (m2 : Int), .int .i64 (n1 : Int), .slice A4 l4.length k4, .int .u64 (m4 : Int), .int .u64 (n4 : Int), .slice A7 l7.length k7]) rfl
   have hK1 := kept_set (kept_set HK.out OKG.out (j := j * 8 + 5) (v := .int .u64 (m4 : Int))) OKG.out (j := j * 8 + 6) (v := .int .u64 (n4 : Int))
   have far := fun {β : Type} {d : Kd β} {e : Nat} {q : Nat → Prop} {v : Value} {l : List β} (h : Kd.R d e w3 w0.heap.size q v l) (hq : ∀ k, q k → oki k) => Kd.R_far (p := ⟨g, j * 8 + 6, none⟩) (Kd.R_far (p := ⟨g, j * 8 + 5, none⟩) h (fun k hk => (HG.out k (hq k hk)).2) (.int .u64 (m4 : Int))) (fun k hk => (HG.out k (hq k hk)).2) (.int .u64 (n4 : Int))
   replace HO0 := Aside0.mk (far HO0.out (fun _ h => h.1))
   replace HO1 := Aside0.mk (far HO1.out (fun _ h => h.1.1))
   replace HO4 := Aside0.mk (far HO4.out (fun _ h => h.1.1.1))
   replace HO7 := Aside0.mk (far HO7.out (fun _ h => h.1.1.1))
   replace HH := Aside0.mk hs2
   replace HK := Aside0.mk hK1
   replace HB := Aside0.mk hB1
   clear far hs1 hs2 hK1 hB1
   generalize (w3.setCell ⟨g, j * 8 + 5, none⟩ (.int .u64 (m4 : Int))).setCell ⟨g, j * 8 + 6, none⟩ (.int .u64 (n4 : Int)) = w3' at *
   obtain ⟨m5, hm5⟩ : ∃ m5, n5 + l7.length = m5 := ⟨_, rfl⟩
   have hmf7 : laws_markUint64S.f 200000000 l7 (n5 : Int) = some ((m5 : Int), marksU l7.length n5) := by
    rw [← hm5]
    exact markUint64S_f l7 n5 (by have := HL.out; omega) 200000000 (by have := HL.out; omega)
   refine (laws_markUint64S.calls 200000000 _ _ l7 _ _ _ w0 _ HB.out HO7.out hmf7).mono ?_
   rintro e w4 ⟨rfl, hr, hb, hk⟩
   replace HO0 := Aside0.mk (R_kept HO0.out hk (fun k h q => q.1.1.2 h.2))
   replace HO1 := Aside0.mk (R_kept HO1.out hk (fun k h q => q.1.2 h.2))
   replace HO4 := Aside0.mk (R_kept HO4.out hk (fun k h q => q.2 h.2))
   replace HH := Aside0.mk (H_kept HH.out hk (fun k h => h.1.1.1))
   replace HK := Aside0.mk (kept_trans HK.out hk (fun k h => (HG.out k (h.1.1.1)).1))
   have HO7' := HO7
   replace HO7 := Aside0.mk (R_reok2 rfl hr (fun k e => HO7'.out.1 k e))
   replace HB := Aside0.mk hb
   clear hr hb hk HO7' hmf7 x0 x1 x2 x3 x4 x5 x6 x7 f0 f1 f2 f3 f4 f5 f6 f7
   have hM2 := aNo_mkp w4 w0.heap.size oki ⟨marksB l0.length mj, marksB l1.length m1, (m2 : Int), (n1 : Int), marksU l4.length n2, (m4 : Int), (n4 : Int), marksU l7.length n5⟩ p0 p1 p4 HO0.out HO1.out HO4.out HO7.out
   have hS2 := Kd.H_back HH.out (x' := ⟨marksB l0.length mj, marksB l1.length m1, (m2 : Int), (n1 : Int), marksU l4.length n2, (m4 : Int), (n4 : Int), marksU l7.length n5⟩) hM2 (fun k hk => hk)
   rw [Int.toNat_natCast, HM.out.1] at hS2
   have hE2 := HM.out.2
   rw [hm5] at hE2
   have HS2 := Aside0.mk hS2
   have HE2 := Aside0.mk hE2
   obtain ⟨k1, rfl⟩ : ∃ k1, gk = k1 + 1 := ⟨gk - 1, by have := HN.out; omega⟩
   clear HS hS2 hM2 hE2 hm5 HO0 HO1 HO4 HO7 HH
   have cj := wrap_upL j HW.out.1
   go_wp2_with fail
   go_roundg k1
   case measure => clear cj; have := HN.out; omega
   case rel => exact ⟨j + 1, by first | rw [HE2.out] | (rw [HE2.out]; exact congrArg (Value.int .i64) (by clear cj; omega)), congrArg (Value.int .i64) cj, ⟨by have := HN.out; omega⟩, HS2, HK, HB⟩
  ·
   have e : j = xs.length := by omega
   subst e
   have c1 : decide ((xs.length : Int) < (xs.length : Int)) = false := decide_eq_false (by omega)
   go_wp2
   go_ret
   exact ⟨by simp [endL, List.take_length], by have := HS.out; rwa [midL_full] at this, HB.out, HK.out⟩
theorem markState_sk (m : Nat) (w0 : World) (lo hi : Nat) (e g n t : Int) (As : Option Addr) (cs : Nat) (xs : List Se) (An : Option Addr) (cn : Nat) (ns : List No) (w : World) (hB : Below w0.heap.size w0 w) (h : SK w0 w lo hi As cs xs An cn ns) (hm : m + sumL lnSe xs + sumL lnNo ns ≤ 100000000) :
  Calls Tryd.prog 21 #[.agg #[.int .u64 e, .int .u64 g, .int .u64 n, .int .i64 t, .slice As xs.length cs, .slice An ns.length cn], .int .i64 m] w fun r w' => r = .returned (.int .i64 ((m + sumL lnSe xs + sumL lnNo ns : Nat) : Int)) ∧ SK w0 w' lo hi As cs (markL mkSe lnSe xs m) An cn (markL mkNo lnNo ns (m + sumL lnSe xs)) ∧ Below w0.heap.size w0 w' ∧ Kept w w' (fun k => lo ≤ k ∧ k < hi) := by
 obtain ⟨p, h1, h2⟩ := h.ex
 have H1 := Aside0.mk h1
 have H2 := Aside0.mk h2
 have HB := Aside0.mk hB
 have HM := Aside0.mk hm
 clear h h1 h2 hB hm
 go_enter Tryd.func21, Tryd.ntmps21
 go_wp2_with fail
 have b0 := blk_new w (.cells #[.int .u64 e, .int .u64 g, .int .u64 n, .int .i64 t, .slice As xs.length cs, .slice An ns.length cn] 36)
 have hb0 := below_alloc (Below.refl w.heap.size w) (.cells #[.int .u64 e, .int .u64 g, .int .u64 n, .int .i64 t, .slice As xs.length cs, .slice An ns.length cn] 36)
 generalize w.alloc (.cells #[.int .u64 e, .int .u64 g, .int .u64 n, .int .i64 t, .slice As xs.length cs, .slice An ns.length cn] 36) = W0 at *
 have h1b := Kd.S_bound H1.out
 have h2b := Kd.S_bound H2.out
 have h1c := Kd.S_below h1b hb0
 have h2c := Kd.S_below h2b hb0
 refine (markSessionS_calls m w0 _ _ As cs xs (below_step HB.out hb0) h1c (by have := HM.out; omega)).mono ?_
 rintro r w1 ⟨rfl, hs1, hb1, hk1⟩
 have b1 := blk_kept b0 hk1 (fun h => by have := h.2.2.1; omega)
 have h2d := Kd.S_kept h2c hk1 (fun k hk q => hk.1.2 q.1.2)
 have s5 := blk_cell b1 5
 simp only [List.getElem?_toArray, List.getElem?_cons_zero, List.getElem?_cons_succ] at s5
 have HS1 := Aside0.mk hs1
 have HS2 := Aside0.mk h2d
 have HB1 := Aside0.mk hb1
 have HK1 := Aside0.mk hk1
 have HB0 := Aside0.mk hb0
 clear hs1 h2d h2c h1c h1b h2b hb1 hk1 hb0 b0 b1
 go_wp2_with fail
 refine (markNodeS_calls (m + sumL lnSe xs) w0 _ _ An cn ns HB1.out HS2.out HM.out).mono ?_
 rintro r w2 ⟨rfl, hs2, hb2, hk2⟩
 have HS3 := Aside0.mk hs2
 have HS4 := Aside0.mk (Kd.S_kept HS1.out hk2 (fun k hk q => q.1.2 hk.1.2))
 have HB2 := Aside0.mk hb2
 have HK2 := Aside0.mk hk2
 clear hs2 hb2 hk2 HS1 HS2 HB1 s5
 go_wp2_with fail
 go_ret
 refine ⟨rfl, ⟨p, ?_, ?_⟩, HB2.out, ?_⟩
 ·
  rw [markL_length]
  exact Kd.S_mono HS4.out (fun k hk => hk.1)
 ·
  rw [markL_length]
  exact Kd.S_mono HS3.out (fun k hk => hk.1)
 ·
  refine ⟨Nat.le_trans HB0.out.size (Nat.le_trans HK1.out.1 HK2.out.1), fun i hi hn => ?_⟩
  rw [HK2.out.2 i (by have := HB0.out.size; have := HK1.out.1; omega) (fun q => hn q.1.1), HK1.out.2 i (by have := HB0.out.size; omega) (fun q => hn q.1.1)]
  exact HB0.out.block i hi
end
def laws_heldUint64S.l0 : Nat → List Int → Int → Int → Option (Int)
 | 0, _, _, _ => none
 | k + 1, x0, x1, x5 => if x5 < (x0.length : Int) then (if 0 ≤ x5 then (if (rd x0 x5) = (IntKind.u64.wrap (x1)) then (laws_heldUint64S.l0 k x0 (wrap64 (x1 + 1)) (wrap64 (x5 + 1))) else (some (-1))) else (none)) else (some x1)
def laws_heldUint64S.f (k : Nat) (l0 : List Int) (a1 : Int) : Option (Int) := laws_heldUint64S.l0 k l0 a1 0
set_option maxHeartbeats 8000000 in
set_option maxRecDepth 100000 in
theorem laws_heldUint64S.calls (k : Nat) (A0 : Option Addr) (c0 : Nat) (l0 : List Int) (a1 : Int) (r : Int) (w : World) (hr0 : Kd.C (Kd.int .u64) w A0 l0.length l0) (hc0 : l0.length ≤ c0) (h : laws_heldUint64S.f k l0 a1 = some r) :
  Calls Tryd.prog 23 #[.slice A0 l0.length c0, .int .i64 a1] w fun e w' => e = .returned (.int .i64 r) ∧ Drawn0 w w' := by
 have HR0 := Aside0.mk hr0
 have HC0 := Aside0.mk hc0
 clear hr0 hc0
 have H : (laws_heldUint64S.l0 k l0 a1 0) = some r := h
 clear h
 have H' := Aside0.mk H
 clear H
 go_enter Tryd.func23, Tryd.ntmps23
 go_wp2
 go_loopg [1, 5] k (fun kq v1 v5 w' => ∃ (x1_1 : Int) (x5_1 : Int), v1 = .int .i64 x1_1 ∧ v5 = .int .i64 x5_1 ∧ Aside0 (laws_heldUint64S.l0 kq l0 x1_1 x5_1 = some r) ∧ Aside0 (kq ≤ k) ∧ Drawn0 w w')
 case atStart => exact ⟨(a1), (0), (by first | rfl | (simp; done) | (simp [*]; done)), (by first | rfl | (simp; done) | (simp [*]; done)), H', ⟨Nat.le_refl _⟩, by repeat (first | exact Drawn0.refl _ | apply Drawn0.step)⟩
 case round =>
  clear H'
  try clear c2
  try clear p2
  obtain ⟨x1_1, x5_1, rfl, rfl, HA, HK1, ⟨m1, rfl⟩⟩ := hrel
  cases gk with
  | zero => exact absurd HA.out (by simp [laws_heldUint64S.l0])
  | succ k1 =>
   have H := HA.out
   clear HA
   simp only [laws_heldUint64S.l0] at H
   by_cases c3 : x5_1 < (l0.length : Int)
   ·
    rw [if_pos c3] at H
    have c3b0 : decide (x5_1 < (l0.length : Int)) = true := decide_eq_true c3
    clear c3
    by_cases c4 : 0 ≤ x5_1
    ·
     rw [if_pos c4] at H
     have c4b0 : decide (0 ≤ x5_1) = true := decide_eq_true c4
     clear c4
     by_cases c5 : (rd l0 x5_1) = (IntKind.u64.wrap (x1_1))
     ·
      rw [if_pos c5] at H
      have c5b0 : ((rd l0 x5_1) == (IntKind.u64.wrap (x1_1))) = true := beq_iff_eq.mpr c5
      have c5b1 : ((rd l0 x5_1) != (IntKind.u64.wrap (x1_1))) = false := bne_eq_false_iff_eq.mpr c5
      clear c5
      have H' := Aside0.mk H
      clear H
      have p317 : 0 ≤ (x5_1 : Int) := of_decide_eq_true (by first | (with_reducible assumption) | assumption)
      have q317 : x5_1 < (l0.length : Int) := of_decide_eq_true (by first | (with_reducible assumption) | assumption)
      obtain ⟨ad317, e317, hx317_0⟩ := Kd.at_int HR0.out x5_1 p317 q317
      cases e317
      replace p317 := eq_true p317
      replace q317 := eq_true q317
      go_wp2
      go_roundg k1
      case measure => have := HK1.out; omega
      case rel => exact ⟨(wrap64 (x1_1 + 1)), (wrap64 (x5_1 + 1)), (by first | rfl | (simp; done) | (simp [*]; done)), (by first | rfl | (simp; done) | (simp [*]; done)), H', ⟨by have := HK1.out; omega⟩, by repeat (first | exact Drawn0.refl _ | apply Drawn0.step)⟩
     ·
      rw [if_neg c5] at H
      have c5b0 : ((rd l0 x5_1) == (IntKind.u64.wrap (x1_1))) = false := beq_eq_false_iff_ne.mpr c5
      have c5b1 : ((rd l0 x5_1) != (IntKind.u64.wrap (x1_1))) = true := bne_iff_ne.mpr c5
      obtain rfl := Option.some.inj H
      have p317 : 0 ≤ (x5_1 : Int) := of_decide_eq_true (by first | (with_reducible assumption) | assumption)
      have q317 : x5_1 < (l0.length : Int) := of_decide_eq_true (by first | (with_reducible assumption) | assumption)
      obtain ⟨ad317, e317, hx317_0⟩ := Kd.at_int HR0.out x5_1 p317 q317
      cases e317
      replace p317 := eq_true p317
      replace q317 := eq_true q317
      go_wp2
      go_ret
      exact ⟨by first | rfl | (simp; done) | (simp [*]; done), by repeat (first | exact Drawn0.refl _ | apply Drawn0.step)⟩
    ·
     rw [if_neg c4] at H
     exact absurd H (by simp)
   ·
    rw [if_neg c3] at H
    have c3b0 : decide (x5_1 < (l0.length : Int)) = false := decide_eq_false c3
    clear c3
    obtain rfl := Option.some.inj H
    go_wp2
    go_ret
    exact ⟨by first | rfl | (simp; done) | (simp [*]; done), by repeat (first | exact Drawn0.refl _ | apply Drawn0.step)⟩
theorem heldUint64S_loop (n m : Nat) (hm : m + n ≤ 140737488351232) (d : Nat) : ∀ (k i : Nat), i + d = n → d < k → laws_heldUint64S.l0 k (marksU n m) ((m + i : Nat) : Int) (i : Int) = some (((m + n : Nat) : Int)) := by
 induction d with
 | zero =>
  intro k i hi hk
  obtain ⟨k, rfl⟩ : ∃ q, k = q + 1 := ⟨k - 1, by omega⟩
  rw [laws_heldUint64S.l0, if_neg (by rw [marksU_length]; omega), show i = n by omega]
 | succ d ih =>
  intro k i hi hk
  obtain ⟨k, rfl⟩ : ∃ q, k = q + 1 := ⟨k - 1, by omega⟩
  have hr : rd (marksU n m) (i : Int) = ((m + i : Nat) : Int) := by
   rw [rd_nat, List.getD_eq_getElem?_getD, marksU_at n m i (by omega)]; rfl
  rw [laws_heldUint64S.l0, if_pos (by rw [marksU_length]; omega), if_pos (by omega), hr, u64_nat _ (by omega), if_pos rfl, wrap_up (m + i) (by omega), wrap_up i (by omega)]
  exact ih k (i + 1) (by omega) (by omega)
theorem heldUint64S_f (n m : Nat) (hm : m + n ≤ 140737488351232) (k : Nat) (hk : n < k) : laws_heldUint64S.f k (marksU n m) (m : Int) = some (((m + n : Nat) : Int)) :=
 heldUint64S_loop n m hm n k 0 (by omega) hk
theorem bl_cons (a b : UInt8) (x y : List UInt8) : Op.bytesLess (a :: x) (b :: y) = true ↔ a.toNat < b.toNat ∨ (a = b ∧ Op.bytesLess x y = true) := by
 rw [Op.bytesLess]
 simp only [Bool.or_eq_true, Bool.and_eq_true, decide_eq_true_eq, beq_iff_eq, UInt8.lt_iff_toNat_lt]
theorem bl_trans : ∀ (x y z : List UInt8), Op.bytesLess x y = true → Op.bytesLess y z = true → Op.bytesLess x z = true
 | _, [], z, h, _ => by cases ‹List UInt8› <;> simp [Op.bytesLess] at h
 | _, _ :: _, [], _, h => by simp [Op.bytesLess] at h
 | [], _ :: _, _ :: _, _, _ => by simp [Op.bytesLess]
 | a :: x, b :: y, c :: z, h1, h2 => by
  rw [bl_cons] at h1 h2 ⊢
  rcases h1 with h1 | ⟨rfl, h1⟩
  ·
   rcases h2 with h2 | ⟨rfl, h2⟩
   ·
    exact Or.inl (by omega)
   ·
    exact Or.inl h1
  ·
   rcases h2 with h2 | ⟨rfl, h2⟩
   ·
    exact Or.inl h2
   ·
    exact Or.inr ⟨rfl, bl_trans x y z h1 h2⟩
theorem bl_irrefl : ∀ x : List UInt8, Op.bytesLess x x = false
 | [] => rfl
 | a :: x => by
  rw [Bool.eq_false_iff, ne_eq, bl_cons, not_or, not_and]
  exact ⟨by omega, fun _ => by rw [bl_irrefl x]; exact Bool.false_ne_true⟩
theorem bl_tri : ∀ x y : List UInt8, Op.bytesLess x y = false → Op.bytesLess y x = false → x = y
 | [], [], _, _ => rfl
 | [], _ :: _, h, _ => by simp [Op.bytesLess] at h
 | _ :: _, [], _, h => by simp [Op.bytesLess] at h
 | a :: x, b :: y, h1, h2 => by
  rw [Bool.eq_false_iff, ne_eq, bl_cons, not_or, not_and] at h1 h2
  have e : a = b := UInt8.toNat_inj.1 (by omega)
  subst e
  rw [bl_tri x y (Bool.eq_false_iff.2 (h1.2 rfl)) (Bool.eq_false_iff.2 (h2.2 rfl))]
theorem bl_prefix : ∀ (x r : List UInt8), r ≠ [] → Op.bytesLess x (x ++ r) = true
 | [], [], h => absurd rfl h
 | [], _ :: _, _ => by simp [Op.bytesLess]
 | a :: x, r, h => by rw [List.cons_append, bl_cons]; exact Or.inr ⟨rfl, bl_prefix x r h⟩
def ltL (a b : List Int) : Prop := Op.bytesLess (Lib.bytesOf a) (Lib.bytesOf b) = true
theorem leB_false {a b : List Int} : leB b a = false ↔ ltL a b := by
 unfold leB ltL
 rw [Bool.or_eq_false_iff, beq_eq_false_iff_ne]
 constructor
 ·
  rintro ⟨h1, h2⟩
  cases h : Op.bytesLess (Lib.bytesOf a) (Lib.bytesOf b) with
  | true => rfl
  | false => exact absurd (bl_tri _ _ h1 h) h2
 ·
  intro h
  constructor
  ·
   cases h2 : Op.bytesLess (Lib.bytesOf b) (Lib.bytesOf a) with
   | false => rfl
   | true => exact absurd (bl_trans _ _ _ h h2) (by rw [bl_irrefl]; exact Bool.false_ne_true)
  ·
   intro e
   rw [e, bl_irrefl] at h
   exact absurd h Bool.false_ne_true
theorem ltL_ne {a b : List Int} (h : ltL a b) : a ≠ b := by
 rintro rfl
 unfold ltL at h
 rw [bl_irrefl] at h
 exact absurd h Bool.false_ne_true
theorem ltL_trans {a b c : List Int} (h1 : ltL a b) (h2 : ltL b c) : ltL a c := bl_trans _ _ _ h1 h2
theorem lastFrom_lt : ∀ (l : List Int) (i a m : Nat), a < m → i + l.length ≤ m → lastFrom l i a < m
 | [], _, _, _, h, _ => h
 | c :: r, i, a, m, h, hm => by
  rw [lastFrom]
  rw [List.length_cons] at hm
  exact lastFrom_lt r (i + 1) _ m (by split <;> omega) (by omega)
theorem parent_lt {p : List Int} (h : lastFrom p 0 0 ≠ 0) : ltL (p.take (lastFrom p 0 0)) p := by
 have hm : lastFrom p 0 0 < p.length := by
  cases p with
  | nil => exact absurd rfl h
  | cons c r => exact lastFrom_lt (c :: r) 0 0 _ (by simp) (by simp)
 obtain ⟨m, hmm⟩ : ∃ m, lastFrom p 0 0 = m := ⟨_, rfl⟩
 rw [hmm] at hm ⊢
 unfold ltL
 have e : Lib.bytesOf p = Lib.bytesOf (p.take m) ++ Lib.bytesOf (p.drop m) := by
  unfold Lib.bytesOf
  rw [← List.map_append, List.take_append_drop]
 rw [e]
 refine bl_prefix _ _ (fun e2 => ?_)
 have := congrArg List.length e2
 unfold Lib.bytesOf at this
 rw [List.length_map, List.length_drop, List.length_nil] at this
 omega
theorem asc_all (ns : List No) (h : ∀ k (hk : k < ns.length), 0 < k → leB ns[k].f0 (ns.getD (k - 1) zNo).f0 = false) (i : Nat) : ∀ (d : Nat) (hk : i + d < ns.length), d ≠ 0 → ltL (ns[i]'(by omega)).f0 ns[i + d].f0 := by
 intro d
 induction d with
 | zero => intro _ h0; exact absurd rfl h0
 | succ d ih =>
  intro hk _
  have h1 := leB_false.1 (h (i + (d + 1)) hk (by omega))
  have e : (ns.getD (i + (d + 1) - 1) zNo) = ns[i + d]'(by omega) := by
   rw [show i + (d + 1) - 1 = i + d by omega, List.getD_eq_getElem?_getD, List.getElem?_eq_getElem (by omega)]
   rfl
  rw [e] at h1
  by_cases d0 : d = 0
  ·
   subst d0
   exact h1
  ·
   exact ltL_trans (ih (by omega) d0) h1
theorem find_take (ns : List No) (i : Nat) (hi : i < ns.length) (q : List Int) (h : ∀ k (hk : k < ns.length), i ≤ k → ns[k].f0 ≠ q) : ns.find? (fun n => n.f0 == q) = (ns.take i).find? (fun n => n.f0 == q) := by
 conv => lhs; rw [← List.take_append_drop i ns]
 rw [List.find?_append]
 have : (ns.drop i).find? (fun n => n.f0 == q) = none := by
  rw [List.find?_eq_none]
  intro x hx
  obtain ⟨j, hj, rfl⟩ := List.mem_iff_getElem.1 hx
  rw [List.getElem_drop]
  rw [List.length_drop] at hj
  simpa using h (i + j) (by omega) (by omega)
 rw [this, Option.or_none]
theorem canPar_take (ns : List No) (h : ∀ k (hk : k < ns.length), 0 < k → leB ns[k].f0 (ns.getD (k - 1) zNo).f0 = false) (i : Nat) (hi : i < ns.length) : canParB ns (parentL ns[i].f0) = canParB (ns.take i) (parentL ns[i].f0) := by
 unfold canParB
 by_cases h0 : lastFrom ns[i].f0 0 0 = 0
 ·
  rw [show parentL ns[i].f0 = [47] by unfold parentL; rw [if_pos h0]]
  rfl
 ·
  rw [show parentL ns[i].f0 = ns[i].f0.take (lastFrom ns[i].f0 0 0) by unfold parentL; rw [if_neg h0]]
  have hp := parent_lt h0
  rw [find_take ns i hi _ ?_]
  intro k hk hik e
  by_cases hki : k = i
  ·
   subst hki
   exact ltL_ne hp e.symm
  ·
   have := asc_all ns h i (k - i) (by omega) (by omega)
   simp only [show i + (k - i) = k by omega] at this
   exact ltL_ne (ltL_trans hp this) e.symm
def ascB (l : List Int) : Bool := allI (fun i x => i == 0 || decide (l.getD (i - 1) 0 < x)) 0 l
theorem idsB_split (xs : List Se) (l : List Int) : idsB xs l = (ascB l && l.all (liveB xs)) := by
 rw [Bool.eq_iff_iff, Bool.and_eq_true]
 unfold idsB ascB
 rw [allI_iff, allI_iff, List.all_eq_true]
 constructor
 ·
  intro h
  refine ⟨fun j hj => (Bool.and_eq_true _ _ ▸ h j hj).2, fun x hx => ?_⟩
  obtain ⟨j, hj, rfl⟩ := List.mem_iff_getElem.1 hx
  exact (Bool.and_eq_true _ _ ▸ h j hj).1
 ·
  rintro ⟨h1, h2⟩ j hj
  rw [Bool.and_eq_true]
  exact ⟨h2 _ (List.getElem_mem hj), h1 j hj⟩
def nodeI (epoch gen : Int) (xs : List Se) (ns : List No) (i : Nat) (n : No) : Bool :=
 (pathB n.f0 && (i == 0 || !leB n.f0 (ns.getD (i - 1) zNo).f0) && decide (n.f1.length ≤ 40) && (n.f2 == 0 || liveB xs n.f2)) &&
  (ascB n.f4 && ascB n.f7 && n.f4.all (liveB xs) && n.f7.all (liveB xs) && lockB epoch gen n) && canParB (ns.take i) (parentL n.f0)
def validI (epoch gen next now : Int) (xs : List Se) (ns : List No) : Bool :=
 headB epoch gen next now xs.length ns.length && allI (sesB next xs) 0 xs && allI (nodeI epoch gen xs ns) 0 ns
theorem nodes_eq (e g : Int) (xs : List Se) (ns : List No) : allI (nodeI e g xs ns) 0 ns = allI (nodeB e g xs ns) 0 ns := by
 rw [Bool.eq_iff_iff, allI_iff, allI_iff]
 have asc : ∀ f : Nat → No → Bool, (∀ k n, f k n = true → (k == 0 || !leB n.f0 (ns.getD (k - 1) zNo).f0) = true) → (∀ j (h : j < ns.length), f (0 + j) ns[j] = true) → ∀ k (hk : k < ns.length), 0 < k → leB ns[k].f0 (ns.getD (k - 1) zNo).f0 = false := by
  intro f hf h k hk h0
  have := hf _ _ (h k hk)
  rw [Nat.zero_add, show (k == 0) = false from beq_eq_false_iff_ne.2 (by omega), Bool.false_or, Bool.not_eq_true'] at this
  exact this
 constructor
 ·
  intro h j hj
  have ha := asc _ (fun k n hk => by unfold nodeI at hk; simp only [Bool.and_eq_true] at hk; exact hk.1.1.1.1.2) h
  have hc := canPar_take ns ha j hj
  have hh := h j hj
  unfold nodeI at hh
  unfold nodeB
  rw [Nat.zero_add] at hh ⊢
  rw [idsB_split, idsB_split, hc]
  simp only [Bool.and_eq_true] at hh ⊢
  obtain ⟨⟨⟨⟨⟨a, b⟩, c⟩, d⟩, ⟨⟨⟨e1, e2⟩, e3⟩, e4⟩, e5⟩, e6⟩ := hh
  exact ⟨⟨⟨⟨⟨⟨⟨a, b⟩, e6⟩, c⟩, d⟩, e1, e3⟩, e2, e4⟩, e5⟩
 ·
  intro h j hj
  have ha := asc _ (fun k n hk => by unfold nodeB at hk; simp only [Bool.and_eq_true] at hk; exact hk.1.1.1.1.1.1.2) h
  have hc := canPar_take ns ha j hj
  have hh := h j hj
  unfold nodeB at hh
  unfold nodeI
  rw [Nat.zero_add] at hh ⊢
  rw [idsB_split, idsB_split, hc] at hh
  simp only [Bool.and_eq_true] at hh ⊢
  obtain ⟨⟨⟨⟨⟨⟨⟨a, b⟩, e6⟩, c⟩, d⟩, e1, e3⟩, e2, e4⟩, e5⟩ := hh
  exact ⟨⟨⟨⟨⟨a, b⟩, c⟩, d⟩, ⟨⟨⟨e1, e2⟩, e3⟩, e4⟩, e5⟩, e6⟩
theorem valid_eq (e g n t : Int) (xs : List Se) (ns : List No) : validI e g n t xs ns = validB e g n t xs ns := by unfold validI validB; rw [nodes_eq]
def smallQ (q : List Ev) : Bool := decide (q.length ≤ 2097152) && q.all fun e => decide (e.f1.length ≤ 2097152)
def spec_l3queueOK.f (q : List Ev) : Option Bool := if smallQ q then some (queueB q) else none
set_option maxHeartbeats 4000000 in
set_option maxRecDepth 100000 in
theorem spec_queueOK_calls (A : Option Addr) (c : Nat) (q : List Ev) (w : World) (h : Kd.C kEv w A q.length q) (hc : q.length ≤ c) (hs : ∀ e ∈ q, e.f1.length ≤ 2097152) :
  Calls Tryd.prog 91 #[.slice A q.length c] w fun e w' => e = .returned (.bool (queueB q)) ∧ Below w.heap.size w w' := by
 by_cases h8 : 8 < q.length
 ·
  have e : queueB q = false := by unfold queueB; rw [decide_eq_false (by omega)]; rfl
  have d1 : decide ((8 : Int) < (q.length : Int)) = true := decide_eq_true (by omega)
  rw [e]
  clear e
  go_enter Tryd.func91, Tryd.ntmps91
  go_wp2_with fail
  go_ret
  exact ⟨rfl, Below.refl _ _⟩
 have hQ : queueB q = allI evB 0 q := by unfold queueB; rw [decide_eq_true (by omega)]; rfl
 rw [hQ]
 have d1 : decide ((8 : Int) < (q.length : Int)) = false := decide_eq_false (by omega)
 have HR := Aside0.mk h
 have HS := Aside0.mk hs
 have HL := Aside0.mk (And.intro hc (show q.length ≤ 8 by omega))
 clear h hs hQ h8 hc
 go_enter Tryd.func91, Tryd.ntmps91
 go_wp2_with fail
 clear d1
 go_loopg [3] (q.length + 1) (fun kq v3 w' => ∃ i : Nat, v3 = .int .i64 i ∧ Aside0 (kq + i = q.length + 1 ∧ i ≤ q.length) ∧ Aside0 (allI evB 0 q = allI evB i (q.drop i)) ∧ Aside0 (Below w.heap.size w w'))
 case atStart => exact ⟨0, rfl, ⟨⟨by omega, by omega⟩⟩, ⟨rfl⟩, ⟨Below.refl _ _⟩⟩
 case round =>
  obtain ⟨i, rfl, HJ, HV, HB⟩ := hrel
  have hj0 := HJ.out
  have hl8 := HL.out.2
  by_cases hj : i < q.length
  ·
   have c1 : decide ((i : Int) < (q.length : Int)) = true := decide_eq_true (by omega)
   have ci : (0 : Int) ≤ (i : Int) := by omega
   have ci2 : (i : Int) < (q.length : Int) := by omega
   obtain ⟨ad, A1, c1_, eA, hx0, hx1, hl1, hi1⟩ := at_T138 HR.out (i : Int) (by omega) (by omega)
   have ex : rd_T138 q (i : Int) = q[i] := by unfold rd_T138; rw [Int.toNat_natCast, List.getD_eq_getElem?_getD, List.getElem?_eq_getElem hj]; rfl
   rw [ex] at hx0 hx1 hl1 hi1
   cases eA
   replace hx0 := (HB.out.cell (World.block_lt_of_cell? w _ hx0)).trans hx0
   replace hx1 := (HB.out.cell (World.block_lt_of_cell? w _ hx1)).trans hx1
   rw [Int.toNat_natCast] at hx0 hx1
   have HI := Aside0.mk (And.intro (Kd.C_below hi1 HB.out) hl1)
   have hsx := HS.out q[i] (List.getElem_mem hj)
   have HE := HV.out
   rw [allI_drop evB q i hj] at HE
   have HN := Aside0.mk (show ∀ b, evB i q[i] = b → allI evB 0 q = (b && allI evB (i + 1) (q.drop (i + 1))) from fun b hb => by rw [HE, hb])
   have HVP := Aside0.mk (spec_ValidPath.calls 10000000 A1 c1_ q[i].f1 _ wr HI.out.1 HI.out.2 (validPath_f q[i].f1 hsx _ (by omega)))
   obtain ⟨x, hx⟩ : ∃ x, q[i].f0 = x := ⟨_, rfl⟩
   obtain ⟨m, hm⟩ : ∃ m, q[i].f1.length = m := ⟨_, rfl⟩
   obtain ⟨vp, hvp⟩ : ∃ vp, pathB q[i].f1 = vp := ⟨_, rfl⟩
   have hev : evB i q[i] = if i = 7 then x == 4 && m == 0 else x != 4 && decide (1 ≤ x) && decide (x ≤ 3) && vp := by unfold evB; rw [hx, hm, hvp]
   rw [hev] at HN
   rw [hm, hvp] at HVP
   rw [hm] at hx1
   rw [hx] at hx0
   have hm2 : m ≤ 2097152 := by rw [← hm]; exact hsx
   clear hev hx hm hvp HE HV hi1 hl1 hsx ex
   obtain ⟨k1, rfl⟩ : ∃ k1, gk = k1 + 1 := ⟨gk - 1, by omega⟩
   by_cases h7 : i = 7
   ·
    have d7 : decide ((i : Int) = 7) = true := decide_eq_true (by omega)
    have d7b : ((i : Int) == 7) = true := by rw [beq_iff_eq]; omega
    have HN := Aside0.mk (fun b hb => HN.out b (by rw [if_pos h7]; exact hb))
    have hx0' : wr.cell? ⟨ad.block, ad.off + 14, none⟩ = some (.int .i64 x) := by have := hx0; rw [h7] at this; simpa [Addr.add] using this
    have hx1' : wr.cell? ⟨ad.block, ad.off + 14 + 1, none⟩ = some (.slice A1 m c1_) := by have := hx1; rw [h7] at this; simpa [Addr.add] using this
    have c77 : (7 : Int) < (q.length : Int) := by omega
    by_cases h4 : x = 4
    ·
     subst h4
     by_cases hm0 : m = 0
     ·
      subst hm0
      go_wp2_with fail
      go_roundg k1
      case measure => omega
      case rel => exact ⟨i + 1, by go_num, ⟨⟨by omega, by omega⟩⟩, ⟨by rw [HN.out true rfl, Bool.true_and]⟩, HB⟩
     ·
      have d2 : decide (m = 0) = false := decide_eq_false hm0
      have d3 : decide ((m : Int) = 0) = false := decide_eq_false (by omega)
      have d4 : ((m : Int) != 0) = true := by rw [bne_iff_ne]; omega
      have d5 : ((m : Int) == 0) = false := by rw [beq_eq_false_iff_ne]; omega
      go_wp2_with fail
      go_ret
      rw [HN.out false (by simp [hm0])]
      exact ⟨rfl, HB.out⟩
    ·
     have d2 : decide (x = 4) = false := decide_eq_false h4
     have d3 : (x == 4) = false := by rw [beq_eq_false_iff_ne]; exact h4
     go_wp2_with fail
     go_ret
     rw [HN.out false (by simp [h4])]
     exact ⟨rfl, HB.out⟩
   ·
    have d7 : decide ((i : Int) = 7) = false := decide_eq_false (by omega)
    have d7b : ((i : Int) == 7) = false := by rw [beq_eq_false_iff_ne]; omega
    have HN := Aside0.mk (fun b hb => HN.out b (by rw [if_neg h7]; exact hb))
    by_cases h4 : x = 4
    ·
     subst h4
     go_wp2_with fail
     go_ret
     rw [HN.out false rfl]
     exact ⟨rfl, HB.out⟩
    ·
     have d2 : decide (x = 4) = false := decide_eq_false h4
     have d3 : (x == 4) = false := by rw [beq_eq_false_iff_ne]; exact h4
     by_cases hl : x < 1
     ·
      have d4 : decide (x < 1) = true := decide_eq_true hl
      go_wp2_with fail
      go_ret
      rw [HN.out false (by rw [decide_eq_false (show ¬ 1 ≤ x by omega)]; simp)]
      exact ⟨rfl, HB.out⟩
     ·
      have d4 : decide (x < 1) = false := decide_eq_false hl
      by_cases hg : 3 < x
      ·
       have d5 : decide (3 < x) = true := decide_eq_true hg
       go_wp2_with fail
       go_ret
       rw [HN.out false (by rw [decide_eq_false (show ¬ x ≤ 3 by omega)]; simp)]
       exact ⟨rfl, HB.out⟩
      ·
       have d5 : decide (3 < x) = false := decide_eq_false hg
       have HX := Aside0.mk (show (x != 4 && decide (1 ≤ x) && decide (x ≤ 3)) = true by simp only [Bool.and_eq_true, decide_eq_true_eq, bne_iff_ne]; omega)
       clear h4 hl hg
       go_wp2_with fail
       refine HVP.out.mono ?_
       rintro e w2 ⟨rfl, hb⟩
       have HB2 := Aside0.mk (below_step HB.out hb)
       clear HVP hb HB
       cases vp with
       | false =>
        go_wp2_with fail
        go_ret
        rw [HN.out false (by simp)]
        exact ⟨rfl, HB2.out⟩
       | true =>
        go_wp2_with fail
        go_roundg k1
        case measure => omega
        case rel => exact ⟨i + 1, by go_num, ⟨⟨by omega, by omega⟩⟩, ⟨by rw [HN.out true (by rw [HX.out]; rfl), Bool.true_and]⟩, HB2⟩
  ·
   have c1 : decide ((i : Int) < (q.length : Int)) = false := decide_eq_false (by omega)
   go_wp2_with fail
   go_ret
   rw [HV.out, allI_end evB q i (by omega)]
   exact ⟨rfl, HB.out⟩
theorem spec_l3queueOK.calls (A0 : Option Addr) (c0 : Nat) (l0 : List Ev) (r : Bool) (w : World) (hr0 : Kd.C kEv w A0 l0.length l0) (hc0 : l0.length ≤ c0) (h : spec_l3queueOK.f l0 = some r) :
  Calls Tryd.prog 91 #[.slice A0 l0.length c0] w fun e w' => e = .returned (.bool r) ∧ Below w.heap.size w w' := by
 unfold spec_l3queueOK.f at h
 split at h
 ·
  rename_i hb
  have := Option.some.inj h
  subst this
  unfold smallQ at hb
  simp only [Bool.and_eq_true, List.all_eq_true, decide_eq_true_eq] at hb
  exact spec_queueOK_calls A0 c0 l0 w hr0 hc0 hb.2
 ·
  cases h
end Go.Proofs.YtbgbocdohadhoaaDoor.Print
