/- Texts of this session, joined by its own program. -/
import Derived.Test.YtbgbocdohadhoaaCDO0
import Derived.Test.YtbgbocdohadhoaaCDO3
import Derived.Test.YtbgbocdohadhoaaCDO4
import Derived.WalkSpells
import Derived.RangeFuncOwn
import Derived.Carry
import Derived.WalkMore
import Derived.Test.YtbgbocdohadhoaaCDO2
import Derived.Deep.RegionHeld3
import Derived.Deep.RegionLaw
namespace Go.Proofs.Ytbgbocdohadhoaa.Print
open Go.RowKit Go.Proofs.YtbgbocdohadhoaaW.PrintWords Go.Proofs.YtbgbocdohadhoaaW.PrintLast Go.Proofs.YtbgbocdohadhoaaW.PrintMore
attribute [local go_sem] max2_int min2_int max_two min_two max_three min_three max_four min_four
set_option linter.unusedVariables false
set_option linter.unusedSimpArgs false
end Go.Proofs.Ytbgbocdohadhoaa.Print
namespace Go.Proofs.Ytbgbocdohadhoaa.Print
open Go.RowKit Go.Proofs.YtbgbocdohadhoaaW.PrintWords Go.Proofs.YtbgbocdohadhoaaW.PrintLast Go.Proofs.YtbgbocdohadhoaaW.PrintMore
set_option linter.unusedVariables false
set_option linter.unusedSimpArgs false
theorem toByteS_bk (k : Nat) (w0 : World) (A : Option Addr) (c : Nat) (l : List Int) (w : World) (hB : Below w0.heap.size w0 w) (h0 : Kd.C (Kd.int .u8) w A l.length l) (hc : l.length ≤ c) (hl : l.length ≤ 2097152) (hk : 2097152 < k) :
    Calls Try.prog 15 #[.slice A l.length c] w fun e w' => ∃ B d, e = .returned (.slice B l.length d) ∧ BK w0 w' w.heap.size w'.heap.size B d l ∧ Below w.heap.size w w' := by
  refine (laws_toByteS.calls k A c l l w h0 hc (toByteS_f l (by omega) k (by omega))).mono ?_
  rintro e w' ⟨v, rfl, hr, hb⟩
  obtain ⟨B, d, rfl⟩ := Kd.R_slice hr
  exact ⟨B, d, rfl, BK.of hr hB, hb⟩
theorem markByteS_bk (k m : Nat) (w0 : World) (lo hi : Nat) (A : Option Addr) (c : Nat) (l : List Int) (w : World) (hB : Below w0.heap.size w0 w) (hd : BK w0 w lo hi A c l) (hl : l.length ≤ 2097152) (hm : m ≤ 100000000) (hk : 2097152 < k) :
    Calls Try.prog 12 #[.slice A l.length c, .int .i64 m] w fun e w' => e = .returned (.int .i64 ((m + l.length : Nat) : Int)) ∧ BK w0 w' lo hi A c (marksB l.length m) ∧ Below w0.heap.size w0 w' ∧ Kept w w' (fun k => lo ≤ k ∧ k < hi) := by
  refine (laws_markByteS.calls k (OB A l.length c) _ l m _ _ w0 w hB hd.r (markByteS_f l m (by omega) k (by omega))).mono ?_
  rintro e w' ⟨rfl, hr, hb, hkp⟩
  refine ⟨rfl, ⟨?_, ?_⟩, hb, hkp.1, fun i hi hn => hkp.2 i hi (fun h => hn (hd.b i h))⟩
  · rw [marksB_length]
    exact Kd.R_tight rfl hr
  · rw [marksB_length]
    exact hd.b
theorem eqByteS_bk (k : Nat) (w0 w1 : World) (lo hi lo' hi' : Nat) (A : Option Addr) (c : Nat) (l : List Int) (B : Option Addr) (d : Nat) (w : World) (hd : BK w0 w lo hi A c l) (hd' : BK w1 w lo' hi' B d l) (hl : l.length ≤ 2097152) (hk : 2097152 < k) :
    Calls Try.prog 9 #[.slice A l.length c, .slice B l.length d] w fun e w' => e = .returned (.bool true) ∧ Below w.heap.size w w' := by
  refine (laws_eqByteS.calls k A c l B d l true w hd.reads.1 hd.reads.2 hd'.reads.1 hd'.reads.2 (eqByteS_self l (by omega) k (by omega))).mono ?_
  rintro e w' ⟨rfl, hb⟩
  exact ⟨rfl, hb.below⟩
theorem BK.of2 {w0 w W : World} {ok : Nat → Prop} {v : Value} {l : List Int} (h : Kd.R (Kd.int .u8) 5 W w.heap.size ok v l) (hB : Below w0.heap.size w0 w) : ∃ A c, v = .slice A l.length c ∧ BK w0 W w.heap.size W.heap.size A c l := by
  obtain ⟨A, c, rfl⟩ := Kd.R_slice h
  exact ⟨A, c, rfl, BK.of h hB⟩
structure OPK (w0 W : World) (lo hi : Nat) (A2 : Option Addr) (c2 : Nat) (l2 : List Int) (A4 : Option Addr) (c4 : Nat) (l4 : List Int) : Prop where
  p : BK w0 W lo hi A2 c2 l2
  v : BK w0 W lo hi A4 c4 l4
  d : ∀ k, OB A2 l2.length c2 k → ¬ OB A4 l4.length c4 k
theorem OPK.kept {w0 W W' : World} {lo hi : Nat} {A2 A4 : Option Addr} {c2 c4 : Nat} {l2 l4 : List Int} {S : Nat → Prop} (h : OPK w0 W lo hi A2 c2 l2 A4 c4 l4) (hk : Kept W W' S) (hS : ∀ k, lo ≤ k → k < hi → ¬ S k) : OPK w0 W' lo hi A2 c2 l2 A4 c4 l4 := ⟨h.p.kept hk hS, h.v.kept hk hS, h.d⟩
theorem OPK.below {w0 W W' : World} {lo hi : Nat} {A2 A4 : Option Addr} {c2 c4 : Nat} {l2 l4 : List Int} (h : OPK w0 W lo hi A2 c2 l2 A4 c4 l4) (hb : Below W.heap.size W W') : OPK w0 W' lo hi A2 c2 l2 A4 c4 l4 := ⟨h.p.below hb, h.v.below hb, h.d⟩
theorem eqOp_ok (k : Nat) (w0 w1 : World) (lo hi lo' hi' : Nat) (n s : Int) (A2 : Option Addr) (c2 : Nat) (l2 : List Int) (f : Int) (A4 : Option Addr) (c4 : Nat) (l4 : List Int) (e g : Int) (B2 : Option Addr) (d2 : Nat) (B4 : Option Addr) (d4 : Nat) (w : World) (hd : OPK w0 w lo hi A2 c2 l2 A4 c4 l4) (hd' : OPK w1 w lo' hi' B2 d2 l2 B4 d4 l4) (g2 : l2.length ≤ 2097152) (g4 : l4.length ≤ 2097152) (hk : 2097152 < k) :
    Calls Try.prog 10 #[.agg #[.int .i64 n, .int .u64 s, .slice A2 l2.length c2, .int .i64 f, .slice A4 l4.length c4, .int .u64 e, .int .u64 g], .agg #[.int .i64 n, .int .u64 s, .slice B2 l2.length d2, .int .i64 f, .slice B4 l4.length d4, .int .u64 e, .int .u64 g]] w fun r w' => r = .returned (.bool true) ∧ Below w.heap.size w w' :=
  laws_eqOp.calls k n s A2 c2 l2 f A4 c4 l4 e g n s B2 d2 l2 f B4 d4 l4 e g true w hd.p.reads.1 hd.p.reads.2 hd.v.reads.1 hd.v.reads.2 hd'.p.reads.1 hd'.p.reads.2 hd'.v.reads.1 hd'.v.reads.2 (by unfold laws_eqOp.f; rw [if_pos rfl, if_pos rfl, eqByteS_self l2 (by omega) k (by omega), Option.bind_some, if_pos rfl, if_pos rfl, eqByteS_self l4 (by omega) k (by omega), Option.bind_some, if_pos rfl, if_pos rfl, if_pos rfl])
theorem markOp_ok (k m : Nat) (w0 : World) (lo hi : Nat) (n s : Int) (A2 : Option Addr) (c2 : Nat) (l2 : List Int) (f : Int) (A4 : Option Addr) (c4 : Nat) (l4 : List Int) (e g : Int) (w : World) (hB : Below w0.heap.size w0 w) (hd : OPK w0 w lo hi A2 c2 l2 A4 c4 l4) (g2 : l2.length ≤ 2097152) (g4 : l4.length ≤ 2097152) (hm : m ≤ 100000000) (hk : 2097152 < k) :
    Calls Try.prog 11 #[.agg #[.int .i64 n, .int .u64 s, .slice A2 l2.length c2, .int .i64 f, .slice A4 l4.length c4, .int .u64 e, .int .u64 g], .int .i64 m] w fun r w' => r = .returned (.int .i64 ((m + l2.length + l4.length : Nat) : Int)) ∧ OPK w0 w' lo hi A2 c2 (marksB l2.length m) A4 c4 (marksB l4.length (m + l2.length)) ∧ Below w0.heap.size w0 w' ∧ Kept w w' (fun k => lo ≤ k ∧ k < hi) := by
  refine (laws_markOp.calls k n s (OB A2 l2.length c2) _ l2 f (OB A4 l4.length c4) _ l4 e g m _ _ _ w0 w hB hd.p.r hd.d hd.v.r (fun k h4 h2 => hd.d k h2 h4) (by unfold laws_markOp.f; rw [markByteS_f l2 m (by omega) k (by omega), Option.bind_some, markByteS_f l4 (m + l2.length) (by omega) k (by omega)]; rfl)).mono ?_
  rintro r w' ⟨rfl, r2, r4, hb, hkp⟩
  refine ⟨rfl, ⟨⟨?_, ?_⟩, ⟨?_, ?_⟩, ?_⟩, hb, hkp.1, fun i hi hn => hkp.2 i hi (fun h => hn (h.elim (hd.p.b i) (hd.v.b i)))⟩
  · rw [marksB_length]
    exact Kd.R_tight rfl r2
  · rw [marksB_length]
    exact hd.p.b
  · rw [marksB_length]
    exact Kd.R_tight rfl r4
  · rw [marksB_length]
    exact hd.v.b
  · rw [marksB_length, marksB_length]
    exact hd.d
end Go.Proofs.Ytbgbocdohadhoaa.Print
namespace Go.Proofs.Ytbgbocdohadhoaa.Print
open Go.RowKit Go.Proofs.YtbgbocdohadhoaaW.PrintWords Go.Proofs.YtbgbocdohadhoaaW.PrintLast Go.Proofs.YtbgbocdohadhoaaW.PrintMore
set_option linter.unusedVariables false
set_option linter.unusedSimpArgs false
theorem readsNone {α : Type} {R : α → List Value → Prop} {size : Nat} {w : World} {n : Nat} {l : List α} (h : ReadsRow R size w none n l) : l = [] := by
  rcases Nat.eq_zero_or_pos n with h0 | h0
  · exact List.eq_nil_of_length_eq_zero (by rw [h.1, h0])
  · obtain ⟨ad, e, _⟩ := h.2.2 h0
    cases e
theorem lit_empty (w : World) : Kd.R (Kd.int .u8) 5 (w.alloc (.cells #[] 5)) w.heap.size (fun _ => True) (.slice (some ⟨w.heap.size, 0, none⟩) 0 0) [] :=
  ⟨fun _ _ => trivial, [], own_lit w w.heap.size 5 .u8 [] (Nat.le_refl _) (by decide), ⟨rfl, fun j p h => by simp at h⟩⟩
def bytes_Clone.f (l0 : List Int) : Option (List Int) := if l0.length < 140737488355328 then some l0 else none
set_option maxHeartbeats 400000 in
set_option maxRecDepth 100000 in
theorem bytes_Clone.calls (A0 : Option Addr) (c0 : Nat) (l0 : List Int) (r : List Int) (w : World) (hr0 : Kd.C (Kd.int .u8) w A0 l0.length l0) (hc0 : l0.length ≤ c0) (h : bytes_Clone.f l0 = some r) :
    Calls Try.prog 42 #[.slice A0 l0.length c0] w fun e w' => ∃ v0_ : Value, e = .returned (v0_) ∧ Kd.R (Kd.int .u8) 5 w' w.heap.size (fun _ => True) v0_ r ∧ Below w.heap.size w w' := by
  unfold bytes_Clone.f at h
  split at h
  case isFalse => cases h
  rename_i hl0
  have HL := Aside0.mk hl0
  clear hl0
  obtain rfl := Option.some.inj h
  clear h
  have HR := Aside0.mk hr0
  clear hr0
  have ke : ∀ (a : Option Addr) (n c : Nat) (W : World), (binOp .eql 23 (.slice a n c) (.slice none 0 0)).run Try.prog W = .ok (.bool a.isNone) W := fun a n c W => Lib.run_eql_slice_nil W 23 5 a n c 0 0 Try.underlying23
  rcases A0 with _ | ad
  · obtain rfl := readsNone HR.out
    go_enter Try.func42, Try.ntmps42
    go_wp2_with fail
    go_ret
    exact ⟨_, rfl, Kd.R_nil _ _ _ _ _, Below.refl _ _⟩
  · go_enter Try.func42, Try.ntmps42
    go_wp2_with ((with_reducible refine gate_builtin (b := .append) (xs := #[.tmp 5, .tmp 6]) rfl ?_); at_builtin; refine Kd.R_append_rows (Kd.int .u8) (w0 := w) w.heap.size rfl (.tmp 5) (.tmp 6) 23 5 (.int .u8 0) 1 rfl Try.underlying23 info5 rfl (by decide) (by omega) (.slice (some ⟨w.heap.size, 0, none⟩) 0 0) ([] : List Int) l0 _ _ _ (fun _ => True) (fun _ => False) rfl rfl (lit_empty w) (Kd.C_alloc HR.out _) (fun _ _ h => h) (fun _ h => h.elim) (fun _ _ => trivial) (below_alloc (Below.refl _ _) _) (below_size (below_alloc (Below.refl _ _) _)) (by have := HL.out; simp only [List.length_nil]; omega) ?_; intro v1 w1 ho hb hg hat)
    go_ret
    exact ⟨_, rfl, ho, hb⟩
end Go.Proofs.Ytbgbocdohadhoaa.Print
namespace Go.Proofs.Ytbgbocdohadhoaa.Print
open Go Go.RowKit Go.Proofs.YtbgbocdohadhoaaW.PrintWords Go.Proofs.YtbgbocdohadhoaaW.PrintLast Go.Proofs.YtbgbocdohadhoaaW.PrintMore
set_option linter.unusedVariables false
set_option linter.unusedSimpArgs false
structure UK (w0 W : World) (g : Nat) (l : List Int) (bad : Bool) : Prop where
  ex : ∃ A c, W.heap[g]? = some (.cells #[.slice A l.length c, .bool bad] 54 (0, 0)) ∧ l.length ≤ c ∧ Kd.C (Kd.int .u8) w0 A l.length l
  be : Below w0.heap.size w0 W
  hg : w0.heap.size ≤ g
theorem UK.below {w0 W W' : World} {g : Nat} {l : List Int} {bad : Bool} (h : UK w0 W g l bad) (hb : Below W.heap.size W W') : UK w0 W' g l bad := by
  obtain ⟨⟨A, c, hx, hc, hr⟩, hbe, hg⟩ := h
  exact ⟨⟨A, c, blk_below hx hb, hc, hr⟩, below_step hbe hb, hg⟩
theorem kept_set (w : World) (g j : Nat) (v : Value) : Kept w (w.setCell ⟨g, j, none⟩ v) (fun k => k = g) := ⟨by simp [World.setCell], fun i hi hn => Below.heap_setCell w ⟨g, j, none⟩ v i hn⟩
theorem Kept.trans_ {a b c : World} {S : Nat → Prop} (h : Kept a b S) (k : Kept b c S) : Kept a c S := ⟨Nat.le_trans h.1 k.1, fun i hi hn => (k.2 i (Nat.lt_of_lt_of_le hi h.1) hn).trans (h.2 i hi hn)⟩
set_option maxHeartbeats 2000000 in
set_option maxRecDepth 100000 in
theorem unp_byte (w0 w : World) (g : Nat) (l : List Int) (bad : Bool) (HU : UK w0 w g l bad) :
    Calls Try.prog 30 #[.pointer (some ⟨g, 0, none⟩)] w fun e w' => e = .returned (.int .u8 (l.headD 0)) ∧ UK w0 w' g l.tail (bad || l.isEmpty) ∧ Kept w w' (fun k => k = g) := by
  obtain ⟨⟨A, c, hbox, hc, hr⟩, hbe, hgg⟩ := HU
  have z0 := blk_cell hbox 0
  have z1 := blk_cell hbox 1
  simp only [List.getElem?_toArray, List.getElem?_cons_zero, List.getElem?_cons_succ] at z0 z1
  have f0 := blk_frozen hbox 0
  have f1 := blk_frozen hbox 1
  have HX := Aside0.mk hbox
  have HB := Aside0.mk (And.intro hbe hgg)
  cases l with
  | nil =>
    have HR := Aside0.mk (And.intro hc hr)
    clear hbox hbe hgg hc hr
    simp only [List.length_nil] at z0
    go_enter Try.func30, Try.ntmps30
    go_wp2_with fail
    go_ret
    refine ⟨rfl, ⟨⟨A, c, ?_, HR.out.1, HR.out.2⟩, below_set HB.out.1 HB.out.2, HB.out.2⟩, kept_set w g 1 _⟩
    rw [show (bad || ([] : List Int).isEmpty) = true by simp]
    exact blk_put HX.out 1 _ rfl
  | cons x r =>
    have hxx := (Kd.C_below hr hbe)
    obtain ⟨ad, rfl, hx⟩ := Kd.at_int hxx 0 (by omega) (by simp only [List.length_cons]; omega)
    obtain ⟨i0, hi0, _, hsz0, _⟩ := info_parts info5
    obtain ⟨A6, hcut6, hA6, hC6⟩ := print_drop_of (P := Try.prog) (Value.int .u8) 0 23 5 .i64 Try.underlying23 hi0 hsz0 (some ad) c (x :: r) 1 (by omega) (by simp only [List.length_cons]; omega) hc
    have HR := Aside0.mk (And.intro hC6 (Kd.C_of_reads (h1 := fun _ => rfl) (hA6 _ (Kd.reads_of_C hr))))
    have hrd : rd (x :: r) 0 = x := rfl
    rw [hrd] at hx
    replace hx : w.cell? ad = some (.int .u8 x) := hx
    have e1 : (x :: r).drop (1 : Int).toNat = r := rfl
    rw [e1] at hcut6 HR
    rw [show (1 : Int).toNat = 1 from rfl] at hcut6 HR
    have hln : decide (((x :: r).length : Int) = 0) = false := decide_eq_false (by simp only [List.length_cons]; omega)
    have hln2 : decide ((0 : Int) < ((x :: r).length : Int)) = true := decide_eq_true (by simp only [List.length_cons]; omega)
    generalize hL : (x :: r).length = L at *
    have hln3 : (0 : Int) < (L : Int) := by rw [← hL]; simp only [List.length_cons]; omega
    clear hbox hbe hgg hc hr hxx hrd hC6 hA6 hi0 hsz0
    go_enter Try.func30, Try.ntmps30
    go_wp2_with fail
    go_ret
    refine ⟨rfl, ⟨⟨A6, _, ?_, HR.out.1, HR.out.2⟩, below_set HB.out.1 HB.out.2, HB.out.2⟩, kept_set w g 0 _⟩
    rw [show (bad || (x :: r).isEmpty) = bad by simp]
    exact blk_put HX.out 0 _ rfl
def numL : Nat → Nat → Int → List Int → Bool → Int × List Int × Bool
  | 0, _, _, l, _ => (0, l, true)
  | d + 1, i, v, l, bad => if l.headD 0 < 128 then (Go.bits .or .u64 v (IntKind.u64.wrap (IntKind.u64.wrap (Go.bits .and .u8 (l.headD 0) 127) * 2 ^ (7 * i))), l.tail, bad || l.isEmpty) else numL d (i + 1) (Go.bits .or .u64 v (IntKind.u64.wrap (IntKind.u64.wrap (Go.bits .and .u8 (l.headD 0) 127) * 2 ^ (7 * i)))) l.tail (bad || l.isEmpty)
set_option maxHeartbeats 2000000 in
set_option maxRecDepth 100000 in
theorem unp_number (w0 w : World) (g : Nat) (l : List Int) (bad : Bool) (HU : UK w0 w g l bad) :
    Calls Try.prog 31 #[.pointer (some ⟨g, 0, none⟩)] w fun e w' => e = .returned (.int .u64 (numL 10 0 0 l bad).1) ∧ UK w0 w' g (numL 10 0 0 l bad).2.1 (numL 10 0 0 l bad).2.2 ∧ Kept w w' (fun k => k = g) := by
  have HQ := Aside0.mk HU
  clear HU
  go_enter Try.func31, Try.ntmps31
  go_wp2
  go_loopw [3, 6] (fun v3 v6 wr => ∃ (v : Int) (i d : Nat) (lr : List Int) (bd : Bool), v3 = .int .u64 v ∧ v6 = .int .i64 i ∧ i + d = 10 ∧ Aside0 (numL d i v lr bd = numL 10 0 0 l bad) ∧ Aside0 (UK w0 wr g lr bd) ∧ Aside0 (Kept w wr (fun k => k = g))) (fun _ v6 _ => 10 - (intOf v6).toNat)
  case atStart => exact ⟨0, 0, 10, l, bad, rfl, rfl, rfl, ⟨rfl⟩, HQ, ⟨Kept.refl w _⟩⟩
  case round =>
    clear HQ
    obtain ⟨v, i, d, lr, bd, rfl, rfl, hid, HV, HQ, HK⟩ := hrel
    by_cases hlt : i < 10
    · have hd1 : decide ((i : Int) < 10) = true := decide_eq_true (by omega)
      obtain ⟨d, rfl⟩ : ∃ q, d = q + 1 := ⟨d - 1, by omega⟩
      go_wp2_with fail
      refine (unp_byte w0 _ g lr bd HQ.out).mono ?_
      rintro e w1 ⟨rfl, h1, h2⟩
      have HQ1 := Aside0.mk h1
      have HK1 := Aside0.mk (Kept.trans_ HK.out h2)
      clear h1 h2 HK HQ
      have hw7 : wrap64 (7 * (i : Int)) = 7 * (i : Int) := by unfold wrap64; omega
      have hn7 : (0 : Int) ≤ 7 * (i : Int) := by omega
      by_cases hc : lr.headD 0 < 128
      · have hd2 : decide (lr.headD 0 < 128) = true := decide_eq_true hc
        have HE := HV.out
        rw [numL, if_pos hc] at HE
        have HE' := Aside0.mk HE
        clear HE HV hc
        generalize lr.headD 0 = x at *
        go_wp2_with fail
        go_ret
        rw [← HE'.out]
        exact ⟨rfl, HQ1.out, HK1.out⟩
      · have hd2 : decide (lr.headD 0 < 128) = false := decide_eq_false hc
        have HE := HV.out
        rw [numL, if_neg hc] at HE
        have HE' := Aside0.mk HE
        clear HE HV hc
        generalize lr.headD 0 = x at *
        go_wp2_with fail
        go_roundw
        case rel => exact ⟨_, i + 1, d, lr.tail, bd || lr.isEmpty, rfl, by go_num, by omega, HE', HQ1, HK1⟩
        case measure => simp [intOf]; omega
    · have hd1 : decide ((i : Int) < 10) = false := decide_eq_false (by omega)
      obtain rfl : d = 0 := by omega
      obtain ⟨⟨A, c, hbox, hc, hr⟩, hbe, hgg⟩ := HQ.out
      have z1 := blk_cell hbox 1
      simp only [List.getElem?_toArray, List.getElem?_cons_zero, List.getElem?_cons_succ] at z1
      have f1 := blk_frozen hbox 1
      have HX := Aside0.mk hbox
      have HR := Aside0.mk (And.intro hc hr)
      have HB := Aside0.mk (And.intro hbe hgg)
      clear hbox hc hr hbe hgg
      go_wp2_with fail
      go_ret
      rw [← HV.out]
      exact ⟨rfl, ⟨⟨A, c, blk_put HX.out 1 _ rfl, HR.out.1, HR.out.2⟩, below_set HB.out.1 HB.out.2, HB.out.2⟩, Kept.trans_ HK.out (kept_set _ g 1 _)⟩
theorem or_nonneg (a b : Int) : 0 ≤ Go.bits .or .u64 a b := by
  show 0 ≤ IntKind.u64.wrap _
  exact wrap_u64_nonneg _
theorem numL_nonneg : ∀ (d i : Nat) (v : Int) (l : List Int) (bad : Bool), 0 ≤ (numL d i v l bad).1
  | 0, _, _, _, _ => by simp [numL]
  | d + 1, i, v, l, bad => by
    unfold numL
    split
    · exact or_nonneg _ _
    · exact numL_nonneg d _ _ _ _
theorem numL_len : ∀ (d i : Nat) (v : Int) (l : List Int) (bad : Bool), (numL d i v l bad).2.1.length ≤ l.length
  | 0, _, _, _, _ => by simp [numL]
  | d + 1, i, v, l, bad => by
    unfold numL
    split
    · simp
    · have := numL_len d (i + 1) (Go.bits .or .u64 v (IntKind.u64.wrap (IntKind.u64.wrap (Go.bits .and .u8 (l.headD 0) 127) * 2 ^ (7 * i)))) l.tail (bad || l.isEmpty)
      simp only [List.length_tail] at this
      omega
def cntL (l : List Int) (bad : Bool) : Int × List Int × Bool := if ((numL 10 0 0 l bad).2.1.length : Int) < (numL 10 0 0 l bad).1 then (0, (numL 10 0 0 l bad).2.1, true) else numL 10 0 0 l bad
theorem cntL_range (l : List Int) (bad : Bool) : 0 ≤ (cntL l bad).1 ∧ (cntL l bad).1 ≤ ((cntL l bad).2.1.length : Int) := by
  have := numL_nonneg 10 0 0 l bad
  unfold cntL
  split
  · simp
  · omega
theorem cntL_len (l : List Int) (bad : Bool) : (cntL l bad).2.1.length ≤ l.length := by
  have := numL_len 10 0 0 l bad
  unfold cntL
  split <;> exact this
set_option maxHeartbeats 2000000 in
set_option maxRecDepth 100000 in
theorem unp_count (w0 w : World) (g : Nat) (l : List Int) (bad : Bool) (HU : UK w0 w g l bad) (hl : l.length ≤ 2097152) :
    Calls Try.prog 41 #[.pointer (some ⟨g, 0, none⟩)] w fun e w' => e = .returned (.int .i64 (cntL l bad).1) ∧ UK w0 w' g (cntL l bad).2.1 (cntL l bad).2.2 ∧ Kept w w' (fun k => k = g) := by
  have HQ := Aside0.mk HU
  have hn0 := numL_nonneg 10 0 0 l bad
  have hnl := Nat.le_trans (numL_len 10 0 0 l bad) hl
  have HC := Aside0.mk (show cntL l bad = if ((numL 10 0 0 l bad).2.1.length : Int) < (numL 10 0 0 l bad).1 then (0, (numL 10 0 0 l bad).2.1, true) else numL 10 0 0 l bad from rfl)
  clear HU hl
  go_enter Try.func41, Try.ntmps41
  go_wp2_with fail
  refine (unp_number w0 w g l bad HQ.out).mono ?_
  rintro e w1 ⟨rfl, h1, h2⟩
  rcases hq : numL 10 0 0 l bad with ⟨n, r, b⟩
  rw [hq] at h1 hn0 hnl HC
  simp only at h1 hn0 hnl HC
  have HK := Aside0.mk h2
  have HQ1 := Aside0.mk h1
  obtain ⟨⟨A, c, hbox, hc, hr⟩, hbe, hgg⟩ := h1
  have z0 := blk_cell hbox 0
  have z1 := blk_cell hbox 1
  simp only [List.getElem?_toArray, List.getElem?_cons_zero, List.getElem?_cons_succ] at z0 z1
  have f1 := blk_frozen hbox 1
  have HX := Aside0.mk hbox
  have HR := Aside0.mk (And.intro hc hr)
  have HB := Aside0.mk (And.intro hbe hgg)
  have hu := u64_id (r.length : Int) (by omega) (by omega)
  have HN := Aside0.mk (And.intro hn0 hnl)
  clear hbox hc hr hbe hgg h2 hq HQ hn0 hnl
  by_cases hlt : (r.length : Int) < n
  · have hd : decide ((r.length : Int) < n) = true := decide_eq_true hlt
    have HE := Aside0.mk (show cntL l bad = (0, r, true) by rw [HC.out, if_pos hlt])
    clear HC hlt
    go_wp2_with fail
    go_ret
    rw [HE.out]
    exact ⟨rfl, ⟨⟨A, c, blk_put HX.out 1 _ rfl, HR.out.1, HR.out.2⟩, below_set HB.out.1 HB.out.2, HB.out.2⟩, Kept.trans_ HK.out (kept_set _ g 1 _)⟩
  · have hd : decide ((r.length : Int) < n) = false := decide_eq_false hlt
    have HW := Aside0.mk (show wrap64 n = n by have := HN.out; clear hu; unfold wrap64; omega)
    have HE := Aside0.mk (show cntL l bad = (n, r, b) by rw [HC.out, if_neg hlt])
    clear HC hlt
    go_wp2_with fail
    go_ret
    rw [HE.out]
    exact ⟨congrArg (fun x => Ending.returned (Value.int .i64 x)) HW.out, HQ1.out, HK.out⟩
def txtL (l : List Int) (bad : Bool) : List Int × List Int × Bool := ((cntL l bad).2.1.take (cntL l bad).1.toNat, (cntL l bad).2.1.drop (cntL l bad).1.toNat, (cntL l bad).2.2)
theorem txtL_len (l : List Int) (bad : Bool) : (txtL l bad).1.length ≤ l.length ∧ (txtL l bad).2.1.length ≤ l.length := by
  have := cntL_len l bad
  unfold txtL
  simp only [List.length_take, List.length_drop]
  omega
set_option maxHeartbeats 2000000 in
set_option maxRecDepth 100000 in
theorem unp_text (w0 w : World) (g : Nat) (l : List Int) (bad : Bool) (HU : UK w0 w g l bad) (hl : l.length ≤ 2097152) :
    Calls Try.prog 32 #[.pointer (some ⟨g, 0, none⟩)] w fun e w' => ∃ v : Value, e = .returned v ∧ Kd.R (Kd.int .u8) 5 w' w.heap.size (fun _ => True) v (txtL l bad).1 ∧ UK w0 w' g (txtL l bad).2.1 (txtL l bad).2.2 ∧ Kept w w' (fun k => k = g) := by
  have HQ := Aside0.mk HU
  have hn0 := cntL_range l bad
  have hnl := Nat.le_trans (cntL_len l bad) hl
  have HC := Aside0.mk (show txtL l bad = ((cntL l bad).2.1.take (cntL l bad).1.toNat, (cntL l bad).2.1.drop (cntL l bad).1.toNat, (cntL l bad).2.2) from rfl)
  have HL := Aside0.mk hl
  clear HU hl
  go_enter Try.func32, Try.ntmps32
  go_wp2_with fail
  refine (unp_count w0 w g l bad HQ.out HL.out).mono ?_
  rintro e w1 ⟨rfl, h1, h2⟩
  rcases hq : cntL l bad with ⟨n, r, b⟩
  rw [hq] at h1 hn0 hnl HC
  simp only at h1 hn0 hnl HC
  obtain ⟨hn0, hn1⟩ := hn0
  have HK := Aside0.mk h2
  obtain ⟨⟨A, c, hbox, hc, hr⟩, hbe, hgg⟩ := h1
  have z0 := blk_cell hbox 0
  simp only [List.getElem?_toArray, List.getElem?_cons_zero, List.getElem?_cons_succ] at z0
  have hrr := Kd.C_below hr hbe
  obtain ⟨i0, hi0, _, hsz0, _⟩ := info_parts info5
  obtain ⟨hcut1, hA1, hC1⟩ := print_take_of (P := Try.prog) (Value.int .u8) 0 23 5 .i64 Try.underlying23 hi0 hsz0 A c r n hn0 hn1 hc
  obtain ⟨A6, hcut6, hA6, hC6⟩ := print_drop_of (P := Try.prog) (Value.int .u8) 0 23 5 .i64 Try.underlying23 hi0 hsz0 A c r n hn0 hn1 hc
  have HT := Aside0.mk (And.intro (Kd.C_of_reads (h1 := fun _ => rfl) (hA1 _ (Kd.reads_of_C hrr))) hC1)
  have HD := Aside0.mk (And.intro hC6 (Kd.C_of_reads (h1 := fun _ => rfl) (hA6 _ (Kd.reads_of_C hr))))
  have htl : (r.take n.toNat).length ≤ 2097152 := by rw [List.length_take]; omega
  have HTL := Aside0.mk htl
  have HX := Aside0.mk hbox
  have HB := Aside0.mk (And.intro hbe hgg)
  generalize r.take n.toNat = t at *
  generalize r.drop n.toNat = q at *
  clear hbox hc hr hrr hbe hgg h2 hq HQ hn0 hn1 hnl htl hA1 hC1 hA6 hC6 hi0 hsz0
  go_wp2_with fail
  refine (bytes_Clone.calls A c t t w1 HT.out.1 HT.out.2 (by unfold bytes_Clone.f; rw [if_pos (by have := HTL.out; omega)])).mono ?_
  rintro e w2 ⟨v, rfl, hv, hb⟩
  have HV := Aside0.mk (Kd.R_lower hv HK.out.1)
  obtain ⟨B, d, rfl⟩ := Kd.R_slice hv
  have HX2 := Aside0.mk (blk_below HX.out hb)
  have HB2 := Aside0.mk (below_step HB.out.1 hb)
  have HK2 := Aside0.mk (Kept.trans_ HK.out (Kept.of_below hb _))
  clear z0 hv hb HX
  have z0 := blk_cell HX2.out 0
  simp only [List.getElem?_toArray, List.getElem?_cons_zero, List.getElem?_cons_succ] at z0
  have f0 := blk_frozen HX2.out 0
  go_wp2_with fail
  go_ret
  rw [HC.out]
  exact ⟨_, rfl, Kd.R_set HV.out HX2.out (by decide) 0 _, ⟨⟨A6, _, blk_put HX2.out 0 _ rfl, HD.out.1, HD.out.2⟩, below_set HB2.out HB.out.2, HB.out.2⟩, Kept.trans_ HK2.out (kept_set _ g 0 _)⟩
end Go.Proofs.Ytbgbocdohadhoaa.Print
namespace Go.Proofs.Ytbgbocdohadhoaa.Print
open Go Go.RowKit Go.Proofs.YtbgbocdohadhoaaW.PrintWords Go.Proofs.YtbgbocdohadhoaaW.PrintLast Go.Proofs.YtbgbocdohadhoaaW.PrintMore
set_option linter.unusedVariables false
set_option linter.unusedSimpArgs false
def TabI (es : Array MapEntry) (L : List (Int × Value)) : Prop := es.toList.map (fun e => (e.key, e.val)) = L.map (fun p => (Value.int .i64 p.1, p.2))
theorem findNow_tab (n : Int) : ∀ (l : List MapEntry) (L : List (Int × Value)) (i : Nat), l.map (fun e => (e.key, e.val)) = L.map (fun p => (Value.int .i64 p.1, p.2)) → ∃ r, Instr.findNow (.int .i64) (.int .i64 n) l i = some r ∧ r.map (·.2) = (L.find? (fun p => p.1 == n)).map (·.2) := by
  intro l
  induction l with
  | nil =>
    intro L i h
    cases L with
    | nil => exact ⟨none, rfl, rfl⟩
    | cons p L => simp at h
  | cons e l ih =>
    intro L i h
    cases L with
    | nil => simp at h
    | cons p L =>
      simp only [List.map_cons, List.cons.injEq, Prod.mk.injEq] at h
      obtain ⟨⟨h1, h2⟩, h3⟩ := h
      unfold Instr.findNow
      rw [h1]
      simp only [Instr.sameNow, if_true]
      by_cases c : n = p.1
      · have e1 : (n == p.1) = true := beq_iff_eq.2 c
        have e2 : (p.1 == n) = true := beq_iff_eq.2 c.symm
        rw [e1]
        refine ⟨_, rfl, ?_⟩
        rw [List.find?_cons_of_pos (by exact e2)]
        simp [h2]
      · have e1 : (n == p.1) = false := beq_eq_false_iff_ne.2 c
        have e2 : ¬ (p.1 == n) = true := by simp; exact fun h => c h.symm
        rw [e1, List.find?_cons_of_neg (by exact e2)]
        exact ih L (i + 1) h3
theorem run_insertI {P : Program} {w : World} {t k e : TypeId} {b : Nat} {es : Array MapEntry} {L : List (Int × Value)} {c : Nat} (ht : P.underlying t = some (.map k e)) (hk : P.underlying k = some (.int .i64)) (hb : w.heap[b]? = some (.map es c)) (hL : TabI es L) (n : Int) (v : Value) (hno : L.find? (fun p => p.1 == n) = none) :
    (Instr.mapUpdate t (.map (some b)) (.int .i64 n) v).run P w = .ok () (w.putObj b (.map (es.push { key := .int .i64 n, val := v, born := c }) (c + 1))) := by
  obtain ⟨r, hr, hr2⟩ := findNow_tab n es.toList L 0 hL
  rw [hno] at hr2
  obtain rfl : r = none := by cases r <;> simp_all
  have hc : (Instr.checkKey false 10000 k (.int .i64 n)).run P w = .ok () w := MapKept.run_checkKey (k := .int .i64 n) hk (by simp [MapKept.IsKey]) false 9999
  simp [Instr.mapUpdate, run_underlying ht, MapKept.run_getObj_map hb, hc, MapKept.run_findKey hk hr, MapKept.run_setObj_map _ hb, Result.andThen]
  rfl
theorem run_lookupI {P : Program} {w : World} {t k e : TypeId} {b : Nat} {es : Array MapEntry} {L : List (Int × Value)} {c : Nat} (ht : P.underlying t = some (.map k e)) (hk : P.underlying k = some (.int .i64)) (hb : w.heap[b]? = some (.map es c)) (hL : TabI es L) (n : Int) (z : Value) (hz : (zeroValue e).run P w = .ok z w) :
    (Instr.lookup t (.map (some b)) (.int .i64 n) true).run P w = .ok (.tuple #[((L.find? (fun p => p.1 == n)).map (·.2)).getD z, .bool (L.find? (fun p => p.1 == n)).isSome]) w := by
  obtain ⟨r, hr, hr2⟩ := findNow_tab n es.toList L 0 hL
  have hc : (Instr.checkKey es.isEmpty 10000 k (.int .i64 n)).run P w = .ok () w := MapKept.run_checkKey (k := .int .i64 n) hk (by simp [MapKept.IsKey]) es.isEmpty 9999
  cases hf : L.find? (fun p => p.1 == n) with
  | none =>
    rw [hf] at hr2
    obtain rfl : r = none := by cases r <;> simp_all
    simp [Instr.lookup, run_underlying ht, MapKept.run_getObj_map hb, hc, MapKept.run_findKey hk hr, Result.andThen, hz]
  | some p =>
    rw [hf] at hr2
    obtain ⟨q, rfl⟩ : ∃ q, r = some q := by cases r <;> simp_all
    have hq : q.2 = p.2 := by simpa using hr2
    obtain ⟨q1, q2⟩ := q
    simp only at hq
    subst hq
    simp [Instr.lookup, run_underlying ht, MapKept.run_getObj_map hb, hc, MapKept.run_findKey hk hr, Result.andThen]
theorem TabI.push {es : Array MapEntry} {L : List (Int × Value)} (h : TabI es L) (n : Int) (v : Value) (c : Nat) : TabI (es.push { key := .int .i64 n, val := v, born := c }) (L ++ [(n, v)]) := by
  unfold TabI at *
  simp [h]
structure KS (w W : World) (b1 b2 b3 b : Nat) (t : TypeId) (u1 u2 u3 : Array Value) (L : List (Int × Value)) : Prop where
  k1 : W.heap[b1]? = some (.cells u1 t (0, 0))
  k2 : W.heap[b2]? = some (.cells u2 t (0, 0))
  k3 : W.heap[b3]? = some (.cells u3 t (0, 0))
  m : ∃ es c, W.heap[b]? = some (.map es c) ∧ TabI es L
  be : Below w.heap.size w W
  hb : w.heap.size ≤ b
theorem KS.step {w W : World} {b1 b2 b3 b : Nat} {t : TypeId} {u1 u2 u3 : Array Value} {L : List (Int × Value)} (h : KS w W b1 b2 b3 b t u1 u2 u3 L) (n : Int) (v : Value) {es : Array MapEntry} {c : Nat} (hm : W.heap[b]? = some (.map es c)) (ht : TabI es L) :
    KS w (W.putObj b (.map (es.push { key := .int .i64 n, val := v, born := c }) (c + 1))) b1 b2 b3 b t u1 u2 u3 (L ++ [(n, v)]) := by
  have ne : ∀ {g : Nat} {u : Array Value}, W.heap[g]? = some (.cells u t (0, 0)) → g ≠ b := fun hg e => by rw [e, hm] at hg; cases hg
  have hlt := blk_lt hm
  refine ⟨(World.putObj_heap_other (ne h.k1)).trans h.k1, (World.putObj_heap_other (ne h.k2)).trans h.k2, (World.putObj_heap_other (ne h.k3)).trans h.k3, ⟨_, _, World.putObj_heap_same hlt, ht.push n v c⟩, ?_, h.hb⟩
  exact h.be.grown (grownBy_putObj' W b _) h.be.size (fun k e => by cases e; exact h.hb)
theorem wpList_insertI {P : Program} {ops : Array Oper} {rest : List Oper} {o : Oper} {a : Act} {Q : Exit → Act → World → Prop} {w W : World} {b1 b2 b3 b : Nat} {ty : TypeId} {u1 u2 u3 : Array Value} {L : List (Int × Value)} (hg : o.guard = none) (t k e : TypeId) (m x : Operand) (n : Int) (hop : o.op = .insert t m (.const (.int .i64 n)) x) (ht : P.underlying t = some (.map k e)) (hk : P.underlying k = some (.int .i64)) (hm : a.eval m = .map (some b))
    (H : KS w W b1 b2 b3 b ty u1 u2 u3 L) (hno : L.find? (fun p => p.1 == n) = none) (v : Value) (hv : a.eval x = v) (h : ∀ W', KS w W' b1 b2 b3 b ty u1 u2 u3 (L ++ [(n, v)]) → wpList P ops Q rest (a.put o.dst undef) W') : wpList P ops Q (o :: rest) a W := by
  obtain ⟨es, c, he, hT⟩ := H.m
  have hr := run_insertI (P := P) ht hk he hT n v hno
  refine wpList_plain hg fun K hK => ?_
  unfold Oper.wp
  have hcn : a.eval (Operand.const (.int .i64 n)) = .int .i64 n := rfl
  simp [execOp, hop, hm, hv, hcn, hr, Result.andThen]
  exact hK _ _ (h _ (H.step n v he hT))
end Go.Proofs.Ytbgbocdohadhoaa.Print
namespace Go.Proofs.Ytbgbocdohadhoaa.Print
open Go Go.RowKit Go.Proofs.YtbgbocdohadhoaaW.PrintWords Go.Proofs.YtbgbocdohadhoaaW.PrintLast Go.Proofs.YtbgbocdohadhoaaW.PrintMore
set_option linter.unusedVariables false
set_option linter.unusedSimpArgs false
def kb (a b c d e : Bool) : Value := .agg #[.bool a, .bool b, .bool c, .bool d, .bool e]
def kindsL : List (Int × Value) := [(1, kb false false false false false), (2, kb true false false false false), (3, kb true false false false false), (12, kb true false false false false), (4, kb true true true true false), (5, kb true true false false false), (9, kb true true false false false), (11, kb true true false false false), (6, kb false true false false false), (13, kb false true false false false), (7, kb true true false true false), (8, kb true true true false false), (10, kb true true false false true)]
set_option maxHeartbeats 2000000 in
set_option maxRecDepth 100000 in
theorem impl_kinds_calls (w : World) :
    Calls Try.prog 38 #[] w fun e w' => ∃ b es c, e = .returned (.map (some b)) ∧ w'.heap[b]? = some (.map es c) ∧ TabI es kindsL ∧ w.heap.size ≤ b ∧ Below w.heap.size w w' := by
  have HK := Aside0.mk (show KS w ((((w.alloc (.cells #[.bool true, .bool false, .bool false, .bool false, .bool false] 60)).alloc (.cells #[.bool true, .bool true, .bool false, .bool false, .bool false] 60)).alloc (.cells #[.bool false, .bool true, .bool false, .bool false, .bool false] 60)).alloc (.map #[] 0)) w.heap.size (w.heap.size + 1) (w.heap.size + 1 + 1) (w.heap.size + 1 + 1 + 1) 60 #[.bool true, .bool false, .bool false, .bool false, .bool false] #[.bool true, .bool true, .bool false, .bool false, .bool false] #[.bool false, .bool true, .bool false, .bool false, .bool false] [] from by
    have a1 := blk_new w (.cells #[.bool true, .bool false, .bool false, .bool false, .bool false] 60)
    have a2 := blk_new (w.alloc (.cells #[.bool true, .bool false, .bool false, .bool false, .bool false] 60)) (.cells #[.bool true, .bool true, .bool false, .bool false, .bool false] 60)
    have a3 := blk_new ((w.alloc (.cells #[.bool true, .bool false, .bool false, .bool false, .bool false] 60)).alloc (.cells #[.bool true, .bool true, .bool false, .bool false, .bool false] 60)) (.cells #[.bool false, .bool true, .bool false, .bool false, .bool false] 60)
    have a4 := blk_new (((w.alloc (.cells #[.bool true, .bool false, .bool false, .bool false, .bool false] 60)).alloc (.cells #[.bool true, .bool true, .bool false, .bool false, .bool false] 60)).alloc (.cells #[.bool false, .bool true, .bool false, .bool false, .bool false] 60)) (.map #[] 0)
    simp only [World.size_alloc] at a2 a3 a4
    exact ⟨blk_alloc (blk_alloc (blk_alloc a1 _) _) _, blk_alloc (blk_alloc a2 _) _, blk_alloc a3 _, ⟨#[], 0, a4, rfl⟩, by repeat (first | exact Below.refl _ _ | apply below_alloc), by omega⟩)
  have hmm := @run_makeMap Try.prog
  go_enter Try.func38, Try.ntmps38
  go_wp2_with (refine wpList_insertI (w := w) rfl 62 3 60 (.tmp 7) _ _ rfl Try.underlying62 Try.underlying3 rfl HK.out (by rfl) _ rfl ?_; intro W' h'; have n_ := Aside0.mk h'; clear HK h'; (try clear z10) ; (try clear z11) ; (try clear z12) ; (try clear z13) ; (try clear z14) ; (try clear z20) ; (try clear z21) ; (try clear z22) ; (try clear z23) ; (try clear z24) ; (try clear z30) ; (try clear z31) ; (try clear z32) ; (try clear z33) ; (try clear z34); have HK := n_; clear n_; have z10 : W'.cell? ⟨w.heap.size, 0, none⟩ = some (.bool true) := (blk_cell HK.out.k1 0).trans rfl; have z11 : W'.cell? ⟨w.heap.size, 1, none⟩ = some (.bool false) := (blk_cell HK.out.k1 1).trans rfl; have z12 : W'.cell? ⟨w.heap.size, 2, none⟩ = some (.bool false) := (blk_cell HK.out.k1 2).trans rfl; have z13 : W'.cell? ⟨w.heap.size, 3, none⟩ = some (.bool false) := (blk_cell HK.out.k1 3).trans rfl; have z14 : W'.cell? ⟨w.heap.size, 4, none⟩ = some (.bool false) := (blk_cell HK.out.k1 4).trans rfl; have z20 : W'.cell? ⟨w.heap.size + 1, 0, none⟩ = some (.bool true) := (blk_cell HK.out.k2 0).trans rfl; have z21 : W'.cell? ⟨w.heap.size + 1, 1, none⟩ = some (.bool true) := (blk_cell HK.out.k2 1).trans rfl; have z22 : W'.cell? ⟨w.heap.size + 1, 2, none⟩ = some (.bool false) := (blk_cell HK.out.k2 2).trans rfl; have z23 : W'.cell? ⟨w.heap.size + 1, 3, none⟩ = some (.bool false) := (blk_cell HK.out.k2 3).trans rfl; have z24 : W'.cell? ⟨w.heap.size + 1, 4, none⟩ = some (.bool false) := (blk_cell HK.out.k2 4).trans rfl; have z30 : W'.cell? ⟨w.heap.size + 1 + 1, 0, none⟩ = some (.bool false) := (blk_cell HK.out.k3 0).trans rfl; have z31 : W'.cell? ⟨w.heap.size + 1 + 1, 1, none⟩ = some (.bool true) := (blk_cell HK.out.k3 1).trans rfl; have z32 : W'.cell? ⟨w.heap.size + 1 + 1, 2, none⟩ = some (.bool false) := (blk_cell HK.out.k3 2).trans rfl; have z33 : W'.cell? ⟨w.heap.size + 1 + 1, 3, none⟩ = some (.bool false) := (blk_cell HK.out.k3 3).trans rfl; have z34 : W'.cell? ⟨w.heap.size + 1 + 1, 4, none⟩ = some (.bool false) := (blk_cell HK.out.k3 4).trans rfl)
  go_ret
  obtain ⟨es, c, h1, h2⟩ := HK.out.m
  exact ⟨_, es, c, rfl, h1, h2, HK.out.hb, HK.out.be⟩
end Go.Proofs.Ytbgbocdohadhoaa.Print
namespace Go.Proofs.Ytbgbocdohadhoaa.Print
open Go Go.RowKit Go.Proofs.YtbgbocdohadhoaaW.PrintWords Go.Proofs.YtbgbocdohadhoaaW.PrintLast Go.Proofs.YtbgbocdohadhoaaW.PrintMore
set_option linter.unusedVariables false
set_option linter.unusedSimpArgs false
def KCase (n : Int) (b0 b1 b2 b3 b4 ok : Bool) : Prop :=
  (n = 1 ∧ b0 = false ∧ b1 = false ∧ b2 = false ∧ b3 = false ∧ b4 = false ∧ ok = true) ∨ (n = 2 ∧ b0 = true ∧ b1 = false ∧ b2 = false ∧ b3 = false ∧ b4 = false ∧ ok = true) ∨ (n = 3 ∧ b0 = true ∧ b1 = false ∧ b2 = false ∧ b3 = false ∧ b4 = false ∧ ok = true) ∨ (n = 12 ∧ b0 = true ∧ b1 = false ∧ b2 = false ∧ b3 = false ∧ b4 = false ∧ ok = true) ∨ (n = 4 ∧ b0 = true ∧ b1 = true ∧ b2 = true ∧ b3 = true ∧ b4 = false ∧ ok = true) ∨ (n = 5 ∧ b0 = true ∧ b1 = true ∧ b2 = false ∧ b3 = false ∧ b4 = false ∧ ok = true) ∨ (n = 9 ∧ b0 = true ∧ b1 = true ∧ b2 = false ∧ b3 = false ∧ b4 = false ∧ ok = true) ∨ (n = 11 ∧ b0 = true ∧ b1 = true ∧ b2 = false ∧ b3 = false ∧ b4 = false ∧ ok = true) ∨ (n = 6 ∧ b0 = false ∧ b1 = true ∧ b2 = false ∧ b3 = false ∧ b4 = false ∧ ok = true) ∨ (n = 13 ∧ b0 = false ∧ b1 = true ∧ b2 = false ∧ b3 = false ∧ b4 = false ∧ ok = true) ∨ (n = 7 ∧ b0 = true ∧ b1 = true ∧ b2 = false ∧ b3 = true ∧ b4 = false ∧ ok = true) ∨ (n = 8 ∧ b0 = true ∧ b1 = true ∧ b2 = true ∧ b3 = false ∧ b4 = false ∧ ok = true) ∨ (n = 10 ∧ b0 = true ∧ b1 = true ∧ b2 = false ∧ b3 = false ∧ b4 = true ∧ ok = true) ∨ ((n < 1 ∨ 13 < n) ∧ b0 = false ∧ b1 = false ∧ b2 = false ∧ b3 = false ∧ b4 = false ∧ ok = false)
theorem kcase_of (n : Int) : ∃ b0 b1 b2 b3 b4 ok, KCase n b0 b1 b2 b3 b4 ok ∧ ((kindsL.find? (fun p => p.1 == n)).map (·.2)).getD (kb false false false false false) = kb b0 b1 b2 b3 b4 ∧ (kindsL.find? (fun p => p.1 == n)).isSome = ok := by
  by_cases h1 : n = 1
  · subst h1
    exact ⟨false, false, false, false, false, true, by simp [KCase], by rfl, by rfl⟩
  by_cases h2 : n = 2
  · subst h2
    exact ⟨true, false, false, false, false, true, by simp [KCase], by rfl, by rfl⟩
  by_cases h3 : n = 3
  · subst h3
    exact ⟨true, false, false, false, false, true, by simp [KCase], by rfl, by rfl⟩
  by_cases h12 : n = 12
  · subst h12
    exact ⟨true, false, false, false, false, true, by simp [KCase], by rfl, by rfl⟩
  by_cases h4 : n = 4
  · subst h4
    exact ⟨true, true, true, true, false, true, by simp [KCase], by rfl, by rfl⟩
  by_cases h5 : n = 5
  · subst h5
    exact ⟨true, true, false, false, false, true, by simp [KCase], by rfl, by rfl⟩
  by_cases h9 : n = 9
  · subst h9
    exact ⟨true, true, false, false, false, true, by simp [KCase], by rfl, by rfl⟩
  by_cases h11 : n = 11
  · subst h11
    exact ⟨true, true, false, false, false, true, by simp [KCase], by rfl, by rfl⟩
  by_cases h6 : n = 6
  · subst h6
    exact ⟨false, true, false, false, false, true, by simp [KCase], by rfl, by rfl⟩
  by_cases h13 : n = 13
  · subst h13
    exact ⟨false, true, false, false, false, true, by simp [KCase], by rfl, by rfl⟩
  by_cases h7 : n = 7
  · subst h7
    exact ⟨true, true, false, true, false, true, by simp [KCase], by rfl, by rfl⟩
  by_cases h8 : n = 8
  · subst h8
    exact ⟨true, true, true, false, false, true, by simp [KCase], by rfl, by rfl⟩
  by_cases h10 : n = 10
  · subst h10
    exact ⟨true, true, false, false, true, true, by simp [KCase], by rfl, by rfl⟩
  have hf : kindsL.find? (fun p => p.1 == n) = none := by
    simp only [kindsL, List.find?_cons, List.find?_nil]
    rw [beq_eq_false_iff_ne.2 (show (1 : Int) ≠ n from fun e => h1 e.symm), beq_eq_false_iff_ne.2 (show (2 : Int) ≠ n from fun e => h2 e.symm), beq_eq_false_iff_ne.2 (show (3 : Int) ≠ n from fun e => h3 e.symm), beq_eq_false_iff_ne.2 (show (12 : Int) ≠ n from fun e => h12 e.symm), beq_eq_false_iff_ne.2 (show (4 : Int) ≠ n from fun e => h4 e.symm), beq_eq_false_iff_ne.2 (show (5 : Int) ≠ n from fun e => h5 e.symm), beq_eq_false_iff_ne.2 (show (9 : Int) ≠ n from fun e => h9 e.symm), beq_eq_false_iff_ne.2 (show (11 : Int) ≠ n from fun e => h11 e.symm), beq_eq_false_iff_ne.2 (show (6 : Int) ≠ n from fun e => h6 e.symm), beq_eq_false_iff_ne.2 (show (13 : Int) ≠ n from fun e => h13 e.symm), beq_eq_false_iff_ne.2 (show (7 : Int) ≠ n from fun e => h7 e.symm), beq_eq_false_iff_ne.2 (show (8 : Int) ≠ n from fun e => h8 e.symm), beq_eq_false_iff_ne.2 (show (10 : Int) ≠ n from fun e => h10 e.symm)]
  exact ⟨false, false, false, false, false, false, by unfold KCase; (repeat right); exact ⟨by omega, rfl, rfl, rfl, rfl, rfl, rfl⟩, by rw [hf]; rfl, by rw [hf]; rfl⟩
theorem zero_named (w : World) : (zeroValue 60).run Try.prog w = .ok (kb false false false false false) w := by kernel_rfl
theorem cell_far_ {w : World} {g j g' i : Nat} {x : Value} (h : w.cell? ⟨g, i, none⟩ = some x) (hne : g ≠ g') (v : Value) : (w.setCell ⟨g', j, none⟩ v).cell? ⟨g, i, none⟩ = some x := by
  exact (World.cell?_setCell_far w _ _ v (fun e => hne e.symm)).trans h
set_option maxHeartbeats 4000000 in
set_option maxRecDepth 100000 in
theorem wellFormed_row (n s : Int) (A2 : Option Addr) (m2 c2 : Nat) (f : Int) (A4 : Option Addr) (m4 c4 : Nat) (e g : Int) (w : World) (b0 b1 b2 b3 b4 ok : Bool) (hcase : KCase n b0 b1 b2 b3 b4 ok) (hx : ((kindsL.find? (fun p => p.1 == n)).map (·.2)).getD (kb false false false false false) = kb b0 b1 b2 b3 b4 ∧ (kindsL.find? (fun p => p.1 == n)).isSome = ok) :
    Calls Try.prog 22 #[.agg #[.int .i64 n, .int .u64 s, .slice A2 m2 c2, .int .i64 f, .slice A4 m4 c4, .int .u64 e, .int .u64 g]] w fun r w' => r = .returned (.bool (formedB n s m2 f m4 e g)) ∧ Below w.heap.size w w' := by
  have HX := Aside0.mk hx
  have HC := Aside0.mk hcase
  clear hx hcase
  go_enter Try.func22, Try.ntmps22
  go_wp2_with fail
  have hbx := blk_new w (.cells #[.int .i64 n, .int .u64 s, .slice A2 m2 c2, .int .i64 f, .slice A4 m4 c4, .int .u64 e, .int .u64 g] 28)
  have HB := Aside0.mk (below_alloc (Below.refl w.heap.size w) (.cells #[.int .i64 n, .int .u64 s, .slice A2 m2 c2, .int .i64 f, .slice A4 m4 c4, .int .u64 e, .int .u64 g] 28))
  generalize (w.alloc (.cells #[.int .i64 n, .int .u64 s, .slice A2 m2 c2, .int .i64 f, .slice A4 m4 c4, .int .u64 e, .int .u64 g] 28)) = W at *
  have BK := Aside0.mk hbx
  clear hbx
  go_upto_region 1 with (fail)
  go_cut [3, 4] (fun v3 v4 wc => ∃ g2 : Nat, v3 = .pointer (some ⟨g2, 0, none⟩) ∧ v4 = .bool ok ∧ Aside0 (wc.heap[g2]? = some (.cells #[.bool b0, .bool b1, .bool b2, .bool b3, .bool b4] 60 (0, 0))) ∧ Aside0 (wc.heap[w.heap.size]? = some (.cells #[.int .i64 n, .int .u64 s, .slice A2 m2 c2, .int .i64 f, .slice A4 m4 c4, .int .u64 e, .int .u64 g] 28 (0, 0))) ∧ Aside0 (Below w.heap.size w wc))
  case first =>
    have z0 : W.cell? ⟨w.heap.size, 0, none⟩ = some (.int .i64 n) := (blk_cell BK.out 0).trans rfl
    have zD : W.drew.cell? ⟨w.heap.size, 0, none⟩ = some (.int .i64 n) := z0
    have zB : ∀ o, (W.alloc o).cell? ⟨w.heap.size, 0, none⟩ = some (.int .i64 n) := fun o => (blk_cell (blk_alloc BK.out o) 0).trans rfl
    have zC : ∀ o, (W.alloc o).drew.cell? ⟨w.heap.size, 0, none⟩ = some (.int .i64 n) := zB
    go_region_held3 (fun w' => w'.cell? ⟨w.heap.size, 0, none⟩ = some (.int .i64 n)) (first | (with_reducible first | exact z0 | exact zD | exact z1 | exact zA _ | exact zB _ | exact zC _) | ((with_reducible repeat refine cell_far_ ?_ (by have := blk_lt BK.out; omega) _); with_reducible exact z1)) (first | (go_at_call 38; refine (impl_kinds_calls _).mono ?_; rintro r w1 ⟨b, es, c, rfl, hm, ht, hbb, hbe⟩; have h1 : Below W.heap.size W w1 := below_step (by with_reducible repeat (first | exact Below.refl _ _ | apply below_alloc | apply below_drew1)) hbe; (try (have q : w1.heap[W.heap.size]? = some (.cells #[.bool false, .bool false, .bool false, .bool false, .bool false] 60 (0, 0)) := (by with_reducible exact blk_below (blk_drew (blk_new W _)) hbe); have q0 := blk_cell q 0; have q1 := blk_cell q 1; have q2 := blk_cell q 2; have q3 := blk_cell q 3; have q4 := blk_cell q 4; simp only [List.getElem?_toArray, List.getElem?_cons_zero, List.getElem?_cons_succ] at q0 q1 q2 q3 q4; have f0 := blk_frozen q 0; have f1 := blk_frozen q 1; have f2 := blk_frozen q 2; have f3 := blk_frozen q 3; have f4 := blk_frozen q 4; have QB := Aside0.mk q; clear q)); have HB1 := Aside0.mk (below_step HB.out h1); have BK1 := Aside0.mk (blk_below BK.out h1); clear z0 zD zB zC h1 hbe; have z1 : w1.cell? ⟨w.heap.size, 0, none⟩ = some (.int .i64 n) := (blk_cell BK1.out 0).trans rfl; have zA : ∀ o, (w1.alloc o).cell? ⟨w.heap.size, 0, none⟩ = some (.int .i64 n) := fun o => (blk_cell (blk_alloc BK1.out o) 0).trans rfl; have l1 := run_lookupI (P := Try.prog) Try.underlying62 Try.underlying3 hm ht n _ (zero_named w1); have l2 := run_lookupI (P := Try.prog) Try.underlying62 Try.underlying3 (blk_alloc hm (.cells #[.bool false, .bool false, .bool false, .bool false, .bool false] 60)) ht n _ (zero_named _); rw [HX.out.1, HX.out.2] at l1 l2; simp only [kb] at l1 l2; clear hm ht hbb))
    all_goals
      go_wp2_with fail
      go_meet
    case rel => exact ⟨_, rfl, rfl, ⟨blk_new _ _⟩, ⟨blk_alloc BK1.out _⟩, ⟨below_alloc HB1.out _⟩⟩
    case rel => exact ⟨_, rfl, rfl, ⟨blk_new _ _⟩, ⟨blk_alloc BK1.out _⟩, ⟨below_alloc HB1.out _⟩⟩
    case rel =>
      have hne : w.heap.size ≠ W.heap.size := by have := blk_lt BK.out; omega
      refine ⟨_, rfl, rfl, ⟨blk_put (blk_put (blk_put (blk_put (blk_put QB.out 0 _ rfl) 1 _ rfl) 2 _ rfl) 3 _ rfl) 4 _ rfl⟩, ⟨blk_far (blk_far (blk_far (blk_far (blk_far BK1.out hne _) hne _) hne _) hne _) hne _⟩, ⟨?_⟩⟩
      have hle : w.heap.size ≤ W.heap.size := by have := blk_lt BK.out; omega
      exact below_set (below_set (below_set (below_set (below_set HB1.out hle) hle) hle) hle) hle
  case rest =>
    obtain ⟨g2, rfl, rfl, K2, BK, HB⟩ := hcut
    have zBK0 := blk_cell BK.out 0
    have zBK1 := blk_cell BK.out 1
    have zBK2 := blk_cell BK.out 2
    have zBK3 := blk_cell BK.out 3
    have zBK4 := blk_cell BK.out 4
    have zBK5 := blk_cell BK.out 5
    have zBK6 := blk_cell BK.out 6
    have zK20 := blk_cell K2.out 0
    have zK21 := blk_cell K2.out 1
    have zK22 := blk_cell K2.out 2
    have zK23 := blk_cell K2.out 3
    have zK24 := blk_cell K2.out 4
    simp only [List.getElem?_toArray, List.getElem?_cons_zero, List.getElem?_cons_succ] at zBK0 zBK1 zBK2 zBK3 zBK4 zBK5 zBK6 zK20 zK21 zK22 zK23 zK24
    have hcase := HC.out
    clear HX HC
    unfold KCase at hcase
    rcases hcase with ⟨rfl, rfl, rfl, rfl, rfl, rfl, rfl⟩ | ⟨rfl, rfl, rfl, rfl, rfl, rfl, rfl⟩ | ⟨rfl, rfl, rfl, rfl, rfl, rfl, rfl⟩ | ⟨rfl, rfl, rfl, rfl, rfl, rfl, rfl⟩ | ⟨rfl, rfl, rfl, rfl, rfl, rfl, rfl⟩ | ⟨rfl, rfl, rfl, rfl, rfl, rfl, rfl⟩ | ⟨rfl, rfl, rfl, rfl, rfl, rfl, rfl⟩ | ⟨rfl, rfl, rfl, rfl, rfl, rfl, rfl⟩ | ⟨rfl, rfl, rfl, rfl, rfl, rfl, rfl⟩ | ⟨rfl, rfl, rfl, rfl, rfl, rfl, rfl⟩ | ⟨rfl, rfl, rfl, rfl, rfl, rfl, rfl⟩ | ⟨rfl, rfl, rfl, rfl, rfl, rfl, rfl⟩ | ⟨rfl, rfl, rfl, rfl, rfl, rfl, rfl⟩ | ⟨hn, rfl, rfl, rfl, rfl, rfl, rfl⟩
    all_goals as_aux_lemma =>
      go_wp2_with fail
      all_goals (go_ret; refine ⟨?_, HB.out⟩; first | (simp [formedB, hasS, hasP, *]; done) | (simp [formedB, hasS, hasP, *]; omega) | (simp [formedB, hasS, hasP, *]; intros; omega))
theorem impl_wellFormed_calls (n s : Int) (A2 : Option Addr) (m2 c2 : Nat) (f : Int) (A4 : Option Addr) (m4 c4 : Nat) (e g : Int) (w : World) :
    Calls Try.prog 22 #[.agg #[.int .i64 n, .int .u64 s, .slice A2 m2 c2, .int .i64 f, .slice A4 m4 c4, .int .u64 e, .int .u64 g]] w fun r w' => r = .returned (.bool (formedB n s m2 f m4 e g)) ∧ Below w.heap.size w w' := by
  obtain ⟨b0, b1, b2, b3, b4, ok, h1, h2⟩ := kcase_of n
  exact wellFormed_row n s A2 m2 c2 f A4 m4 c4 e g w b0 b1 b2 b3 b4 ok h1 h2
end Go.Proofs.Ytbgbocdohadhoaa.Print
namespace Go.Proofs.Ytbgbocdohadhoaa.Print
open Go Go.RowKit Go.Proofs.YtbgbocdohadhoaaW.PrintWords Go.Proofs.YtbgbocdohadhoaaW.PrintLast Go.Proofs.YtbgbocdohadhoaaW.PrintMore
set_option linter.unusedVariables false
set_option linter.unusedSimpArgs false
def encOpF (n s : Int) (p : List Int) (f : Int) (v : List Int) (e g : Int) : List Int := if formedB n s p.length f v.length e g && journB n then encB n s p f v else []
theorem implJournaled_f (n : Int) : impl_journaled.f 10 n = some (journB n) := by
  unfold impl_journaled.f slices_Contains_int_int.f slices_Index_int_int.f journB
  by_cases h1 : n = 1
  · subst h1; decide +kernel
  by_cases h3 : n = 3
  · subst h3; decide +kernel
  by_cases h4 : n = 4
  · subst h4; decide +kernel
  by_cases h5 : n = 5
  · subst h5; decide +kernel
  by_cases h7 : n = 7
  · subst h7; decide +kernel
  by_cases h8 : n = 8
  · subst h8; decide +kernel
  by_cases h9 : n = 9
  · subst h9; decide +kernel
  have e0 : slices_Index_int_int.l0 10 [1, 3, 4, 5, 7, 8, 9] n 7 0 = some (-1) := by
    simp only [slices_Index_int_int.l0, rd, wrap64]
    simp [h1, h3, h4, h5, h7, h8, h9]
  have e1 : (([1, 3, 4, 5, 7, 8, 9] : List Int).length : Int) = 7 := rfl
  rw [e1, e0]
  simp [h1, h3, h4, h5, h7, h8, h9]
theorem KeepP.box {w w' : World} {g b t : Nat} {cs : Array Value} (h : KeepP w w' g) (hb : w.heap[b]? = some (.cells cs t (0, 0))) (hne : b ≠ g) (ht : t ≠ 5) : w'.heap[b]? = some (.cells cs t (0, 0)) :=
  (h.2 b (blk_lt hb) hne (fun ⟨cs', e⟩ => by rw [hb] at e; cases e; exact ht rfl)).trans hb
theorem grown_pre {W W1 w6 : World} {v : Value} (h : Below W.heap.size W W1) (hg : W1.grownBy w6 v.ownBlock) : W.grownBy w6 v.ownBlock := World.grownBy.trans (grown_of_below h _) hg
theorem u8_wrap (x : Int) : IntKind.u8.wrap x = x % 256 := by first | rfl | (simp [IntKind.wrap]; done) | (unfold IntKind.wrap; simp; done)
set_option maxHeartbeats 4000000 in
set_option maxRecDepth 100000 in
theorem impl_EncodeOp_calls (n s : Int) (A2 : Option Addr) (c2 : Nat) (p : List Int) (f : Int) (A4 : Option Addr) (c4 : Nat) (v : List Int) (e g : Int) (w : World) (h2 : Kd.C (Kd.int .u8) w A2 p.length p) (hc2 : p.length ≤ c2) (h4 : Kd.C (Kd.int .u8) w A4 v.length v) (hc4 : v.length ≤ c4) (hs : 0 ≤ s ∧ s < 18446744073709551616) (hp : p.length ≤ 2097152) (hv : v.length ≤ 2097152) :
    Calls Try.prog 8 #[.agg #[.int .i64 n, .int .u64 s, .slice A2 p.length c2, .int .i64 f, .slice A4 v.length c4, .int .u64 e, .int .u64 g]] w fun r w' => ∃ V : Value, r = .returned V ∧ Kd.R (Kd.int .u8) 5 w' w.heap.size (fun _ => True) V (encOpF n s p f v e g) ∧ Below w.heap.size w w' := by
  have H2 := Aside0.mk (And.intro h2 hc2)
  have H4 := Aside0.mk (And.intro h4 hc4)
  have HN := Aside0.mk (And.intro hs (And.intro hp hv))
  clear h2 hc2 h4 hc4 hs hp hv
  go_enter Try.func8, Try.ntmps8
  go_upto_region 1 with (fail)
  have hbx := blk_new w (.cells #[.int .i64 n, .int .u64 s, .slice A2 p.length c2, .int .i64 f, .slice A4 v.length c4, .int .u64 e, .int .u64 g] 28)
  have HB := Aside0.mk (below_alloc (Below.refl w.heap.size w) (.cells #[.int .i64 n, .int .u64 s, .slice A2 p.length c2, .int .i64 f, .slice A4 v.length c4, .int .u64 e, .int .u64 g] 28))
  generalize (w.alloc (.cells #[.int .i64 n, .int .u64 s, .slice A2 p.length c2, .int .i64 f, .slice A4 v.length c4, .int .u64 e, .int .u64 g] 28)) = W at *
  have BK := Aside0.mk hbx
  have z0 := blk_cell hbx 0
  have z1 := blk_cell hbx 1
  have z2 := blk_cell hbx 2
  have z3 := blk_cell hbx 3
  have z4 := blk_cell hbx 4
  have z5 := blk_cell hbx 5
  have z6 := blk_cell hbx 6
  simp only [List.getElem?_toArray, List.getElem?_cons_zero, List.getElem?_cons_succ] at z0 z1 z2 z3 z4 z5 z6
  clear hbx
  go_wp2_with fail
  refine (impl_wellFormed_calls n s A2 p.length c2 f A4 v.length c4 e g _).mono ?_
  rintro r w1 ⟨rfl, hb⟩
  have HB1 := Aside0.mk (below_step HB.out hb)
  have BK1 := Aside0.mk (blk_below BK.out hb)
  clear z0 z1 z2 z3 z4 z5 z6 HB BK hb
  have z0 := blk_cell BK1.out 0
  simp only [List.getElem?_toArray, List.getElem?_cons_zero, List.getElem?_cons_succ] at z0
  cases hf : formedB n s p.length f v.length e g with
  | false =>
    have HE := Aside0.mk (show encOpF n s p f v e g = [] by simp [encOpF, hf])
    clear hf
    go_wp2_with fail
    go_ret
    rw [HE.out]
    exact ⟨_, rfl, Kd.R_nil _ _ _ _ _, HB1.out⟩
  | true =>
    have HF := Aside0.mk hf
    clear hf
    go_wp2_with fail
    refine (impl_journaled.calls 10 n _ _ (implJournaled_f n)).mono ?_
    rintro r w2 ⟨rfl, hb⟩
    have HB := Aside0.mk (below_step HB1.out hb)
    have BK := Aside0.mk (blk_below BK1.out hb)
    clear z0 HB1 BK1 hb
    cases hj : journB n with
    | false =>
      have HE := Aside0.mk (show encOpF n s p f v e g = [] by simp [encOpF, hj])
      clear hj
      go_wp2_with fail
      go_ret
      rw [HE.out]
      exact ⟨_, rfl, Kd.R_nil _ _ _ _ _, HB.out⟩
    | true =>
      have HE := Aside0.mk (show encOpF n s p f v e g = encB n s p f v by simp [encOpF, hj, HF.out])
      clear hj HF
      have z0 := blk_cell BK.out 0
      have z1 := blk_cell BK.out 1
      have z2 := blk_cell BK.out 2
      have z3 := blk_cell BK.out 3
      have z4 := blk_cell BK.out 4
      simp only [List.getElem?_toArray, List.getElem?_cons_zero, List.getElem?_cons_succ] at z0 z1 z2 z3 z4
      go_upto_region 4 with (fail)
      have a1 := own_lit w2 w2.heap.size 5 .u8 [n % 256] (Nat.le_refl _) (by simp)
      have a2 : Kd.R (Kd.int .u8) 5 (w2.alloc (.cells #[.int .u8 (n % 256)] 5)) w2.heap.size (fun _ => True) (.slice (some ⟨w2.heap.size, 0, none⟩) 1 1) [n % 256] := Kd.R_of_own (enc := Value.int .u8) (h1 := fun _ => rfl) (xs := [n % 256]) a1 (fun _ _ => trivial)
      have a3 := blk_new (w2.alloc (.cells #[.int .u8 (n % 256)] 5)) (.cells #[.slice (some ⟨w2.heap.size, 0, none⟩) 1 1] 43)
      simp only [World.size_alloc] at a3
      have hlt := blk_lt BK.out
      have PK0 := Aside0.mk (show PK w ((w2.alloc (.cells #[.int .u8 (n % 256)] 5)).alloc (.cells #[.slice (some ⟨w2.heap.size, 0, none⟩) 1 1] 43)) (w2.heap.size + 1) [n % 256] from
        ⟨⟨_, 1, a3, Kd.R_lower (Kd.R_alloc a2 _) HB.out.size⟩, below_alloc (below_alloc HB.out _) _, by omega⟩)
      have BK0 := Aside0.mk (blk_alloc (blk_alloc BK.out (.cells #[.int .u8 (n % 256)] 5)) (.cells #[.slice (some ⟨w2.heap.size, 0, none⟩) 1 1] 43))
      have hgw : w.heap.size ≠ w2.heap.size + 1 := by omega
      generalize ((w2.alloc (.cells #[.int .u8 (n % 256)] 5)).alloc (.cells #[.slice (some ⟨w2.heap.size, 0, none⟩) 1 1] 43)) = W3 at *
      generalize w2.heap.size + 1 = gp at *
      have HG := Aside0.mk hgw
      clear a1 a2 a3 hlt z0 z1 z2 z3 z4 BK HB hgw
      have z0 := blk_cell BK0.out 0
      have z1 := blk_cell BK0.out 1
      have z2 := blk_cell BK0.out 2
      have z3 := blk_cell BK0.out 3
      have z4 := blk_cell BK0.out 4
      simp only [List.getElem?_toArray, List.getElem?_cons_zero, List.getElem?_cons_succ] at z0 z1 z2 z3 z4
      go_wp2_with fail
      refine (packer_numbers w _ gp [n % 256] (some ⟨W3.heap.size, 0, none⟩) 1 [s] W3.heap.size (fun _ => True) (PK0.out.alloc _) (lit1 W3 s) (by intro x hx; rw [List.mem_singleton.1 hx]; exact HN.out.1) (by simp)).mono ?_
      rintro r W4 ⟨rfl, h1, h2⟩
      rw [List.flatMap_singleton] at h1
      have PK1 := Aside0.mk h1
      have BK1 := Aside0.mk (h2.box (blk_alloc BK0.out _) HG.out (by decide))
      clear z0 z1 z2 z3 z4 PK0 BK0 h1 h2
      have z0 := blk_cell BK1.out 0
      have z1 := blk_cell BK1.out 1
      have z2 := blk_cell BK1.out 2
      have z3 := blk_cell BK1.out 3
      have z4 := blk_cell BK1.out 4
      simp only [List.getElem?_toArray, List.getElem?_cons_zero, List.getElem?_cons_succ] at z0 z1 z2 z3 z4
      go_wp2_with fail
      refine (packer_text w _ gp _ A2 c2 p PK1.out H2.out.1 H2.out.2 (by have := varN_length s; have := HN.out.2; simp only [List.length_append, List.length_singleton]; omega)).mono ?_
      rintro r W5 ⟨rfl, h1, h2⟩
      have PK2 := Aside0.mk h1
      have BK2 := Aside0.mk (h2.box BK1.out HG.out (by decide))
      clear z0 z1 z2 z3 z4 PK1 BK1 h1 h2
      have z0 := blk_cell BK2.out 0
      have z1 := blk_cell BK2.out 1
      have z2 := blk_cell BK2.out 2
      have z3 := blk_cell BK2.out 3
      have z4 := blk_cell BK2.out 4
      simp only [List.getElem?_toArray, List.getElem?_cons_zero, List.getElem?_cons_succ] at z0 z1 z2 z3 z4
      go_upto_region 6 with (fail)
      generalize hq : [n % 256] ++ varN s ++ textB p = q at *
      have HQ := Aside0.mk hq
      clear hq
      go_cut [] (fun wc => Aside0 (PK w wc gp (q ++ [IntKind.u8.wrap f])) ∧ Aside0 (wc.heap[w.heap.size]? = some (.cells #[.int .i64 n, .int .u64 s, .slice A2 p.length c2, .int .i64 f, .slice A4 v.length c4, .int .u64 e, .int .u64 g] 28 (0, 0))))
      case first =>
        obtain ⟨Ap, cp, hbox, hR, zp, fp, hgz⟩ := PK2.out.open_
        have HR := Aside0.mk hR
        have HZ := Aside0.mk hgz
        have HX := Aside0.mk hbox
        have HL := Aside0.mk (show (q.length + 1) * 1 ≤ 140737488355328 by rw [← HQ.out]; have := varN_length s; have := textB_length p; have := HN.out.2; simp only [List.length_append, List.length_singleton]; omega)
        have a1 := own_lit W5 W5.heap.size 5 .u8 [IntKind.u8.wrap f] (Nat.le_refl _) (by simp)
        have HW := Aside0.mk (show Kd.C (Kd.int .u8) (W5.alloc (.cells #[.int .u8 (IntKind.u8.wrap f)] 5)) (some ⟨W5.heap.size, 0, none⟩) 1 [IntKind.u8.wrap f] from (Kd.R_reads' (Kd.R_of_own (enc := Value.int .u8) (h1 := fun _ => rfl) (xs := [IntKind.u8.wrap f]) (ok := fun _ => True) a1 (fun _ _ => trivial))).2.2)
        have zq : ∀ o, (W5.alloc o).cell? ⟨gp, 0, none⟩ = some (.slice Ap q.length cp) := fun o => (blk_cell (blk_alloc hbox o) 0).trans rfl
        have zqd : ∀ o, (W5.alloc o).drew.cell? ⟨gp, 0, none⟩ = some (.slice Ap q.length cp) := zq
        have zD : W5.drew.cell? ⟨gp, 0, none⟩ = some (.slice Ap q.length cp) := zp
        have y3 : ∀ o, (W5.alloc o).cell? ⟨w.heap.size, 3, none⟩ = some (.int .i64 f) := fun o => (blk_cell (blk_alloc BK2.out o) 3).trans rfl
        have y3d : ∀ o, (W5.alloc o).drew.cell? ⟨w.heap.size, 3, none⟩ = some (.int .i64 f) := y3
        have zD3 : W5.drew.cell? ⟨w.heap.size, 3, none⟩ = some (.int .i64 f) := z3
        clear hR hgz hbox a1
        go_region_law (first | (refine Kd.R_append_rows_step (Kd.int .u8) (w0 := w) w.heap.size (by rfl) (.tmp 32) (.tmp 36) 23 5 (.int .u8 0) 1 rfl Try.underlying23 info5 rfl (by decide) (by omega) (.slice Ap q.length cp) q [IntKind.u8.wrap f] (some ⟨W5.heap.size, 0, none⟩) 1 1 (fun _ => True) (fun _ => False) (by simp [Act.eval, Act.put]) (by simp [Act.eval, Act.put]) ?aO ?aR (fun _ _ h => h) (fun _ h => h.elim) (fun _ _ => trivial) ?aB ?aS HL.out ?_; (case aO => repeat (first | exact HR.out | refine Kd.R_drew ?_ | refine Kd.R_alloc ?_ _)); (case aR => repeat (first | exact HW.out | refine Kd.C_drew ?_)); (case aB => repeat (first | exact PK2.out.be | apply below_drew1 | apply below_alloc)); (case aS => exact below_size (by repeat (first | exact PK2.out.be | apply below_drew1 | apply below_alloc))); intro v1 w6 ho hb hg hat; obtain ⟨A1, c1, rfl⟩ := Kd.R_slice ho; have hgA := HZ.out w6 (grown_pre (by repeat (first | exact Below.refl _ _ | apply below_drew1 | apply below_alloc)) hg); have ho' := Aside0.mk ho; have hb' := Aside0.mk hb; have hg' := Aside0.mk (grown_pre (W := W5) (by repeat (first | exact Below.refl _ _ | apply below_drew1 | apply below_alloc)) hg); have hx' := Aside0.mk hgA.1; have y0 := hgA.2.1; have y1 := hgA.2.2; clear ho hb hg hat hgA))
        all_goals
          go_wp2_with fail
          go_meet
        all_goals
          have hput := PK2.out.put hx'.out ho'.out hb'.out
          have eL : (q ++ [IntKind.u8.wrap f]).length = q.length + 1 := by simp
          rw [eL] at hput
          have hbx := blk_grown BK2.out hg'.out (Kd.R_ne HR.out BK2.out (by decide))
          exact ⟨⟨hput⟩, ⟨(Below.heap_setCell w6 ⟨gp, 0, none⟩ _ w.heap.size HG.out).trans hbx⟩⟩
      case rest =>
        obtain ⟨PK3, BK3⟩ := hcut
        rw [u8_wrap] at PK3
        have z4 := blk_cell BK3.out 4
        simp only [List.getElem?_toArray, List.getElem?_cons_zero, List.getElem?_cons_succ] at z4
        go_wp2_with fail
        refine (packer_text w _ gp _ A4 c4 v PK3.out H4.out.1 H4.out.2 (by rw [← HQ.out]; have := varN_length s; have := textB_length p; have := HN.out.2; simp only [List.length_append, List.length_singleton]; omega)).mono ?_
        rintro r W6 ⟨rfl, h1, h2⟩
        obtain ⟨Ap, cp, hbox, hR, z0, f0, hgz⟩ := h1.open_
        have HR := Aside0.mk hR
        have HBe := Aside0.mk h1.be
        clear h1 h2 hbox hR hgz f0 z4 PK3 BK3
        generalize hl6 : q ++ [f % 256] ++ textB v = l6 at *
        have EE := Aside0.mk (show encB n s p f v = l6 by rw [← hl6, ← HQ.out]; simp only [encB, List.append_assoc, List.cons_append, List.nil_append])
        clear hl6
        go_wp2_with fail
        go_ret
        rw [HE.out, EE.out]
        exact ⟨_, rfl, HR.out, HBe.out⟩
end Go.Proofs.Ytbgbocdohadhoaa.Print
namespace Go.Proofs.Ytbgbocdohadhoaa.Print
open Go.RowKit Go.Proofs.YtbgbocdohadhoaaW.PrintWords Go.Proofs.YtbgbocdohadhoaaW.PrintLast Go.Proofs.YtbgbocdohadhoaaW.PrintMore
attribute [local go_sem] max2_int min2_int max_two min_two max_three min_three max_four min_four
set_option linter.unusedVariables false
set_option linter.unusedSimpArgs false
def bytes_Equal.f (l0 : List Int) (l1 : List Int) : Option (Bool) := some ((strOfNums l0).toList == (strOfNums l1).toList)
set_option maxHeartbeats 8000000 in
set_option maxRecDepth 100000 in
theorem bytes_Equal.calls (A0 : Option Addr) (c0 : Nat) (l0 : List Int) (A1 : Option Addr) (c1 : Nat) (l1 : List Int) (r : Bool) (w : World) (hr0 : Kd.C (Kd.int .u8) w A0 l0.length l0) (hc0 : l0.length ≤ c0) (hr1 : Kd.C (Kd.int .u8) w A1 l1.length l1) (hc1 : l1.length ≤ c1) (h : bytes_Equal.f l0 l1 = some r) :
    Calls Try.prog 33 #[.slice A0 l0.length c0, .slice A1 l1.length c1] w fun e w' => e = .returned (.bool r) ∧ Drawn0 w w' := by
  have HR0 := Aside0.mk hr0
  have HC0 := Aside0.mk hc0
  clear hr0 hc0
  have HR1 := Aside0.mk hr1
  have HC1 := Aside0.mk hc1
  clear hr1 hc1
  have H : (some ((strOfNums l0).toList == (strOfNums l1).toList)) = some r := h
  clear h
  obtain rfl := Option.some.inj H
  have hcv3 := Kd.C_string (P := Try.prog) (A := A0) (c := c0) Try.underlying23 Try.underlying5 Try.underlying9 HR0.out
  have hcv4 := Kd.C_string (P := Try.prog) (A := A1) (c := c1) Try.underlying23 Try.underlying5 Try.underlying9 HR1.out
  go_enter Try.func33, Try.ntmps33
  go_wp2
  go_ret
  exact ⟨by first | rfl | (simp; done) | (simp [*]; done), by repeat (first | exact Drawn0.refl _ | apply Drawn0.step)⟩
end Go.Proofs.Ytbgbocdohadhoaa.Print
namespace Go.Proofs.Ytbgbocdohadhoaa.Print
open Go Go.RowKit Go.Proofs.YtbgbocdohadhoaaW.PrintWords Go.Proofs.YtbgbocdohadhoaaW.PrintLast Go.Proofs.YtbgbocdohadhoaaW.PrintMore
set_option linter.unusedVariables false
set_option linter.unusedSimpArgs false
theorem numL_lt : ∀ (d i : Nat) (v : Int) (l : List Int) (bad : Bool), (numL d i v l bad).1 < 18446744073709551616
  | 0, _, _, _, _ => by simp [numL]
  | d + 1, i, v, l, bad => by
    unfold numL
    split
    · show IntKind.u64.wrap _ < _
      simp [IntKind.wrap, IntKind.bits, IntKind.signed]
      omega
    · exact numL_lt d _ _ _ _
def dec2 (l : List Int) : Int × List Int × Bool := numL 10 0 0 l.tail (false || l.isEmpty)
def dec3 (l : List Int) : List Int × List Int × Bool := txtL (dec2 l).2.1 (dec2 l).2.2
def dec5 (l : List Int) : List Int × List Int × Bool := txtL (dec3 l).2.1.tail ((dec3 l).2.2 || (dec3 l).2.1.isEmpty)
def decT (K n : Int) (p : List Int) (F : Int) (q : List Int) (bad : Bool) (l : List Int) : Int × Int × List Int × Int × List Int × Int :=
  if bad then (0, 0, [], 0, [], 13) else if (encOpF K n p F q 0 0).length = 0 then (0, 0, [], 0, [], 13) else if (strOfNums (encOpF K n p F q 0 0)).toList == (strOfNums l).toList then (K, n, p, F, q, 0) else (0, 0, [], 0, [], 13)
def decO (l : List Int) : Int × Int × List Int × Int × List Int × Int := decT (wrap64 (l.headD 0)) (dec2 l).1 (dec3 l).1 (wrap64 ((dec3 l).2.1.headD 0)) (dec5 l).1 (dec5 l).2.2 l
theorem decO_of {l l1 l2 l3 l4 l5 p q : List Int} {b1 b2 b3 b4 b5 : Bool} {n kx fx : Int} (h0 : l.tail = l1) (hb1 : (false || l.isEmpty) = b1) (hk : l.headD 0 = kx) (h2 : numL 10 0 0 l1 b1 = (n, l2, b2)) (h3 : txtL l2 b2 = (p, l3, b3)) (h4 : l3.tail = l4) (hb4 : (b3 || l3.isEmpty) = b4) (hf : l3.headD 0 = fx) (h5 : txtL l4 b4 = (q, l5, b5)) :
    decO l = decT (wrap64 kx) n p (wrap64 fx) q b5 l := by
  have e2 : dec2 l = (n, l2, b2) := by unfold dec2; rw [h0, hb1, h2]
  have e3 : dec3 l = (p, l3, b3) := by unfold dec3; rw [e2]; exact h3
  have e5 : dec5 l = (q, l5, b5) := by unfold dec5; rw [e3]; simp only; rw [h4, hb4, h5]
  unfold decO
  rw [e2, e3, e5, hk]
  simp only
  rw [hf]
theorem BK.widen {w0 W : World} {lo hi lo' hi' : Nat} {A : Option Addr} {c : Nat} {l : List Int} (h : BK w0 W lo hi A c l) (h1 : lo' ≤ lo) (h2 : hi ≤ hi') : BK w0 W lo' hi' A c l := ⟨h.r, fun k hk => ⟨Nat.le_trans h1 (h.b k hk).1, Nat.lt_of_lt_of_le (h.b k hk).2 h2⟩⟩
theorem Kept.size_ {w W : World} {S : Nat → Prop} (h : Kept w W S) : w.heap.size ≤ W.heap.size := h.1
theorem BK.nil (w0 W : World) (lo hi : Nat) : BK w0 W lo hi none 0 [] := ⟨Kd.R_nil _ _ _ _ _, fun k hk => by simp [OB, Value.ownBlock] at hk⟩
set_option maxHeartbeats 4000000 in
set_option maxRecDepth 100000 in
theorem impl_DecodeOp_calls (A : Option Addr) (c : Nat) (l : List Int) (w : World) (h : Kd.C (Kd.int .u8) w A l.length l) (hc : l.length ≤ c) (hl : l.length ≤ 2097152) :
    Calls Try.prog 16 #[.slice A l.length c] w fun r w' => ∃ (A2 : Option Addr) (c2 : Nat) (A4 : Option Addr) (c4 : Nat), r = .returned (.tuple #[.agg #[.int .i64 (decO l).1, .int .u64 (decO l).2.1, .slice A2 (decO l).2.2.1.length c2, .int .i64 (decO l).2.2.2.1, .slice A4 (decO l).2.2.2.2.1.length c4, .int .u64 0, .int .u64 0], .int .i64 (decO l).2.2.2.2.2]) ∧ OPK w w' w.heap.size w'.heap.size A2 c2 (decO l).2.2.1 A4 c4 (decO l).2.2.2.2.1 ∧ Below w.heap.size w w' := by
  have H := Aside0.mk (And.intro h (And.intro hc hl))
  clear h hc hl
  go_enter Try.func16, Try.ntmps16
  go_upto_region 2 with (fail)
  have b0 := blk_new w (.cells #[.int .i64 0, .int .u64 0, .slice none 0 0, .int .i64 0, .slice none 0 0, .int .u64 0, .int .u64 0] 28)
  have hB := below_alloc (below_alloc (Below.refl w.heap.size w) (.cells #[.int .i64 0, .int .u64 0, .slice none 0 0, .int .i64 0, .slice none 0 0, .int .u64 0, .int .u64 0] 28)) (.cells #[.slice A l.length c, .bool false] 54)
  have b1 := blk_new (w.alloc (.cells #[.int .i64 0, .int .u64 0, .slice none 0 0, .int .i64 0, .slice none 0 0, .int .u64 0, .int .u64 0] 28)) (.cells #[.slice A l.length c, .bool false] 54)
  have b2 := blk_alloc b0 (.cells #[.slice A l.length c, .bool false] 54)
  simp only [World.size_alloc] at b1
  generalize ((w.alloc (.cells #[.int .i64 0, .int .u64 0, .slice none 0 0, .int .i64 0, .slice none 0 0, .int .u64 0, .int .u64 0] 28)).alloc (.cells #[.slice A l.length c, .bool false] 54)) = W at *
  have U0 := Aside0.mk (show UK w W (w.heap.size + 1) l false from ⟨⟨A, c, b1, H.out.2.1, H.out.1⟩, hB, by omega⟩)
  have BR := Aside0.mk b2
  have hg1 := blk_lt b1
  have HG := Aside0.mk (show w.heap.size ≠ w.heap.size + 1 ∧ w.heap.size + 1 < W.heap.size ∧ w.heap.size < W.heap.size from ⟨by omega, hg1, by omega⟩)
  generalize w.heap.size + 1 = gp at *
  clear b0 b1 b2 hB hg1
  go_wp2_with fail
  refine (unp_byte w _ gp l false U0.out).mono ?_
  rintro r W1 ⟨rfl, h1, h2⟩
  have U1 := Aside0.mk h1
  have BR1 := Aside0.mk (blk_kept BR.out h2 HG.out.1)
  have S1 := Aside0.mk h2.1
  clear h1 h2 U0 BR
  generalize hkx : l.headD 0 = kx at *
  have QK := Aside0.mk hkx
  clear hkx
  go_wp2_with fail
  refine (unp_number w _ gp _ _ U1.out).mono ?_
  rintro r W2 ⟨rfl, h1, h2⟩
  have U2 := Aside0.mk h1
  have BR2 := Aside0.mk (blk_kept BR1.out h2 HG.out.1)
  have S2 := Aside0.mk (Nat.le_trans S1.out h2.1)
  have L1 := Aside0.mk (show l.tail.length ≤ l.length by simp)
  generalize h01 : l.tail = l1 at *
  generalize hb01 : (false || l.isEmpty) = bd1 at *
  have Q1 := Aside0.mk (And.intro h01 hb01)
  clear h01 hb01
  have N2 := Aside0.mk (And.intro (And.intro (numL_nonneg 10 0 0 l1 bd1) (numL_lt 10 0 0 l1 bd1)) (numL_len 10 0 0 l1 bd1))
  rcases hq2 : numL 10 0 0 l1 bd1 with ⟨n, l2, bd2⟩
  rw [hq2] at U2 N2
  simp only at U2 N2
  have Q2 := Aside0.mk hq2
  clear h1 h2 U1 BR1 S1 hq2
  go_wp2_with fail
  refine (unp_text w _ gp _ _ U2.out (Nat.le_trans N2.out.2 (Nat.le_trans L1.out H.out.2.2))).mono ?_
  rintro r W3 ⟨v2, rfl, hv, h1, h2⟩
  obtain ⟨A2, c2, rfl, hd⟩ := BK.of2 hv U2.out.be
  have U3 := Aside0.mk h1
  have BR3 := Aside0.mk (blk_kept BR2.out h2 HG.out.1)
  have S3 := Aside0.mk (And.intro S2.out h2.1)
  have N3 := Aside0.mk (txtL_len l2 bd2)
  rcases hq3 : txtL l2 bd2 with ⟨p, l3, bd3⟩
  rw [hq3] at U3 N3 hd
  simp only at U3 N3 hd
  have D3 := Aside0.mk hd
  have Q3 := Aside0.mk hq3
  clear h1 h2 hv hd U2 BR2 S2 hq3
  go_wp2_with fail
  refine (unp_byte w _ gp _ _ U3.out).mono ?_
  rintro r W4 ⟨rfl, h1, h2⟩
  have U4 := Aside0.mk h1
  have BR4 := Aside0.mk (blk_kept BR3.out h2 HG.out.1)
  have S4 := Aside0.mk (And.intro S3.out h2.1)
  have D4 := Aside0.mk (D3.out.kept h2 (by intro k a b e; have := HG.out; have := S3.out; omega))
  have L4 := Aside0.mk (show l3.tail.length ≤ l3.length by simp)
  generalize hl4 : l3.tail = l4 at *
  generalize hb4 : (bd3 || l3.isEmpty) = bd4 at *
  have Q4 := Aside0.mk (And.intro hl4 hb4)
  clear h1 h2 U3 BR3 D3 hl4 hb4
  generalize hfx : l3.headD 0 = fx at *
  have QF := Aside0.mk hfx
  clear hfx
  go_wp2_with fail
  refine (unp_text w _ gp _ _ U4.out (Nat.le_trans L4.out (Nat.le_trans N3.out.2 (Nat.le_trans N2.out.2 (Nat.le_trans L1.out H.out.2.2))))).mono ?_
  rintro r W5 ⟨v4, rfl, hv, h1, h2⟩
  obtain ⟨A4, c4, rfl, hd⟩ := BK.of2 hv U4.out.be
  have U5 := Aside0.mk h1
  have BR5 := Aside0.mk (blk_kept BR4.out h2 HG.out.1)
  have D5 := Aside0.mk (D4.out.kept h2 (by intro k a b e; have := HG.out; have := S3.out; omega))
  have S5 := Aside0.mk (And.intro S4.out h2.1)
  have N5 := Aside0.mk (txtL_len l4 bd4)
  rcases hq5 : txtL l4 bd4 with ⟨q, l5, bd5⟩
  rw [hq5] at U5 N5 hd
  simp only at U5 N5 hd
  have E5 := Aside0.mk hd
  have Q5 := Aside0.mk hq5
  clear h1 h2 hv hd U4 BR4 D4 hq5
  go_upto_region 3 with (fail)
  have DE := Aside0.mk (decO_of Q1.out.1 Q1.out.2 QK.out Q2.out Q3.out Q4.out.1 Q4.out.2 QF.out Q5.out)
  clear Q1 QK Q2 Q3 Q4 QF Q5
  generalize wrap64 kx = K at *
  generalize wrap64 fx = F at *
  have b5 := Aside0.mk (blk_new W5 (.cells #[.int .i64 K, .int .u64 n, .slice A2 p.length c2, .int .i64 F, .slice A4 q.length c4, .int .u64 0, .int .u64 0] 28))
  have z0 := blk_cell b5.out 0
  have z1 := blk_cell b5.out 1
  have z2 := blk_cell b5.out 2
  have z3 := blk_cell b5.out 3
  have z4 := blk_cell b5.out 4
  have z5 := blk_cell b5.out 5
  have z6 := blk_cell b5.out 6
  simp only [List.getElem?_toArray, List.getElem?_cons_zero, List.getElem?_cons_succ] at z0 z1 z2 z3 z4 z5 z6
  have HL := Aside0.mk (show p.length ≤ 2097152 ∧ q.length ≤ 2097152 by have := N2.out.2; have := N3.out; have := N5.out; have := L1.out; have := L4.out; have := H.out.2.2; omega)
  go_wp2_with fail
  refine (impl_EncodeOp_calls K n A2 c2 p F A4 c4 q 0 0 _ (Kd.C_alloc D5.out.reads.1 _) D5.out.reads.2 (Kd.C_alloc E5.out.reads.1 _) E5.out.reads.2 N2.out.1 HL.out.1 HL.out.2).mono ?_
  rintro r W6 ⟨V, rfl, hr, hb⟩
  have hbb : Below W5.heap.size W5 W6 := below_step (below_alloc (Below.refl W5.heap.size W5) _) hb
  obtain ⟨B, d, rfl, hd⟩ := BK.of2 hr (below_alloc U5.out.be _)
  have D6 := Aside0.mk hd
  have U6 := Aside0.mk (U5.out.below hbb)
  have DP := Aside0.mk (D5.out.below hbb)
  have DV := Aside0.mk (E5.out.below hbb)
  have BR6 := Aside0.mk (blk_below BR5.out hbb)
  have BO := Aside0.mk (blk_below b5.out hb)
  have S6 := Aside0.mk hbb.size
  generalize haa : encOpF K n p F q 0 0 = a at *
  have HA := Aside0.mk haa
  clear haa
  clear z0 z1 z2 z3 z4 z5 z6 hr hb hbb hd U5 D5 E5 BR5 b5
  obtain ⟨⟨A7, c7, hx7, hc7, hr7⟩, hbe, hgg⟩ := U6.out
  have y1 := blk_cell hx7 1
  simp only [List.getElem?_toArray, List.getElem?_cons_zero, List.getElem?_cons_succ] at y1
  have HB := Aside0.mk hbe
  have z0 := blk_cell BO.out 0
  have z1 := blk_cell BO.out 1
  have z2 := blk_cell BO.out 2
  have z3 := blk_cell BO.out 3
  have z4 := blk_cell BO.out 4
  have z5 := blk_cell BO.out 5
  have z6 := blk_cell BO.out 6
  simp only [List.getElem?_toArray, List.getElem?_cons_zero, List.getElem?_cons_succ] at z0 z1 z2 z3 z4 z5 z6
  clear hx7 hc7 hr7 hbe hgg
  have HT := Aside0.mk (show decO l = if bd5 then (0, 0, [], 0, [], 13) else if a.length = 0 then (0, 0, [], 0, [], 13) else if (strOfNums a).toList == (strOfNums l).toList then (K, n, p, F, q, 0) else (0, 0, [], 0, [], 13) by rw [DE.out]; unfold decT; rw [HA.out])
  clear DE HA
  have x0 := blk_cell BR6.out 0
  have x1 := blk_cell BR6.out 1
  have x2 := blk_cell BR6.out 2
  have x3 := blk_cell BR6.out 3
  have x4 := blk_cell BR6.out 4
  have x5 := blk_cell BR6.out 5
  have x6 := blk_cell BR6.out 6
  simp only [List.getElem?_toArray, List.getElem?_cons_zero, List.getElem?_cons_succ] at x0 x1 x2 x3 x4 x5 x6
  have f0 := blk_frozen BR6.out 0
  have f1 := blk_frozen BR6.out 1
  have f2 := blk_frozen BR6.out 2
  have f3 := blk_frozen BR6.out 3
  have f4 := blk_frozen BR6.out 4
  have f5 := blk_frozen BR6.out 5
  have f6 := blk_frozen BR6.out 6
  cases bd5 with
  | true =>
    have HE := Aside0.mk (show decO l = (0, 0, [], 0, [], 13) by rw [HT.out]; rfl)
    clear HT
    go_wp2_with fail
    refine bodyPost_ret (results_ct rfl _ _ w.heap.size 28 #[.int .i64 0, .int .u64 0, .slice none 0 0, .int .i64 0, .slice none 0 0, .int .u64 0, .int .u64 0] (0, 0) _ rfl (by refine blk_put (cs := #[.int .i64 0, .int .u64 0, .slice none 0 0, .int .i64 0, .slice none 0 0, .int .u64 0, .int .u64 0]) ?_ 6 _ rfl; refine blk_put (cs := #[.int .i64 0, .int .u64 0, .slice none 0 0, .int .i64 0, .slice none 0 0, .int .u64 0, .int .u64 0]) ?_ 5 _ rfl; refine blk_put (cs := #[.int .i64 0, .int .u64 0, .slice none 0 0, .int .i64 0, .slice none 0 0, .int .u64 0, .int .u64 0]) ?_ 4 _ rfl; refine blk_put (cs := #[.int .i64 0, .int .u64 0, .slice none 0 0, .int .i64 0, .slice none 0 0, .int .u64 0, .int .u64 0]) ?_ 3 _ rfl; refine blk_put (cs := #[.int .i64 0, .int .u64 0, .slice none 0 0, .int .i64 0, .slice none 0 0, .int .u64 0, .int .u64 0]) ?_ 2 _ rfl; refine blk_put (cs := #[.int .i64 0, .int .u64 0, .slice none 0 0, .int .i64 0, .slice none 0 0, .int .u64 0, .int .u64 0]) ?_ 1 _ rfl; refine blk_put (cs := #[.int .i64 0, .int .u64 0, .slice none 0 0, .int .i64 0, .slice none 0 0, .int .u64 0, .int .u64 0]) ?_ 0 _ rfl; exact BR6.out) Try.underlying28 rfl (by kernel_rfl)) rfl ?_
    rw [HE.out]
    exact ⟨none, 0, none, 0, rfl, ⟨BK.nil _ _ _ _, BK.nil _ _ _ _, by intro k hk; simp [OB, Value.ownBlock] at hk⟩, by with_reducible repeat (first | exact HB.out | refine below_set ?_ (Nat.le_refl _))⟩
  | false =>
    by_cases ha : a.length = 0
    · have hd1 : decide (a.length = 0) = true := decide_eq_true ha
      have hd2 : decide ((a.length : Int) = 0) = true := decide_eq_true (by omega)
      have HE := Aside0.mk (show decO l = (0, 0, [], 0, [], 13) by rw [HT.out, if_neg (by decide), if_pos ha])
      clear HT
      go_wp2_with fail
      refine bodyPost_ret (results_ct rfl _ _ w.heap.size 28 #[.int .i64 0, .int .u64 0, .slice none 0 0, .int .i64 0, .slice none 0 0, .int .u64 0, .int .u64 0] (0, 0) _ rfl (by refine blk_put (cs := #[.int .i64 0, .int .u64 0, .slice none 0 0, .int .i64 0, .slice none 0 0, .int .u64 0, .int .u64 0]) ?_ 6 _ rfl; refine blk_put (cs := #[.int .i64 0, .int .u64 0, .slice none 0 0, .int .i64 0, .slice none 0 0, .int .u64 0, .int .u64 0]) ?_ 5 _ rfl; refine blk_put (cs := #[.int .i64 0, .int .u64 0, .slice none 0 0, .int .i64 0, .slice none 0 0, .int .u64 0, .int .u64 0]) ?_ 4 _ rfl; refine blk_put (cs := #[.int .i64 0, .int .u64 0, .slice none 0 0, .int .i64 0, .slice none 0 0, .int .u64 0, .int .u64 0]) ?_ 3 _ rfl; refine blk_put (cs := #[.int .i64 0, .int .u64 0, .slice none 0 0, .int .i64 0, .slice none 0 0, .int .u64 0, .int .u64 0]) ?_ 2 _ rfl; refine blk_put (cs := #[.int .i64 0, .int .u64 0, .slice none 0 0, .int .i64 0, .slice none 0 0, .int .u64 0, .int .u64 0]) ?_ 1 _ rfl; refine blk_put (cs := #[.int .i64 0, .int .u64 0, .slice none 0 0, .int .i64 0, .slice none 0 0, .int .u64 0, .int .u64 0]) ?_ 0 _ rfl; exact BR6.out) Try.underlying28 rfl (by kernel_rfl)) rfl ?_
      rw [HE.out]
      exact ⟨none, 0, none, 0, rfl, ⟨BK.nil _ _ _ _, BK.nil _ _ _ _, by intro k hk; simp [OB, Value.ownBlock] at hk⟩, by with_reducible repeat (first | exact HB.out | refine below_set ?_ (Nat.le_refl _))⟩
    · have hd1 : decide (a.length = 0) = false := decide_eq_false ha
      have hd3 : ((a.length : Int) == 0) = false := beq_eq_false_iff_ne.2 (by omega)
      have hd4 : ¬ a = [] := by rintro rfl; exact ha rfl
      have hd5 : decide (a = []) = false := decide_eq_false hd4
      have hd2 : decide ((a.length : Int) = 0) = false := decide_eq_false (by omega)
      obtain ⟨tt, htt⟩ : ∃ tt, ((strOfNums a).toList == (strOfNums l).toList) = tt := ⟨_, rfl⟩
      have HT2 := Aside0.mk (show decO l = if tt then (K, n, p, F, q, 0) else (0, 0, [], 0, [], 13) by rw [HT.out, if_neg (by decide), if_neg ha, htt])
      have HQE := Aside0.mk (show bytes_Equal.f a l = some tt by unfold bytes_Equal.f; rw [htt])
      clear htt
      clear HT
      go_wp2_with fail
      refine (bytes_Equal.calls B d a A c l tt W6 D6.out.reads.1 D6.out.reads.2 (Kd.C_below H.out.1 HB.out) H.out.2.1 HQE.out).mono ?_
      rintro r W7 ⟨rfl, hdr⟩
      have hb := hdr.below
      have BR7 := Aside0.mk (blk_below BR6.out hb)
      have BO7 := Aside0.mk (blk_below BO.out hb)
      have HB7 := Aside0.mk (below_step HB.out hb)
      have DP7 := Aside0.mk (DP.out.below hb)
      have DV7 := Aside0.mk (DV.out.below hb)
      have S7 := Aside0.mk hb.size
      clear z0 z1 z2 z3 z4 z5 z6 x0 x1 x2 x3 x4 x5 x6 f0 f1 f2 f3 f4 f5 f6 y1 hdr hb ha
      have z0 := blk_cell BO7.out 0
      have x0 := blk_cell BR7.out 0
      have f0 := blk_frozen BR7.out 0
      have z1 := blk_cell BO7.out 1
      have x1 := blk_cell BR7.out 1
      have f1 := blk_frozen BR7.out 1
      have z2 := blk_cell BO7.out 2
      have x2 := blk_cell BR7.out 2
      have f2 := blk_frozen BR7.out 2
      have z3 := blk_cell BO7.out 3
      have x3 := blk_cell BR7.out 3
      have f3 := blk_frozen BR7.out 3
      have z4 := blk_cell BO7.out 4
      have x4 := blk_cell BR7.out 4
      have f4 := blk_frozen BR7.out 4
      have z5 := blk_cell BO7.out 5
      have x5 := blk_cell BR7.out 5
      have f5 := blk_frozen BR7.out 5
      have z6 := blk_cell BO7.out 6
      have x6 := blk_cell BR7.out 6
      have f6 := blk_frozen BR7.out 6
      simp only [List.getElem?_toArray, List.getElem?_cons_zero, List.getElem?_cons_succ] at z0 z1 z2 z3 z4 z5 z6 x0 x1 x2 x3 x4 x5 x6
      clear HQE
      cases tt with
      | false =>
        have HE := Aside0.mk (show decO l = (0, 0, [], 0, [], 13) by rw [HT2.out]; rfl)
        clear HT2
        go_wp2_with fail
        refine bodyPost_ret (results_ct rfl _ _ w.heap.size 28 #[.int .i64 0, .int .u64 0, .slice none 0 0, .int .i64 0, .slice none 0 0, .int .u64 0, .int .u64 0] (0, 0) _ rfl (by refine blk_put (cs := #[.int .i64 0, .int .u64 0, .slice none 0 0, .int .i64 0, .slice none 0 0, .int .u64 0, .int .u64 0]) ?_ 6 _ rfl; refine blk_put (cs := #[.int .i64 0, .int .u64 0, .slice none 0 0, .int .i64 0, .slice none 0 0, .int .u64 0, .int .u64 0]) ?_ 5 _ rfl; refine blk_put (cs := #[.int .i64 0, .int .u64 0, .slice none 0 0, .int .i64 0, .slice none 0 0, .int .u64 0, .int .u64 0]) ?_ 4 _ rfl; refine blk_put (cs := #[.int .i64 0, .int .u64 0, .slice none 0 0, .int .i64 0, .slice none 0 0, .int .u64 0, .int .u64 0]) ?_ 3 _ rfl; refine blk_put (cs := #[.int .i64 0, .int .u64 0, .slice none 0 0, .int .i64 0, .slice none 0 0, .int .u64 0, .int .u64 0]) ?_ 2 _ rfl; refine blk_put (cs := #[.int .i64 0, .int .u64 0, .slice none 0 0, .int .i64 0, .slice none 0 0, .int .u64 0, .int .u64 0]) ?_ 1 _ rfl; refine blk_put (cs := #[.int .i64 0, .int .u64 0, .slice none 0 0, .int .i64 0, .slice none 0 0, .int .u64 0, .int .u64 0]) ?_ 0 _ rfl; exact BR7.out) Try.underlying28 rfl (by kernel_rfl)) rfl ?_
        rw [HE.out]
        exact ⟨none, 0, none, 0, rfl, ⟨BK.nil _ _ _ _, BK.nil _ _ _ _, by intro k hk; simp [OB, Value.ownBlock] at hk⟩, by with_reducible repeat (first | exact HB7.out | refine below_set ?_ (Nat.le_refl _))⟩
      | true =>
        have HE := Aside0.mk (show decO l = (K, n, p, F, q, 0) by rw [HT2.out]; rfl)
        clear HT2
        go_wp2_with fail
        refine bodyPost_ret (results_ct rfl _ _ w.heap.size 28 #[.int .i64 K, .int .u64 n, .slice A2 p.length c2, .int .i64 F, .slice A4 q.length c4, .int .u64 0, .int .u64 0] (0, 0) _ rfl (by refine blk_put (cs := #[.int .i64 K, .int .u64 n, .slice A2 p.length c2, .int .i64 F, .slice A4 q.length c4, .int .u64 0, .int .u64 0]) ?_ 6 _ rfl; refine blk_put (cs := #[.int .i64 K, .int .u64 n, .slice A2 p.length c2, .int .i64 F, .slice A4 q.length c4, .int .u64 0, .int .u64 0]) ?_ 5 _ rfl; refine blk_put (cs := #[.int .i64 K, .int .u64 n, .slice A2 p.length c2, .int .i64 F, .slice none 0 0, .int .u64 0, .int .u64 0]) ?_ 4 _ rfl; refine blk_put (cs := #[.int .i64 K, .int .u64 n, .slice A2 p.length c2, .int .i64 0, .slice none 0 0, .int .u64 0, .int .u64 0]) ?_ 3 _ rfl; refine blk_put (cs := #[.int .i64 K, .int .u64 n, .slice none 0 0, .int .i64 0, .slice none 0 0, .int .u64 0, .int .u64 0]) ?_ 2 _ rfl; refine blk_put (cs := #[.int .i64 K, .int .u64 0, .slice none 0 0, .int .i64 0, .slice none 0 0, .int .u64 0, .int .u64 0]) ?_ 1 _ rfl; refine blk_put (cs := #[.int .i64 0, .int .u64 0, .slice none 0 0, .int .i64 0, .slice none 0 0, .int .u64 0, .int .u64 0]) ?_ 0 _ rfl; exact BR7.out) Try.underlying28 rfl (by kernel_rfl)) rfl ?_
        rw [HE.out]
        have hg1 := HG.out
        have hs5 := S5.out
        have hs6 := S6.out
        have hs7 := S7.out
        clear z0 z1 z2 z3 z4 z5 z6 x0 x1 x2 x3 x4 x5 x6 f0 f1 f2 f3 f4 f5 f6 hd1 hd2 hd3 hd4 hd5
        refine ⟨A2, c2, A4, c4, rfl, ⟨BK.widen (BK.kept (S := fun k => k = w.heap.size) DP7.out (by with_reducible repeat (first | exact Kept.refl _ _ | refine Kept.trans_ ?_ (kept_set _ _ _ _))) (by intro k h1 h2 h3; omega)) (by omega) (Nat.le_trans (by omega) (Kept.size_ (w := W7) (S := fun k => k = w.heap.size) (by with_reducible repeat (first | exact Kept.refl _ _ | refine Kept.trans_ ?_ (kept_set _ _ _ _))))), BK.widen (BK.kept (S := fun k => k = w.heap.size) DV7.out (by with_reducible repeat (first | exact Kept.refl _ _ | refine Kept.trans_ ?_ (kept_set _ _ _ _))) (by intro k h1 h2 h3; omega)) (by omega) (Nat.le_trans (by omega) (Kept.size_ (w := W7) (S := fun k => k = w.heap.size) (by with_reducible repeat (first | exact Kept.refl _ _ | refine Kept.trans_ ?_ (kept_set _ _ _ _))))), fun k h1 h2 => by have := (DP7.out.b k h1).2; have := (DV7.out.b k h2).1; omega⟩, by with_reducible repeat (first | exact HB7.out | refine below_set ?_ (Nat.le_refl _))⟩
end Go.Proofs.Ytbgbocdohadhoaa.Print
