/- Texts of this session, joined by its own program. -/
import Derived.Laws.Cover1
import Derived.Lib.BytesEntry
import Derived.Laws.Externs
import Derived.Lib.ConvBytes
import Derived.Laws.AppendOwn
import Derived.Test.YtbgbocdohadhoaaDoorCES6
namespace Go.Proofs.YtbgbocdohadhoaaDoor.Print
open Go Go.RowKit Go.Proofs.YtbgbocdohadhoaaDoorW.PrintWords Go.Proofs.YtbgbocdohadhoaaDoorW.PrintLast Go.Proofs.YtbgbocdohadhoaaDoorW.PrintMore
set_option linter.unusedVariables false
set_option linter.unusedSimpArgs false
theorem idMap_put {w w' : World} {b n : Nat} {xs : List Se} {D : DataW Unit} (hD : w.ownsMap Tryd.prog 26 (plainElem Tryd.prog 3) b n D) (hh : ∀ id : Int, 0 ≤ id → id < 18446744073709551616 → Maps.has D (.int .u64 id) = liveB xs id) (x : Se) (d : DataW Unit)
  (h' : w'.ownsMap Tryd.prog 26 (plainElem Tryd.prog 3) b (n + 1) (D.put (.int .u64 x.f0) d)) : IdMap w' b (n + 1) (xs ++ [x]) := by
 refine ⟨_, h', fun id h0 h1 => ?_⟩
 have e : liveB (xs ++ [x]) id = (liveB xs id || x.f0 == id) := by unfold liveB; rw [List.any_append]; simp
 rw [e]
 by_cases c : id = x.f0
 ·
  subst c
  rw [Maps.has_put_same hD.isMap (show WideAt.IsKeyLit (.int .u64 x.f0) from trivial), beq_self_eq_true, Bool.or_true]
 ·
  rw [Maps.has_put_other (by simpa using c), hh id h0 h1, beq_eq_false_iff_ne.2 (fun h => c h.symm), Bool.or_false]
theorem idMap_made (w : World) : IdMap (w.alloc (.map #[] 0)) w.heap.size 0 [] := ⟨_, World.ownsMap_made w _ _ _, fun id _ _ => rfl⟩
def lookF (ns : List No) (q : List Int) : Option Int :=
 ns.foldl (fun acc nd => if nd.f0 == q then some nd.f2 else acc) (if q == [47] then some 0 else none)
structure OwnMap (w : World) (b n : Nat) (ns : List No) : Prop where
 out : ∃ D : DataW Unit, w.ownsMap Tryd.prog 9 (plainElem Tryd.prog 26) b n D ∧ ∀ q : List Int, (∀ z ∈ q, 0 ≤ z ∧ z < 256) →
  Maps.has D (.string (Lib.bytesOf q)) = (lookF ns q).isSome ∧ D.atKey (.string (Lib.bytesOf q)) (.lit (.int .u64 0)) = .lit (.int .u64 ((lookF ns q).getD 0))
theorem OwnMap.below {w w' : World} {b n : Nat} {xs : List No} (h : OwnMap w b n xs) {base : Nat} (hb : b < base) (hB : Below base w w') : OwnMap w' b n xs := by
 obtain ⟨D, h1, h2⟩ := h.out
 exact ⟨D, owns_below h1 hb hB, h2⟩
theorem OwnMap.lt {w : World} {b n : Nat} {xs : List No} (h : OwnMap w b n xs) : b < w.heap.size := by
 obtain ⟨D, h1, h2⟩ := h.out
 exact h1.lt
theorem ownMap_put {w w' : World} {b n : Nat} {ns : List No} {D : DataW Unit} (hD : w.ownsMap Tryd.prog 9 (plainElem Tryd.prog 26) b n D) (hh : ∀ q : List Int, (∀ z ∈ q, 0 ≤ z ∧ z < 256) →
  Maps.has D (.string (Lib.bytesOf q)) = (lookF ns q).isSome ∧ D.atKey (.string (Lib.bytesOf q)) (.lit (.int .u64 0)) = .lit (.int .u64 ((lookF ns q).getD 0))) (x : No) (hx : ∀ z ∈ x.f0, 0 ≤ z ∧ z < 256)
  (h' : w'.ownsMap Tryd.prog 9 (plainElem Tryd.prog 26) b (n + 1) (D.put (.string (Lib.bytesOf x.f0)) (.lit (.int .u64 x.f2)))) : OwnMap w' b (n + 1) (ns ++ [x]) := by
 refine ⟨_, h', fun q hq => ?_⟩
 have e : lookF (ns ++ [x]) q = if x.f0 == q then some x.f2 else lookF ns q := by unfold lookF; rw [List.foldl_append]; rfl
 rw [e]
 by_cases c : x.f0 = q
 ·
  subst c
  rw [Maps.has_put_same hD.isMap (show WideAt.IsKeyLit (.string (Lib.bytesOf x.f0)) from trivial), Maps.atKey_put_same hD.isMap (show WideAt.IsKeyLit (.string (Lib.bytesOf x.f0)) from trivial), if_pos (by simp)]
  exact ⟨rfl, rfl⟩
 ·
  have hne : (Lit.string (Lib.bytesOf q)) ≠ .string (Lib.bytesOf x.f0) := fun h => c (bytesOf_inj hx hq (by injection h with h; exact h.symm))
  rw [Maps.has_put_other hne, Maps.atKey_put_other hne, if_neg (by simpa using c)]
  exact hh q hq
theorem ownMap_root {w w' : World} {b n : Nat} (h' : w'.ownsMap Tryd.prog 9 (plainElem Tryd.prog 26) b n ((DataW.map [] : DataW Unit).put (.string [47]) (.lit (.int .u64 0)))) : OwnMap w' b n [] := by
 refine ⟨_, h', fun q hq => ?_⟩
 have e47 : Lib.bytesOf [47] = [47] := rfl
 have hm : Maps.IsMap (DataW.map [] : DataW Unit) := ⟨_, rfl⟩
 by_cases c : q = [47]
 ·
  subst c
  rw [e47, Maps.has_put_same hm (show WideAt.IsKeyLit (.string [47]) from trivial), Maps.atKey_put_same hm (show WideAt.IsKeyLit (.string [47]) from trivial)]
  exact ⟨rfl, rfl⟩
 ·
  have hne : (Lit.string (Lib.bytesOf q)) ≠ .string [47] := fun h => c (bytesOf_inj hq (by decide) (by injection h with h))
  rw [Maps.has_put_other hne, Maps.atKey_put_other hne]
  have : lookF [] q = none := by unfold lookF; rw [List.foldl_nil, if_neg (by simpa using c)]
  rw [this]
  exact ⟨rfl, rfl⟩
theorem key_str (q : List Int) (hl : q.length ≤ 2097152) : keyOf Tryd.prog 9 (.string (strOfNums q)) = some (.string (Lib.bytesOf q)) := by
 rw [Go.keyOf_string Tryd.underlying9]
 unfold mapKey
 rw [Tryd.underlying9]
 have hs : (strOfNums q).size = q.length := strOfNums_size q
 simp only [hs]
 rw [if_pos (by unfold maxLen; omega), strOfNums_data]
 rfl
theorem lookF_canPar : ∀ (ns : List No) (q : List Int), (∀ x ∈ ns, x.f0 ≠ [47]) → ns.Pairwise (fun a b => a.f0 ≠ b.f0) → canParB ns q = (lookF ns q == some 0) := by
 intro ns q h1 h2
 unfold canParB lookF
 by_cases c : q = [47]
 ·
  subst c
  have : ∀ (l : List No) (a : Option Int), (∀ x ∈ l, x.f0 ≠ [47]) → l.foldl (fun acc nd => if nd.f0 == [47] then some nd.f2 else acc) a = a := by
   intro l
   induction l with
   | nil => intro a _; rfl
   | cons x r ih =>
    intro a h
    rw [List.foldl_cons, if_neg (by simpa using h x (by simp))]
    exact ih a (fun y hy => h y (by simp [hy]))
  rw [this ns _ h1]
  rfl
 ·
  have c1 : (q == [47]) = false := beq_eq_false_iff_ne.2 c
  rw [c1, Bool.false_or]
  simp only [Bool.false_eq_true, if_false]
  have key : ∀ (l : List No) (a : Option Int), l.Pairwise (fun a b => a.f0 ≠ b.f0) → l.foldl (fun acc nd => if nd.f0 == q then some nd.f2 else acc) a = match l.find? (fun n => n.f0 == q) with | none => a | some n => some n.f2 := by
   intro l
   induction l with
   | nil => intro a _; rfl
   | cons x r ih =>
    intro a h
    rw [List.foldl_cons, List.pairwise_cons] at *
    by_cases cx : x.f0 = q
    ·
     rw [if_pos (by simpa using cx), List.find?_cons_of_pos (by simpa using cx), ih _ h.2]
     have : r.find? (fun n => n.f0 == q) = none := by
      rw [List.find?_eq_none]
      intro y hy e
      exact h.1 y hy (cx.trans (by simpa using e : y.f0 = q).symm)
     rw [this]
    ·
     rw [if_neg (by simpa using cx), List.find?_cons_of_neg (by simpa using cx), ih _ h.2]
  rw [key ns none h2]
  cases ns.find? (fun n => n.f0 == q) with
  | none => rfl
  | some n => rfl
structure GoodP (ns : List No) (i : Nat) : Prop where
 p : ∀ k (hk : k < ns.length), k < i → pathB ns[k].f0 = true
 a : ∀ k (hk : k < ns.length), k < i → 0 < k → leB ns[k].f0 (ns.getD (k - 1) zNo).f0 = false
theorem GoodP.zero (ns : List No) : GoodP ns 0 := ⟨fun k _ h => absurd h (by omega), fun k _ h => absurd h (by omega)⟩
theorem GoodP.next {ns : List No} {i : Nat} (h : GoodP ns i) (hi : i < ns.length) (h1 : pathB ns[i].f0 = true) (h2 : 0 < i → leB ns[i].f0 (ns.getD (i - 1) zNo).f0 = false) : GoodP ns (i + 1) :=
 ⟨fun k hk hki => by
  by_cases e : k = i
  ·
   subst e; exact h1
  ·
   exact h.p k hk (by omega), fun k hk hki h0 => by
  by_cases e : k = i
  ·
   subst e; exact h2 h0
  ·
   exact h.a k hk (by omega) h0⟩
theorem GoodP.canPar {ns : List No} {i : Nat} (h : GoodP ns i) (hi : i ≤ ns.length) (q : List Int) : canParB (ns.take i) q = (lookF (ns.take i) q == some 0) := by
 refine lookF_canPar _ q (fun x hx e => ?_) ?_
 ·
  obtain ⟨j, hj, rfl⟩ := List.mem_iff_getElem.1 hx
  rw [List.length_take] at hj
  rw [List.getElem_take] at e
  have := h.p j (by omega) (by omega)
  rw [e] at this
  exact absurd this (by decide)
 ·
  rw [List.pairwise_iff_getElem]
  intro a b ha hb hab
  have hb2 := hb
  rw [List.length_take] at hb2
  have := asc_all (ns.take i) (fun k hk h0 => by
   have hk2 := hk
   rw [List.length_take] at hk2
   have := h.a k (by omega) (by omega) h0
   rw [List.getElem_take]
   have e : (ns.take i).getD (k - 1) zNo = ns.getD (k - 1) zNo := by
    rw [List.getD_eq_getElem?_getD, List.getD_eq_getElem?_getD, List.getElem?_take_of_lt (by omega)]
   rw [e]
   exact this) a (b - a) (by omega) (by omega)
  simp only [show a + (b - a) = b by omega] at this
  exact ltL_ne this
theorem zero_u64 (w : World) : (zeroValue 26).run Tryd.prog w = .ok (.int .u64 0) w := by kernel_rfl
theorem parentL_by {p : List Int} (h : ∀ z ∈ p, 0 ≤ z ∧ z < 256) : ∀ z ∈ parentL p, 0 ≤ z ∧ z < 256 := by
 unfold parentL
 split
 ·
  simp
 ·
  exact fun z hz => h z (List.mem_of_mem_take hz)
theorem parentL_len {p : List Int} (h : p.length ≤ 2097152) : (parentL p).length ≤ 2097152 := by
 unfold parentL
 split
 ·
  simp
 ·
  rw [List.length_take]; omega
theorem own_look {w : World} {b n : Nat} {ns : List No} (h : OwnMap w b n ns) (q : List Int) (hq : ∀ z ∈ q, 0 ≤ z ∧ z < 256) (hl : q.length ≤ 2097152) :
  (Instr.lookup 74 (.map (some b)) (.string (strOfNums q)) true).run Tryd.prog w = .ok (.tuple #[.int .u64 ((lookF ns q).getD 0), .bool (lookF ns q).isSome]) w := by
 obtain ⟨D, hown, hhas⟩ := h.out
 obtain ⟨v, ps, hrun, hv⟩ := hown.look_ok (Maps.string_keyed Tryd.underlying9) Tryd.underlying74 (zero_u64 w) (plainElem_int (H := Unit) (P := Tryd.prog) Tryd.underlying26 (by decide)) (key_str q hl)
 obtain ⟨a, rfl, hc, _⟩ := plainElem_int_inv Tryd.underlying26 hv
 obtain ⟨h1, h2⟩ := hhas q hq
 rw [h2] at hc
 have e : (lookF ns q).getD 0 = a := by
  simp only [Prod.mk.injEq, DataW.lit.injEq, Lit.int.injEq] at hc
  exact hc.1.2
 rw [hrun, h1, e]
def bytealg_LastIndexByte.l0 : Nat → List Int → Int → Int → Option (Int)
 | 0, _, _, _ => none
 | k + 1, x0, x1, x5 => if x5 ≥ 0 then (if 0 ≤ x5 then (if x5 < (x0.length : Int) then (if (rd x0 x5) = x1 then (some x5) else (bytealg_LastIndexByte.l0 k x0 x1 (wrap64 (x5 - 1)))) else (none)) else (none)) else (some (-1))
def bytealg_LastIndexByte.f (k : Nat) (l0 : List Int) (a1 : Int) : Option (Int) := bytealg_LastIndexByte.l0 k l0 a1 (wrap64 ((l0.length : Int) - 1))
set_option maxHeartbeats 8000000 in
set_option maxRecDepth 100000 in
theorem bytealg_LastIndexByte.calls (k : Nat) (A0 : Option Addr) (c0 : Nat) (l0 : List Int) (a1 : Int) (r : Int) (w : World) (hr0 : Kd.C (Kd.int .u8) w A0 l0.length l0) (hc0 : l0.length ≤ c0) (h : bytealg_LastIndexByte.f k l0 a1 = some r) :
  Calls Tryd.prog 128 #[.slice A0 l0.length c0, .int .u8 a1] w fun e w' => e = .returned (.int .i64 r) ∧ Drawn0 w w' := by
 have HR0 := Aside0.mk hr0
 have HC0 := Aside0.mk hc0
 clear hr0 hc0
 have H : (bytealg_LastIndexByte.l0 k l0 a1 (wrap64 ((l0.length : Int) - 1))) = some r := h
 clear h
 have H' := Aside0.mk H
 clear H
 go_enter Tryd.func128, Tryd.ntmps128
 go_wp2
 go_loopg [5] k (fun kq v5 w' => ∃ (x5_1 : Int), v5 = .int .i64 x5_1 ∧ Aside0 (bytealg_LastIndexByte.l0 kq l0 a1 x5_1 = some r) ∧ Aside0 (kq ≤ k) ∧ Drawn0 w w')
 case atStart => exact ⟨(wrap64 ((l0.length : Int) - 1)), (by first | rfl | (simp; done) | (simp [*]; done)), H', ⟨Nat.le_refl _⟩, by repeat (first | exact Drawn0.refl _ | apply Drawn0.step)⟩
 case round =>
  clear H'
  try clear c1
  try clear p2
  obtain ⟨x5_1, rfl, HA, HK1, ⟨m1, rfl⟩⟩ := hrel
  cases gk with
  | zero => exact absurd HA.out (by simp [bytealg_LastIndexByte.l0])
  | succ k1 =>
   have H := HA.out
   clear HA
   simp only [bytealg_LastIndexByte.l0] at H
   by_cases c3 : x5_1 ≥ 0
   ·
    rw [if_pos c3] at H
    have c3b0 : decide (0 ≤ x5_1) = true := decide_eq_true c3
    clear c3
    by_cases c4 : 0 ≤ x5_1
    ·
     rw [if_pos c4] at H
     have c4b0 : decide (0 ≤ x5_1) = true := decide_eq_true c4
     clear c4
     by_cases c5 : x5_1 < (l0.length : Int)
     ·
      rw [if_pos c5] at H
      have c5b0 : decide (x5_1 < (l0.length : Int)) = true := decide_eq_true c5
      clear c5
      by_cases c6 : (rd l0 x5_1) = a1
      ·
       rw [if_pos c6] at H
       have c6b0 : ((rd l0 x5_1) == a1) = true := beq_iff_eq.mpr c6
       have c6b1 : ((rd l0 x5_1) != a1) = false := bne_eq_false_iff_eq.mpr c6
       clear c6
       obtain rfl := Option.some.inj H
       have p250 : 0 ≤ (x5_1 : Int) := of_decide_eq_true (by first | (with_reducible assumption) | assumption)
       have q250 : x5_1 < (l0.length : Int) := of_decide_eq_true (by first | (with_reducible assumption) | assumption)
       obtain ⟨ad250, e250, hx250_0⟩ := Kd.at_int HR0.out x5_1 p250 q250
       cases e250
       replace p250 := eq_true p250
       replace q250 := eq_true q250
       go_wp2
       go_ret
       exact ⟨by first | rfl | (simp; done) | (simp [*]; done), by repeat (first | exact Drawn0.refl _ | apply Drawn0.step)⟩
      ·
       rw [if_neg c6] at H
       have c6b0 : ((rd l0 x5_1) == a1) = false := beq_eq_false_iff_ne.mpr c6
       have c6b1 : ((rd l0 x5_1) != a1) = true := bne_iff_ne.mpr c6
       have H' := Aside0.mk H
       clear H
       have p250 : 0 ≤ (x5_1 : Int) := of_decide_eq_true (by first | (with_reducible assumption) | assumption)
       have q250 : x5_1 < (l0.length : Int) := of_decide_eq_true (by first | (with_reducible assumption) | assumption)
       obtain ⟨ad250, e250, hx250_0⟩ := Kd.at_int HR0.out x5_1 p250 q250
       cases e250
       replace p250 := eq_true p250
       replace q250 := eq_true q250
       go_wp2
       go_roundg k1
       case measure => have := HK1.out; omega
       case rel => exact ⟨(wrap64 (x5_1 - 1)), (by first | rfl | (simp; done) | (simp [*]; done)), H', ⟨by have := HK1.out; omega⟩, by repeat (first | exact Drawn0.refl _ | apply Drawn0.step)⟩
     ·
      rw [if_neg c5] at H
      exact absurd H (by simp)
    ·
     rw [if_neg c4] at H
     exact absurd H (by simp)
   ·
    rw [if_neg c3] at H
    have c3b0 : decide (0 ≤ x5_1) = false := decide_eq_false c3
    clear c3
    obtain rfl := Option.some.inj H
    go_wp2
    go_ret
    exact ⟨by first | rfl | (simp; done) | (simp [*]; done), by repeat (first | exact Drawn0.refl _ | apply Drawn0.step)⟩
def bytes_LastIndexByte.f (k : Nat) (l0 : List Int) (a1 : Int) : Option (Int) := (bytealg_LastIndexByte.f k l0 a1).bind fun t251 => (some t251)
set_option maxHeartbeats 8000000 in
set_option maxRecDepth 100000 in
theorem bytes_LastIndexByte.calls (k : Nat) (A0 : Option Addr) (c0 : Nat) (l0 : List Int) (a1 : Int) (r : Int) (w : World) (hr0 : Kd.C (Kd.int .u8) w A0 l0.length l0) (hc0 : l0.length ≤ c0) (h : bytes_LastIndexByte.f k l0 a1 = some r) :
  Calls Tryd.prog 101 #[.slice A0 l0.length c0, .int .u8 a1] w fun e w' => e = .returned (.int .i64 r) ∧ Drawn0 w w' := by
 have HR0 := Aside0.mk hr0
 have HC0 := Aside0.mk hc0
 clear hr0 hc0
 have H : ((bytealg_LastIndexByte.f k l0 a1).bind fun t251 => (some t251)) = some r := h
 clear h
 replace H := Option.bind_eq_some_iff.mp H
 obtain ⟨t251, A30, H⟩ := H
 replace H : (some t251) = some r := H
 have A3 := Aside0.mk A30
 clear A30
 obtain rfl := Option.some.inj H
 go_enter Tryd.func101, Tryd.ntmps101
 go_wp2_with (first | ((with_reducible refine gate_callee (f := 128) rfl ?_); refine goesL_ (some 7) rfl rfl Tryd.func128 (by kernel_rfl) rfl #[.slice A0 l0.length c0, .int .u8 a1] rfl (by (try simp only [List.map_toArray, List.map_cons, List.map_nil]); first | done | rfl | (simp only [List.length_drop, List.length_take]; rfl)) ?_; (with_reducible refine (bytealg_LastIndexByte.calls k _ _ l0 a1 t251 _ ?side1 ?side2 A3.out).mono ?_); (case side1 => repeat (first | exact HR0.out | (with_reducible refine Kd.C_alloc ?_ _) | (with_reducible refine Kd.C_drewN ?_ _) | (with_reducible refine Kd.C_drew ?_))); (case side2 => exact HC0.out); rintro e w' ⟨rfl, ⟨nd, rfl⟩⟩; refine ⟨_, rfl, ?_⟩))
 go_ret
 exact ⟨by first | rfl | (simp; done) | (simp [*]; done), by repeat (first | exact Drawn0.refl _ | apply Drawn0.step)⟩
theorem bytes_run (A : Option Addr) (c : Nat) (a : List Int) (w : World) (h : Kd.C (Kd.int .u8) w A a.length a) : (Extern.Bytes.bytesOf (.slice A a.length c)).run Tryd.prog w = .ok ⟨(Lib.bytesOf a).toArray⟩ w := by
 have hr := (Kd.reads_of_C (d := (0 : Int)) h).2.2
 have hc : ∀ ad, A = some ad → ∀ j x, a[j]? = some x → w.cell? (ad.add j) = some (.int .u8 x) := by
  intro ad hA j x hj
  have hjl : j < a.length := (List.getElem?_eq_some_iff.1 hj).1
  obtain ⟨ad', e, h2⟩ := hr (by omega)
  rw [hA] at e
  cases e
  rw [h2 j hjl, List.getD_eq_getElem?_getD, hj]
  rfl
 cases A with
 | none =>
  have h0 : a = [] := by
   cases a with
   | nil => rfl
   | cons x r =>
    obtain ⟨_, e, _⟩ := hr (by simp)
    cases e
  subst h0
  rfl
 | some ad =>
  have := Lib.run_loadBytesX (P := Tryd.prog) w a ad .empty (hc ad rfl)
  refine Eq.trans (show _ = (Extern.Bytes.loadBytes ad a.length .empty).run Tryd.prog w from rfl) (this.trans ?_)
  congr 1
  apply ByteArray.ext
  show (#[] : Array UInt8) ++ (Lib.bytesOf a).toArray = (Lib.bytesOf a).toArray
  simp
theorem bytealg_Compare_calls (A : Option Addr) (c : Nat) (a : List Int) (B : Option Addr) (d : Nat) (b : List Int) (w : World) (ha : Kd.C (Kd.int .u8) w A a.length a) (hb : Kd.C (Kd.int .u8) w B b.length b) :
  (Extern.BytealgCompare.compare #[.slice A a.length c, .slice B b.length d]).run Tryd.prog w = .ok (.int .i64 (Lib.compareBytes (Lib.bytesOf a) (Lib.bytesOf b))) w := by
 change Sem.run Tryd.prog (do pure (goInt (Extern.BytealgCompare.cmp (← Extern.Bytes.bytesOf (.slice A a.length c)) (← Extern.Bytes.bytesOf (.slice B b.length d))))) w = _
 simp only [Sem.run_bind, bytes_run A c a w ha, bytes_run B d b w hb, Sem.run_pure, Result.andThen]
 rw [Lib.cmp_eq]
 rfl
theorem cmp_le : ∀ a b : List UInt8, decide (0 ≤ Lib.compareBytes a b) = (Op.bytesLess b a || b == a)
 | [], [] => by simp [Lib.compareBytes, Op.bytesLess]
 | [], _ :: _ => by simp [Lib.compareBytes, Op.bytesLess]
 | _ :: _, [] => by simp [Lib.compareBytes, Op.bytesLess]
 | x :: a, y :: b => by
  have ih := cmp_le a b
  unfold Lib.compareBytes
  rw [Op.bytesLess]
  by_cases h1 : x < y
  ·
   rw [if_pos h1]
   have h2 : ¬ y < x := fun h => by rw [UInt8.lt_iff_toNat_lt] at h h1; omega
   have h3 : y ≠ x := fun e => by subst e; exact UInt8.lt_irrefl _ h1
   simp [h2, h3]
  ·
   rw [if_neg h1]
   by_cases h2 : y < x
   ·
    simp [h2]
   ·
    have e : x = y := UInt8.toNat_inj.1 (by rw [UInt8.lt_iff_toNat_lt] at h1 h2; omega)
    subst e
    simp only [h2, if_false, ih]
    simp
set_option maxHeartbeats 1000000 in
set_option maxRecDepth 100000 in
theorem compare_calls (A : Option Addr) (c : Nat) (a : List Int) (B : Option Addr) (d : Nat) (b : List Int) (w : World) (ha : Kd.C (Kd.int .u8) w A a.length a) (hb : Kd.C (Kd.int .u8) w B b.length b) :
  Calls Tryd.prog 50 #[.slice A a.length c, .slice B b.length d] w fun e w' => e = .returned (.int .i64 (Lib.compareBytes (Lib.bytesOf a) (Lib.bytesOf b))) ∧ w' = w := by
 have HX := Aside0.mk (bytealg_Compare_calls A c a B d b w ha hb)
 clear ha hb
 go_enter Tryd.func50, Tryd.ntmps50
 go_wp2_with fail
 rw [run_callFunc_extern (f := 99) Tryd.func99 (by kernel_rfl) (by kernel_rfl) (by kernel_rfl) (e := Extern.BytealgCompare.compare) (by kernel_rfl), HX.out]
 simp only [Result.andThen]
 rw [Oper.upon_value]
 go_wp2_with fail
 go_ret
 exact ⟨rfl, rfl⟩
theorem wrap_dn (i : Nat) (h0 : 0 < i) (h : i ≤ 140737488355328) : wrap64 ((i : Int) - 1) = ((i - 1 : Nat) : Int) := by unfold wrap64; omega
theorem d0_below {B : Nat} {w w' : World} (h : Drawn0 w w') : Below B w w' := by
 obtain ⟨n, rfl⟩ := h.out
 exact pw_below_drewN (Below.refl B w) n
theorem lastFrom_spec : ∀ (l : List Int) (i a : Nat), (lastFrom l i a = a ∧ ∀ j (h : j < l.length), l[j] ≠ 47) ∨ (∃ j, ∃ h : j < l.length, lastFrom l i a = i + j ∧ l[j] = 47 ∧ ∀ k (hk : k < l.length), j < k → l[k] ≠ 47)
 | [], i, a => Or.inl ⟨rfl, fun j h => absurd h (by simp)⟩
 | c :: r, i, a => by
  rw [lastFrom]
  rcases lastFrom_spec r (i + 1) (if c = 47 then i else a) with ⟨h1, h2⟩ | ⟨j, hj, h1, h2, h3⟩
  ·
   by_cases hc : c = 47
   ·
    rw [if_pos hc] at h1
    rw [if_pos hc]
    refine Or.inr ⟨0, by simp, h1, hc, fun k hk h0 => ?_⟩
    obtain ⟨k, rfl⟩ : ∃ m, k = m + 1 := ⟨k - 1, by omega⟩
    exact h2 k (by simpa using hk)
   ·
    rw [if_neg hc] at h1
    rw [if_neg hc]
    refine Or.inl ⟨h1, fun j hj => ?_⟩
    cases j with
    | zero => exact hc
    | succ j => exact h2 j (by simpa using hj)
  ·
   refine Or.inr ⟨j + 1, by simpa using hj, by rw [h1]; omega, h2, fun k hk h0 => ?_⟩
   obtain ⟨k, rfl⟩ : ∃ m, k = m + 1 := ⟨k - 1, by omega⟩
   exact h3 k (by simpa using hk) (by omega)
theorem lib_down (p : List Int) (m : Nat) (hm : m < p.length) (hl : p.length ≤ 2097152) (h1 : p[m] = 47) (h2 : ∀ k (hk : k < p.length), m < k → p[k] ≠ 47) : ∀ (d k : Nat), m + d < p.length → d < k → bytealg_LastIndexByte.l0 k p 47 ((m + d : Nat) : Int) = some (m : Int) := by
 intro d
 induction d with
 | zero =>
  intro k hd hk
  obtain ⟨k, rfl⟩ : ∃ n, k = n + 1 := ⟨k - 1, by omega⟩
  rw [bytealg_LastIndexByte.l0, if_pos (by omega), if_pos (by omega), if_pos (by omega), Nat.add_zero, rd_nat, getD_at p m hm, if_pos h1]
 | succ d ih =>
  intro k hd hk
  obtain ⟨k, rfl⟩ : ∃ n, k = n + 1 := ⟨k - 1, by omega⟩
  rw [bytealg_LastIndexByte.l0, if_pos (by omega), if_pos (by omega), if_pos (by omega), rd_nat, getD_at p _ hd, if_neg (h2 _ hd (by omega)), wrap_dn (m + (d + 1)) (by omega) (by omega)]
  exact ih k (by omega) (by omega)
theorem lib_f (p : List Int) (hl : p.length ≤ 2097152) (h0 : ∃ r, p = 47 :: r) : bytes_LastIndexByte.f 10000000 p 47 = some ((lastFrom p 0 0 : Nat) : Int) := by
 obtain ⟨j, hj, h1, h2, h3⟩ : ∃ j, ∃ h : j < p.length, lastFrom p 0 0 = 0 + j ∧ p[j] = 47 ∧ ∀ k (hk : k < p.length), j < k → p[k] ≠ 47 := by
  rcases lastFrom_spec p 0 0 with ⟨_, h⟩ | h
  ·
   obtain ⟨r, rfl⟩ := h0
   exact absurd rfl (h 0 (by simp))
  ·
   exact h
 rw [h1, Nat.zero_add]
 unfold bytes_LastIndexByte.f bytealg_LastIndexByte.f
 have := lib_down p j hj hl h2 h3 (p.length - 1 - j) 10000000 (by omega) (by omega)
 rw [show j + (p.length - 1 - j) = p.length - 1 by omega] at this
 rw [wrap_dn p.length (by omega) (by omega), this]
 rfl
set_option maxRecDepth 100000 in
theorem str_bytes (p : List Int) (hb : ∀ z ∈ p, 0 ≤ z ∧ z < 256) (hl : p.length ≤ 2097152) (w : World) : ∃ W cap, (convert 9 22 (.string (strOfNums p))).run Tryd.prog w = .ok (.slice (some ⟨w.heap.size, 0, none⟩) p.length cap) W ∧ p.length ≤ cap ∧ Kd.C (Kd.int .u8) W (some ⟨w.heap.size, 0, none⟩) p.length p ∧ Below w.heap.size w W := by
 have e1 := Lib.run_convert_string_bytes (P := Tryd.prog) w 9 22 5 (strOfNums p) Tryd.underlying9 Tryd.underlying22 Tryd.underlying5
 have hs : (strOfNums p).size = p.length := strOfNums_size p
 rw [hs] at e1
 refine ⟨_, _, e1, ?_, ?_, ?_⟩
 ·
  exact grownCap_ge _ _ _ _
 ·
  refine Kd.C_of_reads (d := (0 : Int)) (h1 := fun _ => rfl) ⟨rfl, by omega, fun _ => ⟨_, rfl, fun j hj => ?_⟩⟩
  have := Lib.bytesWorld_cell w 5 (strOfNums p) j (by rw [hs]; exact hj)
  have e2 : (⟨w.heap.size, 0, none⟩ : Addr).add j = ⟨w.heap.size, j, none⟩ := by unfold Addr.add; split <;> simp_all
  rw [e2, this, strOfNums_data]
  congr 2
  rw [List.getD_eq_getElem?_getD, List.getElem?_map, List.getElem?_eq_getElem hj, List.getD_eq_getElem?_getD, List.getElem?_eq_getElem hj]
  have := hb p[j] (List.getElem_mem hj)
  simp only [Option.map_some, Option.getD_some]
  show ((UInt8.ofNat p[j].toNat).toNat : Int) = p[j]
  rw [UInt8.toNat_ofNat']
  omega
 ·
  exact ⟨rfl, rfl, rfl, by rw [Lib.bytesWorld_size]; omega, fun k hk => Lib.bytesWorld_at_old _ _ _ k hk⟩
theorem str_take (p : List Int) (m : Nat) : (strOfNums p).extract 0 m = strOfNums (p.take m) := by
 apply ByteArray.ext
 rw [ByteArray.data_extract]
 apply Array.toList_inj.1
 rw [strOfNums_data]
 have : (strOfNums p).data = ((p.map fun n => UInt8.ofNat n.toNat)).toArray := Array.toList_inj.1 (strOfNums_data p)
 rw [this, List.extract_toArray, List.extract_eq_take_drop]
 simp
set_option maxHeartbeats 2000000 in
set_option maxRecDepth 100000 in
theorem parentOf_calls (p : List Int) (w : World) (hb : ∀ z ∈ p, 0 ≤ z ∧ z < 256) (hl : p.length ≤ 2097152) (h0 : ∃ r, p = 47 :: r) :
  Calls Tryd.prog 54 #[.string (strOfNums p)] w fun e w' => e = .returned (.string (strOfNums (parentL p))) ∧ Below w.heap.size w w' := by
 obtain ⟨W, cap, hcv, hcap, hC, hB⟩ := str_bytes p hb hl w
 have HC := Aside0.mk hC
 have HB := Aside0.mk hB
 have HF := Aside0.mk (lib_f p hl h0)
 have HM := Aside0.mk (show lastFrom p 0 0 ≤ p.length from by
  obtain ⟨r, rfl⟩ := h0
  exact Nat.le_of_lt (lastFrom_lt _ 0 0 _ (by simp) (by simp)))
 have HP := Aside0.mk (show parentL p = if lastFrom p 0 0 = 0 then [47] else p.take (lastFrom p 0 0) from rfl)
 obtain ⟨m, hm⟩ : ∃ m, lastFrom p 0 0 = m := ⟨_, rfl⟩
 rw [hm] at HF HM HP
 have HL := Aside0.mk hl
 have HCAP := Aside0.mk hcap
 clear hm hC hB h0 hb hl hcap
 go_enter Tryd.func54, Tryd.ntmps54
 go_wp2_with fail
 refine (bytes_LastIndexByte.calls 10000000 (some ⟨w.heap.size, 0, none⟩) cap p 47 (m : Int) _ HC.out HCAP.out HF.out).mono ?_
 rintro e w1 ⟨rfl, hb⟩
 have HB1 := Aside0.mk (below_step HB.out (d0_below hb))
 clear hb hcv
 by_cases hm0 : m = 0
 ·
  subst hm0
  go_wp2_with fail
  go_ret
  rw [HP.out, if_pos trivial]
  exact ⟨rfl, HB1.out⟩
 ·
  have d0 : decide (m = 0) = false := decide_eq_false hm0
  have d1 : (m == 0) = false := beq_eq_false_iff_ne.2 hm0
  have hm1 := HM.out
  have c0 : (0 : Int) ≤ (m : Int) := by omega
  have c1 : (m : Int) ≤ (p.length : Int) := by omega
  have hsz : (strOfNums p).size = p.length := strOfNums_size p
  go_wp2_with fail
  go_ret
  rw [HP.out, if_neg hm0, ← str_take]
  exact ⟨rfl, HB1.out⟩
end Go.Proofs.YtbgbocdohadhoaaDoor.Print
