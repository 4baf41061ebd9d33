/- Texts of this session, joined by its own program. -/
import Derived.Deep.CutBlock
import Derived.Deep.RegionLaw
import Derived.Test.YtbgbocdohadhoaaDoorCDS5
namespace Go.Proofs.YtbgbocdohadhoaaDoor.Print
open Go Go.RowKit Go.Proofs.YtbgbocdohadhoaaDoorW.PrintWords Go.Proofs.YtbgbocdohadhoaaDoorW.PrintLast Go.Proofs.YtbgbocdohadhoaaDoorW.PrintMore
set_option linter.unusedVariables false
set_option linter.unusedSimpArgs false
def Ag {α : Type} (F : List Int → Bool → α × List Int × Bool) (R : List Int → Option (α × List Int)) : Prop :=
 (∀ l, (F l true).2.2 = true) ∧ ∀ l, (∀ x ∈ l, 0 ≤ x ∧ x < 256) → (∀ x r, R l = some (x, r) → F l false = (x, r, false) ∧ ∀ x ∈ r, 0 ≤ x ∧ x < 256) ∧ (R l = none → (F l false).2.2 = true)
def pureL {α : Type} (x : α) : List Int → Bool → α × List Int × Bool := fun l b => (x, l, b)
def pureR {α : Type} (x : α) : List Int → Option (α × List Int) := fun l => some (x, l)
def bindL {α β : Type} (F : List Int → Bool → α × List Int × Bool) (G : α → List Int → Bool → β × List Int × Bool) : List Int → Bool → β × List Int × Bool := fun l b => G (F l b).1 (F l b).2.1 (F l b).2.2
def bindR {α β : Type} (R : List Int → Option (α × List Int)) (S : α → List Int → Option (β × List Int)) : List Int → Option (β × List Int) := fun l => (R l).bind fun y => S y.1 y.2
def cntB {β : Type} (G : Nat → List Int → Bool → β × List Int × Bool) : List Int → Bool → β × List Int × Bool := fun l b => G (cntL l b).1.toNat (cntL l b).2.1 (cntL l b).2.2
def cntR {β : Type} (S : Nat → List Int → Option (β × List Int)) : List Int → Option (β × List Int) := fun l => (rv 10 0 0 l).bind fun y => S y.1.toNat y.2
theorem Ag.pure {α : Type} (x : α) : Ag (pureL x) (pureR x) :=
 ⟨fun _ => rfl, fun l hl => ⟨fun x r e => by cases e; exact ⟨rfl, hl⟩, fun e => by cases e⟩⟩
theorem Ag.bind {α β : Type} {F : List Int → Bool → α × List Int × Bool} {R : List Int → Option (α × List Int)} {G : α → List Int → Bool → β × List Int × Bool} {S : α → List Int → Option (β × List Int)} (h : Ag F R) (k : ∀ x, Ag (G x) (S x)) :
  Ag (bindL F G) (bindR R S) := by
 refine ⟨fun l => ?_, fun l hl => ?_⟩
 ·
  show (G (F l true).1 (F l true).2.1 (F l true).2.2).2.2 = true
  rw [h.1 l]
  exact (k _).1 _
 ·
  obtain ⟨a, b⟩ := h.2 l hl
  show (∀ x r, (R l).bind (fun y => S y.1 y.2) = some (x, r) → G (F l false).1 (F l false).2.1 (F l false).2.2 = (x, r, false) ∧ _) ∧ ((R l).bind (fun y => S y.1 y.2) = none → (G (F l false).1 (F l false).2.1 (F l false).2.2).2.2 = true)
  cases hq : R l with
  | none => exact ⟨fun x r e => (by cases e), fun _ => by rw [b hq]; exact (k _).1 _⟩
  | some y =>
   obtain ⟨x, r⟩ := y
   obtain ⟨e1, hr⟩ := a x r hq
   rw [e1]
   exact (k x).2 r hr
theorem Ag.num : Ag (numL 10 0 0) (rv 10 0 0) :=
 ⟨fun l => numL_bad 10 0 0 l, fun l hl => ⟨fun x r e => ⟨(numL_rv 10 0 0 l hl).1 x r e, rv_bytes hl e⟩, (numL_rv 10 0 0 l hl).2⟩⟩
theorem Ag.txt : Ag txtL rdT := ⟨txtL_bad, fun l hl => ⟨fun x r e => ⟨(txtL_rd l hl).1 x r e, rdT_bytes hl e⟩, (txtL_rd l hl).2⟩⟩
def bytL (l : List Int) (b : Bool) : Int × List Int × Bool := (l.headD 0, l.tail, b || l.isEmpty)
theorem Ag.byt : Ag bytL rdB := by
 refine ⟨fun l => rfl, fun l hl => ?_⟩
 cases l with
 | nil => exact ⟨fun x r e => (by cases e), fun _ => rfl⟩
 | cons c q =>
  refine ⟨fun x r e => ?_, fun e => (by cases e)⟩
  cases e
  exact ⟨rfl, fun x hx => hl x (List.mem_cons_of_mem _ hx)⟩
theorem Ag.cnt {β : Type} {G : Nat → List Int → Bool → β × List Int × Bool} {S : Nat → List Int → Option (β × List Int)} (k : ∀ n, Ag (G n) (S n)) (hS : ∀ n l, l.length < n → S n l = none) :
  Ag (cntB G) (cntR S) := by
 refine ⟨fun l => ?_, fun l hl => ?_⟩
 ·
  show (G (cntL l true).1.toNat (cntL l true).2.1 (cntL l true).2.2).2.2 = true
  rw [cntL_bad l]
  exact (k _).1 _
 ·
  obtain ⟨a, b⟩ := numL_rv 10 0 0 l hl
  show (∀ x r, (rv 10 0 0 l).bind (fun y => S y.1.toNat y.2) = some (x, r) → G (cntL l false).1.toNat (cntL l false).2.1 (cntL l false).2.2 = (x, r, false) ∧ _) ∧ ((rv 10 0 0 l).bind (fun y => S y.1.toNat y.2) = none → (G (cntL l false).1.toNat (cntL l false).2.1 (cntL l false).2.2).2.2 = true)
  cases hq : rv 10 0 0 l with
  | none =>
   refine ⟨fun x r e => (by cases e), fun _ => ?_⟩
   have hb : (cntL l false).2.2 = true := by
    unfold cntL
    split
    ·
     rfl
    ·
     exact b hq
   rw [hb]
   exact (k _).1 _
  | some y =>
   obtain ⟨n, r⟩ := y
   have e1 := a n r hq
   rw [Option.bind_some]
   have e2 : cntL l false = if (r.length : Int) < n then (0, r, true) else (n, r, false) := by unfold cntL; rw [e1]
   rw [e2]
   have hr := rv_bytes hl hq
   by_cases hlt : (r.length : Int) < n
   ·
    rw [if_pos hlt, hS n.toNat r (by omega)]
    exact ⟨fun x r e => (by cases e), fun _ => (k _).1 _⟩
   ·
    rw [if_neg hlt]
    exact (k _).2 r hr
def Le {α : Type} (R : List Int → Option (α × List Int)) : Prop := ∀ l x r, R l = some (x, r) → r.length ≤ l.length
def Lt {α : Type} (R : List Int → Option (α × List Int)) : Prop := ∀ l x r, R l = some (x, r) → r.length < l.length
theorem Lt.le {α : Type} {R : List Int → Option (α × List Int)} (h : Lt R) : Le R := fun l x r e => Nat.le_of_lt (h l x r e)
theorem Le.pure {α : Type} (x : α) : Le (pureR x) := fun l y r e => by cases e; exact Nat.le_refl _
theorem Le.bind {α β : Type} {R : List Int → Option (α × List Int)} {S : α → List Int → Option (β × List Int)} (h : Le R) (k : ∀ x, Le (S x)) : Le (bindR R S) := by
 intro l x r e
 obtain ⟨⟨y, q⟩, h1, h2⟩ := Option.bind_eq_some_iff.mp e
 exact Nat.le_trans (k y q x r h2) (h l y q h1)
theorem Lt.bind {α β : Type} {R : List Int → Option (α × List Int)} {S : α → List Int → Option (β × List Int)} (h : Lt R) (k : ∀ x, Le (S x)) : Lt (bindR R S) := by
 intro l x r e
 obtain ⟨⟨y, q⟩, h1, h2⟩ := Option.bind_eq_some_iff.mp e
 exact Nat.lt_of_le_of_lt (k y q x r h2) (h l y q h1)
theorem Le.cnt {β : Type} {S : Nat → List Int → Option (β × List Int)} (k : ∀ n, Le (S n)) (hn : Lt (rv 10 0 0)) : Le (cntR S) := by
 intro l x r e
 obtain ⟨⟨y, q⟩, h1, h2⟩ := Option.bind_eq_some_iff.mp e
 exact Nat.le_trans (k _ q x r h2) (Nat.le_of_lt (hn l y q h1))
theorem Lt.num : Lt (rv 10 0 0) := by
 intro l x r e
 obtain ⟨k, rfl, h0, h1⟩ := rv_sub _ _ _ _ _ _ e
 rw [List.length_drop]
 omega
theorem Lt.txt : Lt rdT := by
 intro l x r e
 unfold rdT at e
 obtain ⟨⟨y, q⟩, h1, h2⟩ := Option.bind_eq_some_iff.mp e
 have := Lt.num l y q h1
 simp only at h2
 split at h2
 ·
  cases h2
 ·
  cases h2
  rw [List.length_drop]
  omega
theorem Lt.byt : Lt rdB := by
 intro l x r e
 cases l with
 | nil => cases e
 | cons c q => cases e; simp
def idsL : Nat → List Int → Bool → List Int × List Int × Bool
 | 0, l, b => ([], l, b)
 | n + 1, l, b => bindL (numL 10 0 0) (fun x => bindL (idsL n) fun y => pureL (x :: y)) l b
def rdIds : Nat → List Int → Option (List Int × List Int)
 | 0, l => some ([], l)
 | n + 1, l => bindR (rv 10 0 0) (fun x => bindR (rdIds n) fun y => pureR (x :: y)) l
theorem Ag.ids : ∀ n, Ag (idsL n) (rdIds n)
 | 0 => Ag.pure []
 | n + 1 => Ag.bind Ag.num fun x => Ag.bind (Ag.ids n) fun y => Ag.pure (x :: y)
theorem Le.ids : ∀ n, Le (rdIds n)
 | 0 => Le.pure []
 | n + 1 => Le.bind Lt.num.le fun x => Le.bind (Le.ids n) fun y => Le.pure (x :: y)
theorem ids_short : ∀ n l, l.length < n → rdIds n l = none
 | 0, l, h => by omega
 | n + 1, l, h => by
  simp only [rdIds, bindR]
  cases hq : rv 10 0 0 l with
  | none => rfl
  | some y =>
   have := Lt.num l y.1 y.2 hq
   rw [Option.bind_some, ids_short n y.2 (by omega)]
   rfl
def nodL : List Int → Bool → No × List Int × Bool := bindL txtL fun p => bindL txtL fun v => bindL (numL 10 0 0) fun o => bindL bytL fun c => cntB fun n => bindL (idsL n) fun h => bindL (numL 10 0 0) fun e => bindL (numL 10 0 0) fun g => pureL (⟨p, v, o, c, h, e, g, []⟩ : No)
def rdNo : List Int → Option (No × List Int) := bindR rdT fun p => bindR rdT fun v => bindR (rv 10 0 0) fun o => bindR rdB fun c => cntR fun n => bindR (rdIds n) fun h => bindR (rv 10 0 0) fun e => bindR (rv 10 0 0) fun g => pureR (⟨p, v, o, c, h, e, g, []⟩ : No)
theorem Ag.nod : Ag nodL rdNo :=
 Ag.bind Ag.txt fun p => Ag.bind Ag.txt fun v => Ag.bind Ag.num fun o => Ag.bind Ag.byt fun c => Ag.cnt (fun n => Ag.bind (Ag.ids n) fun h => Ag.bind Ag.num fun e => Ag.bind Ag.num fun g => Ag.pure (⟨p, v, o, c, h, e, g, []⟩ : No)) (fun n l hl => by simp only [bindR, ids_short n l hl, Option.bind_none])
theorem Lt.nod : Lt rdNo :=
 Lt.bind Lt.txt fun p => Le.bind Lt.txt.le fun v => Le.bind Lt.num.le fun o => Le.bind Lt.byt.le fun c => Le.cnt (fun n => Le.bind (Le.ids n) fun h => Le.bind Lt.num.le fun e => Le.bind Lt.num.le fun g => Le.pure (⟨p, v, o, c, h, e, g, []⟩ : No)) Lt.num
def nodsL : Nat → List Int → Bool → List No × List Int × Bool
 | 0, l, b => ([], l, b)
 | n + 1, l, b => if b = true then ([], l, b) else bindL nodL (fun x => bindL (nodsL n) fun y => pureL (x :: y)) l b
def rdNos : Nat → List Int → Option (List No × List Int)
 | 0, l => some ([], l)
 | n + 1, l => bindR rdNo (fun x => bindR (rdNos n) fun y => pureR (x :: y)) l
theorem Ag.nods : ∀ n, Ag (nodsL n) (rdNos n)
 | 0 => Ag.pure []
 | n + 1 => by
  have h : Ag (bindL nodL (fun x => bindL (nodsL n) fun y => pureL (x :: y))) (rdNos (n + 1)) := Ag.bind Ag.nod fun x => Ag.bind (Ag.nods n) fun y => Ag.pure (x :: y)
  refine ⟨fun l => ?_, fun l hl => ?_⟩
  ·
   rw [nodsL, if_pos rfl]
  ·
   rw [nodsL, if_neg (by simp)]
   exact h.2 l hl
theorem nods_short : ∀ n l, l.length < n → rdNos n l = none
 | 0, l, h => by omega
 | n + 1, l, h => by
  simp only [rdNos, bindR]
  cases hq : rdNo l with
  | none => rfl
  | some y =>
   have := Lt.nod l y.1 y.2 hq
   rw [Option.bind_some, nods_short n y.2 (by omega)]
   rfl
def stL : List Int → Bool → (Int × Int × Int × List Int × List No) × List Int × Bool := bindL (numL 10 0 0) fun e => bindL (numL 10 0 0) fun g => bindL (numL 10 0 0) fun n => cntB fun k => bindL (idsL k) fun h => cntB fun j => bindL (nodsL j) fun q => pureL (e, g, n, h, q)
def rdSt : List Int → Option ((Int × Int × Int × List Int × List No) × List Int) := bindR (rv 10 0 0) fun e => bindR (rv 10 0 0) fun g => bindR (rv 10 0 0) fun n => cntR fun k => bindR (rdIds k) fun h => cntR fun j => bindR (rdNos j) fun q => pureR (e, g, n, h, q)
theorem Ag.st : Ag stL rdSt :=
 Ag.bind Ag.num fun e => Ag.bind Ag.num fun g => Ag.bind Ag.num fun n => Ag.cnt (fun k => Ag.bind (Ag.ids k) fun h => Ag.cnt (fun j => Ag.bind (Ag.nods j) fun q => Ag.pure (e, g, n, h, q)) (fun j l hl => by simp only [bindR, nods_short j l hl, Option.bind_none])) (fun k l hl => by simp only [bindR, ids_short k l hl, Option.bind_none])
def seI (id : Int) : Se := ⟨id, 0, []⟩
def okB (l : List Int) (y : Int × Int × Int × List Int × List No) : Bool := validB y.1 y.2.1 y.2.2.1 0 (y.2.2.2.1.map seI) y.2.2.2.2 && ((strOfNums (encSt y.1 y.2.1 y.2.2.1 (y.2.2.2.1.map seI) y.2.2.2.2)).toList == (strOfNums l).toList)
def corA : (Int × Int × Int × List Int × List No) × Int := ((0, 0, 0, [], []), 13)
def decY (l : List Int) : Option ((Int × Int × Int × List Int × List No) × List Int) → (Int × Int × Int × List Int × List No) × Int
 | none => corA
 | some y => if okB l y.1 = true then (y.1, 0) else corA
def decA (l : List Int) : (Int × Int × Int × List Int × List No) × Int := decY l (rdSt l)
def cutR {β : Type} (c : Nat) (S : Nat → List Int → Option (β × List Int)) : List Int → Option (β × List Int) := bindR (rv 10 0 0) fun k l => if (c : Int) < k then none else S k.toNat l
def cNo : List Int → Option (No × List Int) := bindR rdT fun p => bindR rdT fun v => bindR (rv 10 0 0) fun o => bindR rdB fun c => cutR 50 fun n => bindR (rdIds n) fun h => bindR (rv 10 0 0) fun e => bindR (rv 10 0 0) fun g => pureR (⟨p, v, o, c, h, e, g, []⟩ : No)
def cNos : Nat → List Int → Option (List No × List Int)
 | 0 => pureR []
 | n + 1 => bindR cNo (fun x => bindR (cNos n) fun y => pureR (x :: y))
def cSt : List Int → Option ((Int × Int × Int × List Int × List No) × List Int) := bindR (rv 10 0 0) fun e => bindR (rv 10 0 0) fun g => bindR (rv 10 0 0) fun n => cutR 50 fun k => bindR (rdIds k) fun h => cutR 200 fun j => bindR (cNos j) fun q => pureR (e, g, n, h, q)
def Rl {α : Type} (R' R : List Int → Option (α × List Int)) (V : α → Prop) : Prop := ∀ l, (∀ y, R' l = some y → R l = some y) ∧ (R' l = none → ∀ x r, R l = some (x, r) → ¬ V x)
theorem Rl.refl {α : Type} (R : List Int → Option (α × List Int)) (V : α → Prop) : Rl R R V := fun l => ⟨fun _ h => h, fun h x r e => by rw [h] at e; cases e⟩
theorem Rl.bind2 {α β : Type} {R' R : List Int → Option (α × List Int)} {V : α → Prop} {S' S : α → List Int → Option (β × List Int)} {W : β → Prop} (h : Rl R' R V) (k : ∀ x, Rl (S' x) (S x) W) (hV : ∀ x, ¬ V x → ∀ l y r, S x l = some (y, r) → ¬ W y) : Rl (bindR R' S') (bindR R S) W := by
 intro l
 obtain ⟨a, b⟩ := h l
 unfold bindR
 cases hq : R' l with
 | some y => rw [a y hq]; exact k y.1 y.2
 | none =>
  refine ⟨fun y e => (by cases e), fun _ x r e => ?_⟩
  obtain ⟨⟨z, q⟩, h1, h2⟩ := Option.bind_eq_some_iff.mp e
  exact hV z (b hq z q h1) q x r h2
theorem Rl.bind {α β : Type} {R : List Int → Option (α × List Int)} {S' S : α → List Int → Option (β × List Int)} {W : β → Prop} (k : ∀ x, Rl (S' x) (S x) W) : Rl (bindR R S') (bindR R S) W :=
 Rl.bind2 (Rl.refl R fun _ => True) k (fun _ h => absurd trivial h)
theorem Rl.cut {β : Type} {S' S : Nat → List Int → Option (β × List Int)} {W : β → Prop} (c : Nat) (k : ∀ n, Rl (S' n) (S n) W) (hc : ∀ n : Nat, c < n → ∀ l y r, S n l = some (y, r) → ¬ W y) : Rl (cutR c S') (cntR S) W := by
 intro l
 unfold cutR cntR bindR
 cases hq : rv 10 0 0 l with
 | none => exact ⟨fun y e => (by cases e), fun _ x r e => (by cases e)⟩
 | some y =>
  rw [Option.bind_some, Option.bind_some]
  simp only
  by_cases h : (c : Int) < y.1
  ·
   rw [if_pos h]
   exact ⟨fun y e => (by cases e), fun _ x r e => hc y.1.toNat (by omega) y.2 x r e⟩
  ·
   rw [if_neg h]
   exact k y.1.toNat y.2
theorem ids_count : ∀ n l h r, rdIds n l = some (h, r) → h.length = n
 | 0, l, h, r, e => by cases e; rfl
 | n + 1, l, h, r, e => by
  obtain ⟨⟨x, q⟩, h1, h2⟩ := Option.bind_eq_some_iff.mp (show (rv 10 0 0 l).bind (fun y => (rdIds n y.2).bind fun z => some (y.1 :: z.1, z.2)) = some (h, r) from e)
  obtain ⟨⟨y, q2⟩, h3, h4⟩ := Option.bind_eq_some_iff.mp h2
  cases h4
  rw [List.length_cons, ids_count n q y _ h3]
theorem nods_count : ∀ n l h r, rdNos n l = some (h, r) → h.length = n
 | 0, l, h, r, e => by cases e; rfl
 | n + 1, l, h, r, e => by
  obtain ⟨⟨x, q⟩, h1, h2⟩ := Option.bind_eq_some_iff.mp (show (rdNo l).bind (fun y => (rdNos n y.2).bind fun z => some (y.1 :: z.1, z.2)) = some (h, r) from e)
  obtain ⟨⟨y, q2⟩, h3, h4⟩ := Option.bind_eq_some_iff.mp h2
  cases h4
  rw [List.length_cons, nods_count n q y _ h3]
theorem Rl.nod : Rl cNo rdNo (fun x => x.f4.length ≤ 50) :=
 Rl.bind fun p => Rl.bind fun v => Rl.bind fun o => Rl.bind fun c => Rl.cut 50 (fun n => Rl.refl _ _) (fun n hn l y r e => by
  obtain ⟨⟨x, q⟩, h1, h2⟩ := Option.bind_eq_some_iff.mp e
  obtain ⟨⟨x2, q2⟩, h3, h4⟩ := Option.bind_eq_some_iff.mp h2
  obtain ⟨⟨x3, q3⟩, h5, h6⟩ := Option.bind_eq_some_iff.mp h4
  have hx := ids_count n l x q h1
  cases h6
  show ¬ x.length ≤ 50
  omega)
theorem Rl.nods : ∀ n, Rl (cNos n) (rdNos n) (fun ys => ∀ x ∈ ys, x.f4.length ≤ 50)
 | 0 => Rl.refl _ _
 | n + 1 => Rl.bind2 Rl.nod (fun x => Rl.bind2 (Rl.nods n) (fun y => Rl.refl _ _) (fun y hy l z r e hz => by cases e; exact hy fun a ha => hz a (List.mem_cons_of_mem _ ha))) (fun x hx l z r e hz => by
  obtain ⟨⟨y, q⟩, h1, h2⟩ := Option.bind_eq_some_iff.mp e
  cases h2
  exact hx (hz x (List.mem_cons_self ..)))
def fewP (y : Int × Int × Int × List Int × List No) : Prop := y.2.2.2.1.length ≤ 50 ∧ y.2.2.2.2.length ≤ 200 ∧ ∀ x ∈ y.2.2.2.2, x.f4.length ≤ 50
theorem Rl.st : Rl cSt rdSt fewP :=
 Rl.bind fun e => Rl.bind fun g => Rl.bind fun n => Rl.cut 50 (fun k => Rl.bind fun h => Rl.cut 200 (fun j => Rl.bind2 (Rl.nods j) (fun q => Rl.refl _ _) (fun q hq l z r e hz => by cases e; exact hq hz.2.2)) (fun j hj l y r e hy => by
  obtain ⟨⟨x, q⟩, h1, h2⟩ := Option.bind_eq_some_iff.mp e
  have hx := nods_count j l x q h1
  cases h2
  have : x.length ≤ 200 := hy.2.1
  omega)) (fun k hk l y r e hy => by
  obtain ⟨⟨x, q⟩, h1, h2⟩ := Option.bind_eq_some_iff.mp e
  obtain ⟨⟨x2, q2⟩, h3, h4⟩ := Option.bind_eq_some_iff.mp h2
  obtain ⟨⟨x3, q3⟩, h5, h6⟩ := Option.bind_eq_some_iff.mp h4
  have hx := ids_count k l x q h1
  cases h6
  have : x.length ≤ 50 := hy.1
  omega)
theorem asc_few : ∀ (l ys : List Int), l.Pairwise (· < ·) → (∀ x ∈ l, x ∈ ys) → l.length ≤ ys.length
 | [], ys, _, _ => Nat.zero_le _
 | x :: r, ys, hp, hm => by
  rw [List.pairwise_cons] at hp
  have hx := hm x (List.mem_cons_self ..)
  have h1 := asc_few r (ys.erase x) hp.2 (fun z hz => by
   have h2 := hp.1 z hz
   exact (List.mem_erase_of_ne (by omega)).2 (hm z (List.mem_cons_of_mem _ hz)))
  rw [List.length_erase_of_mem hx] at h1
  have : 0 < ys.length := List.length_pos_of_mem hx
  rw [List.length_cons]
  omega
theorem asc_pair (l : List Int) (h : ∀ j (hj : j + 1 < l.length), l[j] < l[j + 1]) : l.Pairwise (· < ·) := by
 rw [List.pairwise_iff_getElem]
 intro i j hi hj hij
 obtain ⟨d, rfl⟩ : ∃ d, j = i + 1 + d := ⟨j - i - 1, by omega⟩
 induction d with
 | zero => exact h i (by omega)
 | succ d ih =>
  have h1 := ih (by omega) (by omega)
  have h2 := h (i + 1 + d) (by omega)
  exact Int.lt_trans h1 h2
theorem ids_few {xs : List Se} {l : List Int} (h : idsB xs l = true) : l.length ≤ xs.length := by
 have h' := (allI_iff _ l 0).1 h
 have hlm : (xs.map (·.f0)).length = xs.length := List.length_map ..
 rw [← hlm]
 refine asc_few l (xs.map (·.f0)) (asc_pair l fun j hj => ?_) (fun x hx => ?_)
 ·
  have := h' (j + 1) hj
  simp only [Nat.zero_add, Bool.and_eq_true, Bool.or_eq_true, beq_iff_eq, decide_eq_true_eq, Nat.add_sub_cancel] at this
  rcases this.2 with h1 | h1
  ·
   omega
  ·
   rw [List.getD_eq_getElem?_getD, List.getElem?_eq_getElem (by omega)] at h1
   exact h1
 ·
  obtain ⟨j, hj, rfl⟩ := List.mem_iff_getElem.1 hx
  have := h' j hj
  simp only [Nat.zero_add, Bool.and_eq_true] at this
  obtain ⟨z, hz, he⟩ := List.any_eq_true.1 this.1
  exact List.mem_map.2 ⟨z, hz, by simpa using he⟩
theorem valid_few {e g n t : Int} {xs : List Se} {ns : List No} (h : validB e g n t xs ns = true) : xs.length ≤ 50 ∧ ns.length ≤ 200 ∧ ∀ x ∈ ns, x.f4.length ≤ 50 := by
 unfold validB headB at h
 simp only [Bool.and_eq_true, decide_eq_true_eq] at h
 obtain ⟨⟨⟨⟨_, h1⟩, h2⟩, _⟩, h3⟩ := h
 refine ⟨h1, h2, fun x hx => ?_⟩
 obtain ⟨j, hj, rfl⟩ := List.mem_iff_getElem.1 hx
 have := (allI_iff _ ns 0).1 h3 j hj
 unfold nodeB at this
 simp only [Bool.and_eq_true] at this
 exact Nat.le_trans (ids_few this.1.1.2) h1
theorem cut_dec (l : List Int) : decY l (cSt l) = decA l := by
 obtain ⟨a, b⟩ := Rl.st l
 unfold decA
 cases hq : cSt l with
 | some y => rw [a y hq]
 | none =>
  cases hr : rdSt l with
  | none => rfl
  | some y =>
   obtain ⟨x, r⟩ := y
   have hn := b hq x r hr
   show corA = if okB l x = true then (x, 0) else corA
   rw [if_neg]
   intro ho
   unfold okB at ho
   rw [Bool.and_eq_true] at ho
   have := valid_few ho.1
   rw [List.length_map] at this
   exact hn this
def Cs {α : Type} (R : List Int → Option (α × List Int)) (P : α → Nat → Prop) : Prop := ∀ l x r, (∀ z ∈ l, 0 ≤ z ∧ z < 256) → R l = some (x, r) → ∃ k, k + r.length = l.length ∧ P x k ∧ ∀ z ∈ r, 0 ≤ z ∧ z < 256
theorem Cs.pure {α : Type} {x : α} {P : α → Nat → Prop} (h : P x 0) : Cs (pureR x) P := fun l y r hl e => by cases e; exact ⟨0, by omega, h, hl⟩
theorem Cs.bind {α β : Type} {R : List Int → Option (α × List Int)} {S : α → List Int → Option (β × List Int)} {P : α → Nat → Prop} {Q : β → Nat → Prop} (h : Cs R P) (k : ∀ x j, P x j → Cs (S x) fun y i => Q y (j + i)) : Cs (bindR R S) Q := by
 intro l x r hl e
 obtain ⟨⟨y, q⟩, h1, h2⟩ := Option.bind_eq_some_iff.mp e
 obtain ⟨j, hj, hp, hb⟩ := h l y q hl h1
 obtain ⟨i, hi, hq, hc⟩ := k y j hp q x r hb h2
 exact ⟨j + i, by omega, hq, hc⟩
def u64P (x : Int) : Prop := 0 ≤ x ∧ x < 18446744073709551616
theorem Cs.num : Cs (rv 10 0 0) (fun x k => u64P x ∧ 1 ≤ k) := by
 intro l x r hl e
 obtain ⟨k, rfl, h0, h1⟩ := rv_sub _ _ _ _ _ _ e
 exact ⟨k, by rw [List.length_drop]; omega, ⟨rv_nonneg _ _ _ _ _ _ e, h0⟩, rv_bytes hl e⟩
theorem Cs.cnt {β : Type} {S : Nat → List Int → Option (β × List Int)} {Q : β → Nat → Prop} (k : ∀ (n : Int) (j : Nat), u64P n ∧ 1 ≤ j → Cs (S n.toNat) fun y i => Q y (j + i)) : Cs (cntR S) Q := by
 have h := Cs.bind (S := fun n => S n.toNat) Cs.num k
 exact h
theorem Cs.txt : Cs rdT (fun p k => (∀ z ∈ p, 0 ≤ z ∧ z < 256) ∧ p.length + 1 ≤ k) := by
 intro l x r hl e
 have hb := rdT_bytes hl e
 unfold rdT at e
 obtain ⟨⟨y, q⟩, h1, h2⟩ := Option.bind_eq_some_iff.mp e
 obtain ⟨k, rfl, h3, h4⟩ := rv_sub _ _ _ _ _ _ h1
 simp only at h2
 split at h2
 ·
  cases h2
 ·
  rename_i hlt
  rw [List.length_drop] at hlt
  cases h2
  refine ⟨k + y.toNat, ?_, ⟨fun z hz => hl z (List.mem_of_mem_drop (List.mem_of_mem_take hz)), ?_⟩, hb⟩
  ·
   simp only [List.length_drop]; omega
  ·
   rw [List.length_take, List.length_drop]; omega
theorem Cs.byt : Cs rdB (fun x k => (0 ≤ x ∧ x < 256) ∧ 1 ≤ k) := by
 intro l x r hl e
 cases l with
 | nil => cases e
 | cons c q =>
  cases e
  exact ⟨1, by rw [List.length_cons]; omega, ⟨hl _ (List.mem_cons_self ..), Nat.le_refl _⟩, fun z hz => hl z (List.mem_cons_of_mem _ hz)⟩
theorem Cs.ids : ∀ n, Cs (rdIds n) (fun y k => (∀ z ∈ y, u64P z) ∧ y.length ≤ k)
 | 0 => Cs.pure ⟨fun z h => (by cases h), Nat.le_refl _⟩
 | n + 1 => Cs.bind Cs.num fun x j hx => Cs.bind (Cs.ids n) fun y i hy => Cs.pure ⟨fun z hz => (by
   rcases List.mem_cons.1 hz with rfl | h
   ·
    exact hx.1
   ·
    exact hy.1 z h), (by have := hx.2; have := hy.2; rw [List.length_cons]; omega)⟩
def gdNo (x : No) : Prop := (((∀ z ∈ x.f0, 0 ≤ z ∧ z < 256) ∧ (∀ z ∈ x.f4, u64P z)) ∧ (u64P x.f2 ∧ u64P x.f5 ∧ u64P x.f6)) ∧ x.f7 = []
theorem Cs.nod : Cs rdNo (fun x k => gdNo x ∧ lnNo x ≤ k) :=
 Cs.bind Cs.txt fun p j1 h1 => Cs.bind Cs.txt fun v j2 h2 => Cs.bind Cs.num fun o j3 h3 => Cs.bind Cs.byt fun c j4 h4 => Cs.cnt fun n j5 h5 => Cs.bind (Cs.ids _) fun h j6 h6 => Cs.bind Cs.num fun e j7 h7 => Cs.bind Cs.num fun g j8 h8 => Cs.pure ⟨⟨⟨⟨h1.1, h6.1⟩, h3.1, h7.1, h8.1⟩, rfl⟩, by
  have := h1.2; have := h2.2; have := h3.2; have := h4.2; have := h5.2; have := h6.2; have := h7.2; have := h8.2
  unfold lnNo
  simp only [List.length_nil]
  omega⟩
theorem Cs.nods : ∀ n, Cs (rdNos n) (fun y k => (∀ x ∈ y, gdNo x) ∧ sumL lnNo y ≤ k)
 | 0 => Cs.pure ⟨fun z h => (by cases h), Nat.le_refl _⟩
 | n + 1 => Cs.bind Cs.nod fun x j hx => Cs.bind (Cs.nods n) fun y i hy => Cs.pure ⟨fun z hz => (by
   rcases List.mem_cons.1 hz with rfl | h
   ·
    exact hx.1
   ·
    exact hy.1 z h), (by have := hx.2; have := hy.2; simp only [sumL]; omega)⟩
def gdSt (y : Int × Int × Int × List Int × List No) : Prop := (u64P y.1 ∧ u64P y.2.1 ∧ u64P y.2.2.1) ∧ (∀ z ∈ y.2.2.2.1, u64P z) ∧ ∀ x ∈ y.2.2.2.2, gdNo x
theorem Cs.st : Cs rdSt (fun y k => gdSt y ∧ y.2.2.2.1.length + sumL lnNo y.2.2.2.2 ≤ k) :=
 Cs.bind Cs.num fun e j1 h1 => Cs.bind Cs.num fun g j2 h2 => Cs.bind Cs.num fun n j3 h3 => Cs.cnt fun k j4 h4 => Cs.bind (Cs.ids _) fun h j5 h5 => Cs.cnt fun j j6 h6 => Cs.bind (Cs.nods _) fun q j7 h7 => Cs.pure ⟨⟨⟨h1.1, h2.1, h3.1⟩, h5.1, h7.1⟩, by
  have := h5.2; have := h7.2
  show h.length + sumL lnNo q ≤ _
  omega⟩
theorem sum_seI (ids : List Int) : sumL lnSe (ids.map seI) = 2 * ids.length := by
 induction ids with
 | nil => rfl
 | cons x r ih =>
  have h : lnSe (seI x) = 2 := rfl
  rw [List.map_cons, sumL, h, ih, List.length_cons]
  omega
theorem mem_lnNo {x : No} {ns : List No} (h : x ∈ ns) : lnNo x ≤ sumL lnNo ns := by
 induction ns with
 | nil => cases h
 | cons y r ih =>
  simp only [sumL]
  rcases List.mem_cons.1 h with rfl | h
  ·
   omega
  ·
   have := ih h; omega
theorem len_lnNo (ns : List No) : ns.length ≤ sumL lnNo ns := by
 induction ns with
 | nil => exact Nat.le_refl _
 | cons y r ih =>
  have : 1 ≤ lnNo y := by unfold lnNo; omega
  simp only [sumL, List.length_cons]
  omega
structure OkS (e g n : Int) (X : List Se) (ns : List No) : Prop where
 s : SmS X ns
 r : RgT X ns
 h : (0 ≤ e ∧ e < 18446744073709551616) ∧ (0 ≤ g ∧ g < 18446744073709551616) ∧ (0 ≤ n ∧ n < 18446744073709551616)
 m : sumL lnSe X + sumL lnNo ns ≤ 4194305
theorem okS_of {y : Int × Int × Int × List Int × List No} (h : gdSt y) (hs : y.2.2.2.1.length + sumL lnNo y.2.2.2.2 ≤ 2097152) : OkS y.1 y.2.1 y.2.2.1 (y.2.2.2.1.map seI) y.2.2.2.2 := by
 obtain ⟨e, g, n, ids, ns⟩ := y
 simp only at hs ⊢
 obtain ⟨hh, hi, hn⟩ := h
 simp only at hh hi hn
 have hl := len_lnNo ns
 refine ⟨⟨by rw [List.length_map]; omega, by omega, fun x hx => ?_, fun x hx => ?_⟩, ⟨fun x hx => ?_, fun x hx => ?_, fun x hx => ?_⟩, hh, by rw [sum_seI]; omega⟩
 ·
  obtain ⟨z, hz, rfl⟩ := List.mem_map.1 hx
  exact ⟨Nat.zero_le _, fun y hy => by cases hy⟩
 ·
  have h1 := hn x hx
  have h2 : x.f0.length + x.f1.length + 4 + x.f4.length + x.f7.length ≤ sumL lnNo ns := mem_lnNo hx
  have h3 : x.f7.length = 0 := by rw [h1.2]; rfl
  exact ⟨⟨⟨by omega, h1.1.1.1⟩, by omega⟩, by omega, by omega⟩
 ·
  obtain ⟨z, hz, rfl⟩ := List.mem_map.1 hx
  exact hi z hz
 ·
  have h1 := hn x hx
  exact ⟨h1.1.2.1, h1.1.1.2, fun z hz => by rw [h1.2] at hz; cases hz⟩
 ·
  have h1 := hn x hx
  exact h1.1.2.2
theorem rdSt_ok {l : List Int} (hb : ∀ z ∈ l, 0 ≤ z ∧ z < 256) (hl : l.length ≤ 2097152) {y : Int × Int × Int × List Int × List No} {r : List Int} (h : rdSt l = some (y, r)) : OkS y.1 y.2.1 y.2.2.1 (y.2.2.2.1.map seI) y.2.2.2.2 := by
 obtain ⟨k, hk, hp, _⟩ := Cs.st l y r hb h
 exact okS_of hp.1 (by have := hp.2; omega)
theorem decA_ok {l : List Int} (hb : ∀ z ∈ l, 0 ≤ z ∧ z < 256) (hl : l.length ≤ 2097152) : OkS (decA l).1.1 (decA l).1.2.1 (decA l).1.2.2.1 ((decA l).1.2.2.2.1.map seI) (decA l).1.2.2.2.2 := by
 have h0 : OkS 0 0 0 (([] : List Int).map seI) ([] : List No) := okS_of (y := (0, 0, 0, [], [])) ⟨⟨⟨by decide, by decide⟩, ⟨by decide, by decide⟩, ⟨by decide, by decide⟩⟩, fun z h => (by cases h), fun z h => (by cases h)⟩ (by decide)
 unfold decA
 cases hq : rdSt l with
 | none => exact h0
 | some y =>
  unfold decY
  simp only
  split
  ·
   exact rdSt_ok (y := y.1) (r := y.2) hb hl hq
  ·
   exact h0
theorem st_dec {l : List Int} (hb : ∀ z ∈ l, 0 ≤ z ∧ z < 256) {y : Int × Int × Int × List Int × List No} {r : List Int} {bd : Bool} (h : stL l false = (y, r, bd)) : rdSt l = if bd = true then none else some (y, r) := by
 obtain ⟨a, b⟩ := Ag.st.2 l hb
 cases hq : rdSt l with
 | none =>
  have := b hq
  rw [h] at this
  rw [if_pos this]
 | some z =>
  have := (a z.1 z.2 hq).1
  rw [h] at this
  obtain ⟨h1, h2⟩ := Prod.mk.inj this
  obtain ⟨h3, h4⟩ := Prod.mk.inj h2
  subst h1 h3 h4
  rfl
def lax {α : Type} (z : α) (R : List Int → Option (α × List Int)) (o : Option (List Int)) : α × Option (List Int) := match o.bind R with
 | none => (z, none)
 | some y => (y.1, some y.2)
theorem lax_step {α β : Type} (z : α) (R : List Int → Option (α × List Int)) (S : α → List Int → Option (β × List Int)) (o : Option (List Int)) : o.bind (bindR R S) = (lax z R o).2.bind (S (lax z R o).1) := by
 cases o with
 | none => rfl
 | some l =>
  show (R l).bind (fun y => S y.1 y.2) = _
  unfold lax
  rw [Option.bind_some]
  cases R l with
  | none => rfl
  | some y => rfl
theorem lax_cut {β : Type} (c : Nat) (S : Nat → List Int → Option (β × List Int)) (o : Option (List Int)) : o.bind (cutR c S) = (lax 0 (rv 10 0 0) o).2.bind (fun l => if (c : Int) < (lax 0 (rv 10 0 0) o).1 then none else S (lax 0 (rv 10 0 0) o).1.toNat l) := lax_step 0 _ _ o
theorem bindR_assoc {α β γ : Type} (R : List Int → Option (α × List Int)) (S : α → List Int → Option (β × List Int)) (T : β → List Int → Option (γ × List Int)) : bindR (bindR R S) T = bindR R fun x => bindR (S x) T := by
 funext l
 unfold bindR
 cases R l with
 | none => rfl
 | some y => rfl
theorem ids_succ {β : Type} (m : Nat) (T : List Int → List Int → Option (β × List Int)) : bindR (rdIds (m + 1)) T = bindR (rv 10 0 0) fun x => bindR (rdIds m) fun y => T (x :: y) := by
 have h : rdIds (m + 1) = bindR (rv 10 0 0) (fun x => bindR (rdIds m) fun y => pureR (x :: y)) := by funext l; rfl
 rw [h, bindR_assoc]
 congr 1
 funext x
 rw [bindR_assoc]
 rfl
theorem cut_assoc {α β : Type} (c : Nat) (S : Nat → List Int → Option (α × List Int)) (T : α → List Int → Option (β × List Int)) : bindR (cutR c S) T = cutR c fun n => bindR (S n) T := by
 unfold cutR
 rw [bindR_assoc]
 congr 1
 funext k l
 show (if (c : Int) < k then none else S k.toNat l).bind (fun y => T y.1 y.2) = if (c : Int) < k then none else (S k.toNat l).bind fun y => T y.1 y.2
 by_cases h : (c : Int) < k
 ·
  rw [if_pos h, if_pos h]; rfl
 ·
  rw [if_neg h, if_neg h]
theorem nods_succ {β : Type} (m : Nat) (T : List No → List Int → Option (β × List Int)) : bindR (cNos (m + 1)) T = bindR rdT fun p => bindR rdT fun v => bindR (rv 10 0 0) fun o => bindR rdB fun c => cutR 50 fun n => bindR (rdIds n) fun h => bindR (rv 10 0 0) fun e => bindR (rv 10 0 0) fun g => bindR (cNos m) fun y => T (⟨p, v, o, c, h, e, g, []⟩ :: y) := by
 show bindR (bindR cNo fun x => bindR (cNos m) fun y => pureR (x :: y)) T = _
 unfold cNo
 simp only [bindR_assoc, cut_assoc]
 rfl
def Sb {α : Type} (F : List Int → Bool → α × List Int × Bool) : Prop := ∀ l b, ∃ k, (F l b).2.1 = l.drop k
theorem Sb.pure {α : Type} (x : α) : Sb (pureL x) := fun l b => ⟨0, rfl⟩
theorem Sb.bind {α β : Type} {F : List Int → Bool → α × List Int × Bool} {G : α → List Int → Bool → β × List Int × Bool} (h : Sb F) (k : ∀ x, Sb (G x)) : Sb (bindL F G) := by
 intro l b
 obtain ⟨i, e⟩ := h l b
 obtain ⟨j, e2⟩ := k (F l b).1 (F l b).2.1 (F l b).2.2
 refine ⟨i + j, ?_⟩
 show (G (F l b).1 (F l b).2.1 (F l b).2.2).2.1 = _
 rw [e2, e, List.drop_drop]
theorem Sb.numd : ∀ (d i : Nat) (v : Int) (l : List Int) (b : Bool), ∃ k, (numL d i v l b).2.1 = l.drop k
 | 0, _, _, l, _ => ⟨0, rfl⟩
 | d + 1, i, v, l, b => by
  unfold numL
  split
  ·
   exact ⟨1, by rw [List.drop_one]⟩
  ·
   obtain ⟨k, e⟩ := Sb.numd d (i + 1) (Go.bits .or .u64 v (IntKind.u64.wrap (IntKind.u64.wrap (Go.bits .and .u8 (l.headD 0) 127) * 2 ^ (7 * i)))) l.tail (b || l.isEmpty)
   exact ⟨1 + k, by rw [e, ← List.drop_one, List.drop_drop]⟩
theorem Sb.num : Sb (numL 10 0 0) := Sb.numd 10 0 0
theorem Sb.cntn : Sb cntL := by
 intro l b
 unfold cntL
 split
 ·
  exact Sb.num l b
 ·
  exact Sb.num l b
theorem Sb.txt : Sb txtL := by
 intro l b
 obtain ⟨k, e⟩ := Sb.cntn l b
 exact ⟨k + (cntL l b).1.toNat, by rw [← List.drop_drop, ← e]; rfl⟩
theorem Sb.byt : Sb bytL := fun l b => ⟨1, by show l.tail = _; rw [List.drop_one]⟩
theorem Sb.cnt {β : Type} {G : Nat → List Int → Bool → β × List Int × Bool} (k : ∀ n, Sb (G n)) : Sb (cntB G) := by
 intro l b
 obtain ⟨i, e⟩ := Sb.cntn l b
 obtain ⟨j, e2⟩ := k (cntL l b).1.toNat (cntL l b).2.1 (cntL l b).2.2
 refine ⟨i + j, ?_⟩
 show (G (cntL l b).1.toNat (cntL l b).2.1 (cntL l b).2.2).2.1 = _
 rw [e2, e, List.drop_drop]
theorem Sb.ids : ∀ n, Sb (idsL n)
 | 0 => Sb.pure []
 | n + 1 => Sb.bind Sb.num fun x => Sb.bind (Sb.ids n) fun y => Sb.pure (x :: y)
theorem Sb.nod : Sb nodL :=
 Sb.bind Sb.txt fun p => Sb.bind Sb.txt fun v => Sb.bind Sb.num fun o => Sb.bind Sb.byt fun c => Sb.cnt fun n => Sb.bind (Sb.ids n) fun h => Sb.bind Sb.num fun e => Sb.bind Sb.num fun g => Sb.pure _
structure By (l : List Int) : Prop where
 n : l.length ≤ 2097152
 b : ∀ x ∈ l, 0 ≤ x ∧ x < 256
theorem By.of {α : Type} {F : List Int → Bool → α × List Int × Bool} (h : Sb F) {l : List Int} (b : Bool) (hl : By l) : By (F l b).2.1 := by
 obtain ⟨k, e⟩ := h l b
 rw [e]
 exact ⟨by rw [List.length_drop]; have := hl.n; omega, fun x hx => hl.b x (List.mem_of_mem_drop hx)⟩
theorem UP.lt {w0 W : World} {g : Nat} {l : List Int} {bad : Bool} (h : UP w0 W g l bad) : g < W.heap.size := by
 obtain ⟨⟨A, c, hx, _⟩, _⟩ := h
 exact (Array.getElem?_eq_some_iff.mp hx).1
theorem UP.set {w0 W : World} {g : Nat} {l : List Int} {bad : Bool} (h : UP w0 W g l bad) {p j : Nat} (v : Value) (hp : g ≠ p) (hb : w0.heap.size ≤ p) : UP w0 (W.setCell ⟨p, j, none⟩ v) g l bad := by
 obtain ⟨⟨A, c, hx, hc, hr⟩, hbe, hg⟩ := h
 exact ⟨⟨A, c, blk_far hx hp _, hc, hr⟩, below_set hbe hb, hg⟩
theorem Kept.setNew {w W : World} {S : Nat → Prop} (h : Kept w W S) {b j : Nat} (v : Value) (hb : w.heap.size ≤ b) : Kept w (W.setCell ⟨b, j, none⟩ v) S :=
 ⟨Nat.le_trans h.1 (by simp [World.setCell]), fun i hi hn => (Below.heap_setCell W ⟨b, j, none⟩ v i (show i ≠ b by omega)).trans (h.2 i hi hn)⟩
theorem numL_by : ∀ (d i : Nat) (v : Int) (l : List Int) (b : Bool), (∀ x ∈ l, 0 ≤ x ∧ x < 256) → ∀ x ∈ (numL d i v l b).2.1, 0 ≤ x ∧ x < 256
 | 0, _, _, _, _, h => h
 | d + 1, i, v, l, b, h => by
  have ht : ∀ x ∈ l.tail, 0 ≤ x ∧ x < 256 := fun x hx => h x (List.mem_of_mem_tail hx)
  simp only [numL]
  split
  ·
   exact ht
  ·
   exact numL_by d _ _ _ _ ht
theorem cntL_by (l : List Int) (b : Bool) (h : ∀ x ∈ l, 0 ≤ x ∧ x < 256) : ∀ x ∈ (cntL l b).2.1, 0 ≤ x ∧ x < 256 := by
 unfold cntL
 split
 ·
  exact numL_by 10 0 0 l b h
 ·
  exact numL_by 10 0 0 l b h
theorem txtL_by (l : List Int) (b : Bool) (h : ∀ x ∈ l, 0 ≤ x ∧ x < 256) : ∀ x ∈ (txtL l b).2.1, 0 ≤ x ∧ x < 256 := fun x hx => cntL_by l b h x (List.mem_of_mem_drop hx)
set_option maxHeartbeats 4000000 in
set_option maxRecDepth 100000 in
theorem unp_node (w0 w : World) (g : Nat) (l : List Int) (bad : Bool) (HU : UP w0 w g l bad) (hl : l.length ≤ 2097152) (hbr : ∀ x ∈ l, 0 ≤ x ∧ x < 256) :
  Calls Tryd.prog 71 #[.pointer (some ⟨g, 0, none⟩)] w fun e w' => ∃ cs : List Value, e = .returned (.agg cs.toArray) ∧ aNo.M w' w0.heap.size (fun k => w.heap.size ≤ k) (nodL l bad).1 cs ∧ UP w0 w' g (nodL l bad).2.1 (nodL l bad).2.2 ∧ Kept w w' (fun k => k = g) := by
 have hgw := HU.lt
 have HG := Aside0.mk hgw
 obtain ⟨y1, q1⟩ : ∃ y, txtL l bad = y := ⟨_, rfl⟩
 obtain ⟨t1, l1, b1⟩ := y1
 obtain ⟨y2, q2⟩ : ∃ y, txtL l1 b1 = y := ⟨_, rfl⟩
 obtain ⟨t2, l2, b2⟩ := y2
 obtain ⟨y3, q3⟩ : ∃ y, numL 10 0 0 l2 b2 = y := ⟨_, rfl⟩
 obtain ⟨n3, l3, b3⟩ := y3
 obtain ⟨y5, q5⟩ : ∃ y, cntL l3.tail (b3 || l3.isEmpty) = y := ⟨_, rfl⟩
 obtain ⟨n5, l5, b5⟩ := y5
 obtain ⟨y6, q6⟩ : ∃ y, idsL n5.toNat l5 b5 = y := ⟨_, rfl⟩
 obtain ⟨t6, l6, b6⟩ := y6
 obtain ⟨y7, q7⟩ : ∃ y, numL 10 0 0 l6 b6 = y := ⟨_, rfl⟩
 obtain ⟨n7, l7, b7⟩ := y7
 obtain ⟨y8, q8⟩ : ∃ y, numL 10 0 0 l7 b7 = y := ⟨_, rfl⟩
 obtain ⟨n8, l8, b8⟩ := y8
 have hN : nodL l bad = (⟨t1, t2, n3, l3.headD 0, t6, n7, n8, []⟩, l8, b8) := by simp only [nodL, bindL, cntB, pureL, bytL, q1, q2, q3, q5, q6, q7, q8]
 have e1 := (txtL_len l bad).2
 have e2 := (txtL_len l1 b1).2
 have e3 := numL_len 10 0 0 l2 b2
 rw [q1] at e1
 rw [q2] at e2
 rw [q3] at e3
 simp only at e1 e2 e3
 rw [hN]
 simp only
 have hb3 : ∀ x ∈ l3, 0 ≤ x ∧ x < 256 := by
  have h1 := txtL_by l bad hbr
  rw [q1] at h1
  have h2 := txtL_by l1 b1 h1
  rw [q2] at h2
  have h3 := numL_by 10 0 0 l2 b2 h2
  rw [q3] at h3
  exact h3
 have HL := Aside0.mk (show l1.length ≤ 2097152 ∧ l2.length ≤ 2097152 ∧ l3.length ≤ 2097152 by omega)
 have T1 := Aside0.mk (fun (W : World) (h : UP w0 W g l bad) => unp_text w0 W g l bad h hl)
 have T2 := Aside0.mk (fun (W : World) (h : UP w0 W g l1 b1) => unp_text w0 W g l1 b1 h HL.out.1)
 have T3 := Aside0.mk (fun (W : World) (h : UP w0 W g l2 b2) => unp_number w0 W g l2 b2 h)
 have T4 := Aside0.mk (fun (W : World) (h : UP w0 W g l3 b3) => unp_byte w0 W g l3 b3 h)
 rw [q1] at T1
 rw [q2] at T2
 rw [q3] at T3
 simp only at T1 T2 T3
 have T5 := Aside0.mk (fun (W : World) (h : UP w0 W g l3.tail (b3 || l3.isEmpty)) => unp_count w0 W g l3.tail (b3 || l3.isEmpty) h (by have := HL.out.2.2; rw [List.length_tail]; omega))
 rw [q5] at T5
 simp only at T5
 have e5 := cntL_range l3.tail (b3 || l3.isEmpty)
 have e5b := cntL_len l3.tail (b3 || l3.isEmpty)
 rw [q5] at e5 e5b
 simp only [List.length_tail] at e5 e5b
 have HL5 := Aside0.mk (show 0 ≤ n5 ∧ n5 ≤ (l5.length : Int) ∧ l5.length ≤ 2097152 by have := HL.out.2.2; omega)
 have Q := Aside0.mk (And.intro q5 (And.intro q6 (And.intro q7 q8)))
 have HU := Aside0.mk HU
 have HC := Aside0.mk (show wrap64 (l3.headD 0) = l3.headD 0 by
  have : 0 ≤ l3.headD 0 ∧ l3.headD 0 < 256 := by
   cases l3 with
   | nil => simp
   | cons x r => exact hb3 x (List.mem_cons_self ..)
  clear T1 T2 T3 T4 Q
  unfold wrap64
  omega)
 obtain ⟨x0, hx0⟩ : ∃ x, l3.headD 0 = x := ⟨_, rfl⟩
 rw [hx0] at HC T4 ⊢
 clear hx0 e5 e5b hb3 q1 q2 q3 q5 q6 q7 q8 hN e1 e2 e3 hgw hl
 go_enter Tryd.func71, Tryd.ntmps71
 go_upto_region 1 with (fail)
 have bz := blk_new w (.cells #[.slice none 0 0, .slice none 0 0, .int .u64 0, .int .i64 0, .slice none 0 0, .int .u64 0, .int .u64 0, .slice none 0 0] 76)
 have hb0 := below_alloc (Below.refl w.heap.size w) (.cells #[.slice none 0 0, .slice none 0 0, .int .u64 0, .int .i64 0, .slice none 0 0, .int .u64 0, .int .u64 0, .slice none 0 0] 76)
 generalize w.alloc (.cells #[.slice none 0 0, .slice none 0 0, .int .u64 0, .int .i64 0, .slice none 0 0, .int .u64 0, .int .u64 0, .slice none 0 0] 76) = W0 at *
 have hk0 : Kept w W0 (fun k => k = g) := kept_below hb0
 have hu0 := HU.out.below hb0
 go_wp2_with fail
 refine (T1.out _ hu0).mono ?_
 rintro e w1 ⟨v1, rfl, hr1, hu1, hk1⟩
 have bz1 := blk_kept bz hk1 (fun h => by have := HG.out; omega)
 have hk01 := Kept.trans_ hk0 hk1
 obtain ⟨A1, c1, rfl⟩ := Kd.R_slice hr1
 have hw0 := blk_lt bz
 have hr1 := Kd.R_mono (ok' := fun k => W0.heap.size ≤ k ∧ k < w1.heap.size) (Kd.R_bound hr1) (fun k hk => ⟨hk.2.1, hk.2.2.1⟩)
 clear bz hk0 hu0 hb0
 go_wp2_with fail
 refine (T2.out _ hu1).mono ?_
 rintro e w2 ⟨v2, rfl, hr2, hu2, hk2⟩
 have hr2 := Kd.R_mono (ok' := fun k => w1.heap.size ≤ k ∧ k < w2.heap.size) (Kd.R_bound hr2) (fun k hk => ⟨hk.2.1, hk.2.2.1⟩)
 have bz2 := blk_kept bz1 hk2 (fun h => by have := HG.out; omega)
 have hk02 := Kept.trans_ hk01 hk2
 obtain ⟨A2, c2, rfl⟩ := Kd.R_slice hr2
 go_wp2_with fail
 refine (T3.out _ hu2).mono ?_
 rintro e w3 ⟨rfl, hu3, hk3⟩
 have bz3 := blk_kept bz2 hk3 (fun h => by have := HG.out; omega)
 have hk03 := Kept.trans_ hk02 hk3
 go_wp2_with fail
 refine (T4.out _ hu3).mono ?_
 rintro e w4 ⟨rfl, hu4, hk4⟩
 have bz4 := blk_kept bz3 hk4 (fun h => by have := HG.out; omega)
 have hk04 := Kept.trans_ hk03 hk4
 have hcw := HC.out
 go_wp2_with fail
 clear hcw
 have bx := blk_new w4 (.cells #[.slice A1 t1.length c1, .slice A2 t2.length c2, .int .u64 n3, .int .i64 x0, .slice none 0 0, .int .u64 0, .int .u64 0, .slice none 0 0] 76)
 have hb5 := below_alloc (Below.refl w4.heap.size w4) (.cells #[.slice A1 t1.length c1, .slice A2 t2.length c2, .int .u64 n3, .int .i64 x0, .slice none 0 0, .int .u64 0, .int .u64 0, .slice none 0 0] 76)
 have bz5 := blk_alloc bz4 (.cells #[.slice A1 t1.length c1, .slice A2 t2.length c2, .int .u64 n3, .int .i64 x0, .slice none 0 0, .int .u64 0, .int .u64 0, .slice none 0 0] 76)
 have hu5 := hu4.below hb5
 have hk05 := Kept.trans_ hk04 (kept_below (S := fun k => k = g) hb5)
 have hpw := hk04.1
 obtain ⟨p, hp⟩ : ∃ p, w4.heap.size = p := ⟨_, rfl⟩
 have hpg : g < p := by have := HG.out; omega
 generalize w4.alloc (.cells #[.slice A1 t1.length c1, .slice A2 t2.length c2, .int .u64 n3, .int .i64 x0, .slice none 0 0, .int .u64 0, .int .u64 0, .slice none 0 0] 76) = W5 at *
 rw [hp] at bx ⊢
 refine (T5.out _ hu5).mono ?_
 rintro e w6 ⟨rfl, hu6, hk6⟩
 have bx6 := blk_kept bx hk6 (fun h => by omega)
 have bz6 := blk_kept bz5 hk6 (fun h => by have := HG.out; omega)
 have hk06 := Kept.trans_ hk05 hk6
 have BZ := Aside0.mk bz6
 have HK6 := Aside0.mk hk06
 have P := Aside0.mk (And.intro hpg (show p < w6.heap.size from (Array.getElem?_eq_some_iff.mp bx6).1))
 have hk26 := Kept.trans_ hk3 (Kept.trans_ hk4 (Kept.trans_ (kept_below (S := fun k => k = g) hb5) hk6))
 have hk16 := Kept.trans_ hk2 hk26
 have SZ := Aside0.mk (show w.heap.size < W0.heap.size ∧ W0.heap.size ≤ w1.heap.size ∧ w1.heap.size ≤ w2.heap.size ∧ w2.heap.size ≤ p from ⟨hw0, hk1.1, hk2.1, by rw [← hp]; exact Nat.le_trans hk3.1 hk4.1⟩)
 have R1 := Aside0.mk (R_kept hr1 hk16 (fun k hk he => by have := hk.1; have := HG.out; omega))
 have R2 := Aside0.mk (R_kept hr2 hk26 (fun k hk he => by have := hk.1; have := HG.out; have := hk1.1; omega))
 clear hk26 hk16 hw0
 have hne0 : ∀ k, (Value.slice none 0 0).ownBlock = some k → False := fun k h => by simp [Value.ownBlock] at h
 clear hr1 hr2 hk1 hk2 hk3 hk4 hb5 hk6 hk01 hk02 hk03 hk04 hk05 hk06 bz1 bz2 bz3 bz4 bz5 bz6 bx hu1 hu2 hu3 hu4 hu5 hpw hpg
 have c50 := HL5.out.1
 go_wp2_with fail
 go_loopg [16] (n5.toNat + 1) (fun kq v16 w' => ∃ (i : Nat) (pre li : List Int) (bi : Bool) (B : Option Addr) (d : Nat), v16 = .int .i64 (i : Int) ∧ Aside0 (kq + i = n5.toNat + 1 ∧ i ≤ n5.toNat ∧ pre.length = i) ∧ Aside0 (idsL n5.toNat l5 b5 = (pre ++ (idsL (n5.toNat - i) li bi).1, (idsL (n5.toNat - i) li bi).2)) ∧ Aside0 (UP w0 w' g li bi) ∧ Aside0 (w'.heap[p]? = some (.cells #[.slice A1 t1.length c1, .slice A2 t2.length c2, .int .u64 n3, .int .i64 x0, .slice B pre.length d, .int .u64 0, .int .u64 0, .slice none 0 0] 76 (0, 0))) ∧ Aside0 (Kd.R (Kd.int .u64) 26 w' w0.heap.size (fun k => w6.heap.size ≤ k) (.slice B pre.length d) pre) ∧ Aside0 (Kept w6 w' (fun k => k = g ∨ k = p)))
 case atStart => exact ⟨0, [], l5, b5, none, 0, rfl, ⟨⟨by omega, by omega, rfl⟩⟩, ⟨rfl⟩, ⟨hu6⟩, ⟨bx6⟩, ⟨Kd.R_nil _ _ _ _ _⟩, ⟨⟨Nat.le_refl _, fun _ _ _ => rfl⟩⟩⟩
 case round =>
  clear hu6 bx6
  obtain ⟨i, pre, li, bi, B, d, rfl, HJ, HI, HU2, BX, HR, HK⟩ := hrel
  have hj0 := HJ.out
  by_cases hj : i < n5.toNat
  ·
   have hcj : decide ((i : Int) < n5) = true := decide_eq_true (by omega)
   obtain ⟨k1, rfl⟩ : ∃ k1, gk = k1 + 1 := ⟨gk - 1, by omega⟩
   obtain ⟨y, qy⟩ : ∃ y, numL 10 0 0 li bi = y := ⟨_, rfl⟩
   obtain ⟨x, lj, bj⟩ := y
   have TN := Aside0.mk (fun (W : World) (h : UP w0 W g li bi) => unp_number w0 W g li bi h)
   rw [qy] at TN
   simp only at TN
   have hii : idsL (n5.toNat - i) li bi = (x :: (idsL (n5.toNat - (i + 1)) lj bj).1, (idsL (n5.toNat - (i + 1)) lj bj).2) := by
    rw [show n5.toNat - i = (n5.toNat - (i + 1)) + 1 by omega]
    simp only [idsL, bindL, pureL, qy]
   have HII := Aside0.mk hii
   have HQJ := Aside0.mk (show i + 1 ≤ n5.toNat by omega)
   clear hj qy hii hj0
   obtain ⟨z0, z1, z2, z3, z4, z5, z6, z7⟩ := cells8 BX.out
   have f4 := blk_frozen BX.out 4
   go_upto_block 1 with (fail)
   go_cut [] (fun wc => ∃ (B1 : Option Addr) (d1 : Nat), Aside0 (UP w0 wc g lj bj) ∧ Aside0 (wc.heap[p]? = some (.cells #[.slice A1 t1.length c1, .slice A2 t2.length c2, .int .u64 n3, .int .i64 x0, .slice B1 (pre ++ [x]).length d1, .int .u64 0, .int .u64 0, .slice none 0 0] 76 (0, 0))) ∧ Aside0 (Kd.R (Kd.int .u64) 26 wc w0.heap.size (fun k => w6.heap.size ≤ k) (.slice B1 (pre ++ [x]).length d1) (pre ++ [x])) ∧ Aside0 (Kept w6 wc (fun k => k = g ∨ k = p)))
   case first =>
    go_wp2_with fail
    go_region_law (first | (go_simp; go_at_call 69; refine (TN.out _ (HU2.out.below (by with_reducible repeat (first | exact Below.refl _ _ | apply below_drew1)))).mono ?_; rintro e wn ⟨rfl, hun, hkn⟩; have hkw : Kept wr wn (fun k => k = g) := (by first | exact hkn | exact Kept.trans_ (kept_below (below_drew1 (Below.refl _ _))) hkn); have BXN := Aside0.mk (blk_kept BX.out hkw (fun h => by have := P.out; omega)); have HRN := Aside0.mk (R_kept HR.out hkw (fun k hk he => by have := P.out; omega)); have HUN := Aside0.mk hun; have HKN := Aside0.mk (kept_trans HK.out hkw (fun k h => Or.inl h)); have hsn := Nat.le_trans P.out.2 (Nat.le_trans HK.out.1 hkw.1); have HS := Aside0.mk (show w6.heap.size ≤ wn.heap.size from Nat.le_trans HK.out.1 hkw.1); clear hun hkn hkw hsn z0 z1 z2 z3 z4 z5 z6 z7 f4; obtain ⟨z0, z1, z2, z3, z4, z5, z6, z7⟩ := cells8 BXN.out; have f4 := blk_frozen BXN.out 4; have za4 : (wn.alloc (.cells #[.int .u64 x] 26)).cell? ⟨p, 4, none⟩ = some (.slice B pre.length d) := (blk_cell (blk_alloc BXN.out _) 4).trans rfl) | (refine Kd.R_append_step (Kd.int .u64) (w0 := w0) w0.heap.size (by rfl) (.tmp 19) (.tmp 22) 40 26 (.int .u64 0) 8 rfl Tryd.underlying40 info26 rfl (by decide) (by omega) (.slice B pre.length d) pre x [.int .u64 x] (fun k => w6.heap.size ≤ k) (fun _ => False) (by simp [Act.eval, Act.put]) (by simp [Act.eval, Act.put]) rfl (fun _ hk => hk.elim) ?fr ?HO ?HB ?Hs ?len ?_; (case fr => intro k hk; exact Nat.le_trans HS.out hk); (case HO => first | exact HRN.out | exact Kd.R_step HRN.out (fun _ _ _ => rfl)); (case HB => first | exact HUN.out.be | exact below_drew1 HUN.out.be); (case Hs => exact HUN.out.be.size); (case len => have := HJ.out; have := HL5.out; omega); intro v1 w5 ho hb hg hat; obtain ⟨B1, d1, rfl⟩ := Kd.R_slice ho; have HO := Aside0.mk ho; have HG5 := Aside0.mk hg; have HB5 := Aside0.mk hb; have bx5 := blk_grown BXN.out hg (Kd.R_ne HRN.out BXN.out (by decide)); have BX5 := Aside0.mk bx5; clear ho hb hg hat z0 z1 z2 z3 z4 z5 z6 z7 f4; obtain ⟨z0, z1, z2, z3, z4, z5, z6, z7⟩ := cells8 bx5; have f4 := blk_frozen bx5 4; clear bx5))
    all_goals
     go_wp2_with fail
     go_meet
    all_goals
     have hp5 := P.out
     have eL : (pre ++ [x]).length = pre.length + 1 := by simp
     refine ⟨B1, d1, ⟨?_⟩, ⟨?_⟩, ⟨?_⟩, ⟨?_⟩⟩
     ·
      obtain ⟨⟨A, c, hx, hc, hr⟩, hbe, hgg⟩ := HUN.out
      exact ⟨⟨A, c, blk_far (blk_grown hx HG5.out (Kd.R_ne HRN.out hx (by decide))) (show g ≠ p by omega) _, hc, hr⟩, below_set HB5.out (show w0.heap.size ≤ p by omega), hgg⟩
     ·
      rw [eL]; exact blk_put BX5.out 4 _ rfl
     ·
      exact Kd.R_set HO.out BX5.out (by decide) 4 _
     ·
      exact ⟨Nat.le_trans HKN.out.1 (by simp only [World.setCell, Array.size_setIfInBounds, Array.size_modify]; exact HG5.out.size), fun i hi hn => (Below.heap_setCell _ ⟨p, 4, none⟩ _ i (fun e => hn (Or.inr e))).trans ((HG5.out.block i (Nat.lt_of_lt_of_le hi HKN.out.1) (fun e => by have := HRN.out.1 i e.symm; omega)).trans (HKN.out.2 i hi hn))⟩
   case rest =>
    obtain ⟨B1, d1, HU3, BX3, HR3, HK3⟩ := hcut
    go_wp2_with fail
    have hj2 := HJ.out
    have hq2 := HQJ.out
    have hl2 := HL5.out
    go_roundg k1
    case measure => omega
    case rel => exact ⟨i + 1, pre ++ [x], lj, bj, B1, d1, (by have h9 : wrap64 ((i : Int) + 1) = ((i + 1 : Nat) : Int) := (by unfold wrap64; omega); rw [h9]), ⟨⟨by omega, hq2, by simp only [List.length_append, List.length_singleton]; omega⟩⟩, ⟨by rw [HI.out, HII.out]; simp only [List.append_assoc, List.singleton_append]⟩, HU3, BX3, HR3, HK3⟩
  ·
   have hcj : decide ((i : Int) < n5) = false := decide_eq_false (by omega)
   have hi0 : n5.toNat - i = 0 := by omega
   have h6 := Q.out.2.1
   rw [HI.out, hi0] at h6
   simp only [idsL, List.append_nil, Prod.mk.injEq] at h6
   obtain ⟨e6, e7, e8⟩ := h6
   subst e6 e7 e8
   have T7 := Aside0.mk (fun (W : World) (h : UP w0 W g li bi) => unp_number w0 W g li bi h)
   have T8 := Aside0.mk (fun (W : World) (h : UP w0 W g l7 b7) => unp_number w0 W g l7 b7 h)
   rw [Q.out.2.2.1] at T7
   rw [Q.out.2.2.2] at T8
   simp only at T7 T8
   clear hj0 hi0 hj HI
   obtain ⟨z0, z1, z2, z3, z4, z5, z6, z7⟩ := cells8 BX.out
   have f5 := blk_frozen BX.out 5
   have f6 := blk_frozen BX.out 6
   go_wp2_with fail
   refine (T7.out _ HU2.out).mono ?_
   rintro e w7 ⟨rfl, hu7, hk7⟩
   have hp7 := P.out
   have hg7 := HU2.out.hg
   have BX7 := Aside0.mk (blk_kept BX.out hk7 (fun h => by omega))
   have HR7 := Aside0.mk (R_kept HR.out hk7 (fun k hk he => by have : w6.heap.size ≤ k := hk; omega))
   have HK7 := Aside0.mk (kept_trans HK.out hk7 (fun k h => Or.inl h))
   have HU7 := Aside0.mk (hu7.set (p := p) (j := 5) (.int .u64 n7) (by omega) (by omega))
   have BX8 := Aside0.mk (blk_put (cs' := #[.slice A1 t1.length c1, .slice A2 t2.length c2, .int .u64 n3, .int .i64 x0, .slice B pre.length d, .int .u64 n7, .int .u64 0, .slice none 0 0]) BX7.out 5 (.int .u64 n7) rfl)
   have f5 := blk_frozen BX7.out 5
   clear hu7 hk7 z0 z1 z2 z3 z4 z5 z6 z7 f6 hp7 hg7
   have z5 := (cells8 BX7.out).2.2.2.2.2.1
   go_wp2_with fail
   refine (T8.out _ HU7.out).mono ?_
   rintro e w8 ⟨rfl, hu8, hk8⟩
   have hp8 := P.out
   have hg8 := hu8.hg
   have BX9 := Aside0.mk (blk_kept BX8.out hk8 (fun h => by omega))
   have HU9 := Aside0.mk (hu8.set (p := p) (j := 6) (.int .u64 n8) (by omega) (by omega))
   have HK8 := Aside0.mk hk8
   clear z5 f5
   have f6 := blk_frozen BX9.out 6
   have z6 := (cells8 BX9.out).2.2.2.2.2.2.1
   have hz := SZ.out
   have BZ7 := Aside0.mk (blk_kept (blk_far (p := ⟨p, 5, none⟩) (blk_kept BZ.out HK7.out (fun h => by rcases h with h | h <;> (have := HG.out; omega))) (show w.heap.size ≠ p by omega) (.int .u64 n7)) hk8 (fun h => by have := HG.out; omega))
   have BZ8 := Aside0.mk (blk_far (p := ⟨p, 6, none⟩) BZ7.out (show w.heap.size ≠ p by omega) (.int .u64 n8))
   have hka : Kept w w7 (fun k => k = g) := ⟨Nat.le_trans HK6.out.1 HK7.out.1, fun i hi hn => (HK7.out.2 i (Nat.lt_of_lt_of_le hi HK6.out.1) (fun h => h.elim hn (fun e => by omega))).trans (HK6.out.2 i hi hn)⟩
   have HKZ := Aside0.mk (Kept.setNew (Kept.trans_ (Kept.setNew hka (b := p) (j := 5) (.int .u64 n7) (by omega)) hk8) (b := p) (j := 6) (.int .u64 n8) (by omega))
   have hwg := HG.out
   have RB1 := Aside0.mk (Kd.R_far (p := ⟨p, 6, none⟩) (R_kept (Kd.R_far (p := ⟨p, 5, none⟩) (R_kept R1.out HK7.out (fun k hk he => by have := hk.1; have := hk.2; rcases he with he | he <;> omega)) (fun k hk => by have := hk.2; show k ≠ p; omega) (.int .u64 n7)) hk8 (fun k hk he => by have := hk.1; omega)) (fun k hk => by have := hk.2; show k ≠ p; omega) (.int .u64 n8))
   have RB2 := Aside0.mk (Kd.R_far (p := ⟨p, 6, none⟩) (R_kept (Kd.R_far (p := ⟨p, 5, none⟩) (R_kept R2.out HK7.out (fun k hk he => by have := hk.1; have := hk.2; rcases he with he | he <;> omega)) (fun k hk => by have := hk.2; show k ≠ p; omega) (.int .u64 n7)) hk8 (fun k hk he => by have := hk.1; omega)) (fun k hk => by have := hk.2; show k ≠ p; omega) (.int .u64 n8))
   have RB4 := Aside0.mk (Kd.R_far (p := ⟨p, 6, none⟩) (R_kept (Kd.R_far (p := ⟨p, 5, none⟩) HR7.out (fun k hk => by have : w6.heap.size ≤ k := hk; show k ≠ p; omega) (.int .u64 n7)) hk8 (fun k hk he => by have : w6.heap.size ≤ k := hk; omega)) (fun k hk => by have : w6.heap.size ≤ k := hk; show k ≠ p; omega) (.int .u64 n8))
   clear hka hwg hz
   have bx10 := blk_put (cs' := #[.slice A1 t1.length c1, .slice A2 t2.length c2, .int .u64 n3, .int .i64 x0, .slice B pre.length d, .int .u64 n7, .int .u64 n8, .slice none 0 0]) BX9.out 6 (.int .u64 n8) rfl
   have BX10 := Aside0.mk bx10
   clear hu8 hk8 hp8 hg8 bx10
   go_upto_region 8 with (fail)
   generalize w8.setCell ⟨p, 6, none⟩ (.int .u64 n8) = W9 at *
   clear f6 z6
   obtain ⟨z0, z1, z2, z3, z4, z5, z6, z7⟩ := cells8 BX10.out
   obtain ⟨y0, y1, y2, y3, y4, y5, y6, y7⟩ := cells8 BZ8.out
   have g0 := blk_frozen BZ8.out 0
   have g1 := blk_frozen BZ8.out 1
   have g2 := blk_frozen BZ8.out 2
   have g3 := blk_frozen BZ8.out 3
   have g4 := blk_frozen BZ8.out 4
   have g5 := blk_frozen BZ8.out 5
   have g6 := blk_frozen BZ8.out 6
   have g7 := blk_frozen BZ8.out 7
   go_wp2_with fail
   have hp8 := P.out
   have hz := SZ.out
   have hwg := HG.out
   have hg8 := HU9.out.hg
   refine bodyPost_ret (results_cell_row rfl _ _ w.heap.size 76 #[.slice A1 t1.length c1, .slice A2 t2.length c2, .int .u64 n3, .int .i64 x0, .slice B pre.length d, .int .u64 n7, .int .u64 n8, .slice none 0 0] (0, 0) _ rfl (by refine blk_put (cs := #[.slice A1 t1.length c1, .slice A2 t2.length c2, .int .u64 n3, .int .i64 x0, .slice B pre.length d, .int .u64 n7, .int .u64 n8, .slice none 0 0]) ?_ 7 _ rfl; refine blk_put (cs := #[.slice A1 t1.length c1, .slice A2 t2.length c2, .int .u64 n3, .int .i64 x0, .slice B pre.length d, .int .u64 n7, .int .u64 0, .slice none 0 0]) ?_ 6 _ rfl; refine blk_put (cs := #[.slice A1 t1.length c1, .slice A2 t2.length c2, .int .u64 n3, .int .i64 x0, .slice B pre.length d, .int .u64 0, .int .u64 0, .slice none 0 0]) ?_ 5 _ rfl; refine blk_put (cs := #[.slice A1 t1.length c1, .slice A2 t2.length c2, .int .u64 n3, .int .i64 x0, .slice none 0 0, .int .u64 0, .int .u64 0, .slice none 0 0]) ?_ 4 _ rfl; refine blk_put (cs := #[.slice A1 t1.length c1, .slice A2 t2.length c2, .int .u64 n3, .int .i64 0, .slice none 0 0, .int .u64 0, .int .u64 0, .slice none 0 0]) ?_ 3 _ rfl; refine blk_put (cs := #[.slice A1 t1.length c1, .slice A2 t2.length c2, .int .u64 0, .int .i64 0, .slice none 0 0, .int .u64 0, .int .u64 0, .slice none 0 0]) ?_ 2 _ rfl; refine blk_put (cs := #[.slice A1 t1.length c1, .slice none 0 0, .int .u64 0, .int .i64 0, .slice none 0 0, .int .u64 0, .int .u64 0, .slice none 0 0]) ?_ 1 _ rfl; refine blk_put (cs := #[.slice none 0 0, .slice none 0 0, .int .u64 0, .int .i64 0, .slice none 0 0, .int .u64 0, .int .u64 0, .slice none 0 0]) ?_ 0 _ rfl; exact BZ8.out) Tryd.underlying76 rfl (by kernel_rfl)) rfl ?_
   refine ⟨_, rfl, ?_, ?_, ?_⟩
   ·
    refine aNo_mkp _ _ _ ⟨t1, t2, n3, x0, pre, n7, n8, []⟩ (fun k => k < w1.heap.size) (fun k => k < w2.heap.size) (fun _ => True) ?_ ?_ ?_ (Kd.R_nil _ _ _ _ _)
    ·
     refine Kd.R_mono (ok := fun k => W0.heap.size ≤ k ∧ k < w1.heap.size) ?_ (fun k hk => by omega)
     refine Kd.R_lower (base := W0.heap.size) ?_ (by omega)
     repeat (first | with_reducible exact RB1.out | refine Kd.R_far ?_ (fun k hk => by have := hk.1; have := hk.2; simp only [ne_eq]; omega) _)
    ·
     refine Kd.R_mono (ok := fun k => w1.heap.size ≤ k ∧ k < w2.heap.size) ?_ (fun k hk => by omega)
     refine Kd.R_lower (base := w1.heap.size) ?_ (by omega)
     repeat (first | with_reducible exact RB2.out | refine Kd.R_far ?_ (fun k hk => by have := hk.1; have := hk.2; simp only [ne_eq]; omega) _)
    ·
     refine Kd.R_mono (ok := fun k => w6.heap.size ≤ k) ?_ (fun k hk => by have : w6.heap.size ≤ k := hk; exact ⟨by omega, trivial⟩)
     repeat (first | with_reducible exact RB4.out | refine Kd.R_far ?_ (fun k hk => by have : w6.heap.size ≤ k := hk; simp only [ne_eq]; omega) _)
   ·
    repeat (first | with_reducible exact HU9.out | refine UP.set ?_ _ (by omega) (by omega))
   ·
    repeat (first | with_reducible exact HKZ.out | refine Kept.setNew ?_ _ (by omega))
theorem blk_set6 {W : World} {g t : Nat} {a0 a1 a2 a3 a4 a5 v0 v1 v2 v3 v4 v5 : Value} (h : W.heap[g]? = some (.cells #[a0, a1, a2, a3, a4, a5] t (0, 0))) :
  (((((((W.setCell ⟨g, 0, none⟩ v0).setCell ⟨g, 1, none⟩ v1).setCell ⟨g, 2, none⟩ v2).setCell ⟨g, 3, none⟩ v3).setCell ⟨g, 4, none⟩ v4).setCell ⟨g, 5, none⟩ v5)).heap[g]? = some (.cells #[v0, v1, v2, v3, v4, v5] t (0, 0)) :=
 (blk_put (cs := #[v0, v1, v2, v3, v4, a5]) (cs' := #[v0, v1, v2, v3, v4, v5]) (blk_put (cs := #[v0, v1, v2, v3, a4, a5]) (cs' := #[v0, v1, v2, v3, v4, a5]) (blk_put (cs := #[v0, v1, v2, a3, a4, a5]) (cs' := #[v0, v1, v2, v3, a4, a5]) (blk_put (cs := #[v0, v1, a2, a3, a4, a5]) (cs' := #[v0, v1, v2, a3, a4, a5]) (blk_put (cs := #[v0, a1, a2, a3, a4, a5]) (cs' := #[v0, v1, a2, a3, a4, a5]) (blk_put (cs := #[a0, a1, a2, a3, a4, a5]) (cs' := #[v0, a1, a2, a3, a4, a5]) h 0 v0 rfl) 1 v1 rfl) 2 v2 rfl) 3 v3 rfl) 4 v4 rfl) 5 v5 rfl)
theorem below_set6 {g : Nat} {w W : World} {v0 v1 v2 v3 v4 v5 : Value} (h : Below w.heap.size w W) (hg : w.heap.size ≤ g) : Below w.heap.size w (((((((W.setCell ⟨g, 0, none⟩ v0).setCell ⟨g, 1, none⟩ v1).setCell ⟨g, 2, none⟩ v2).setCell ⟨g, 3, none⟩ v3).setCell ⟨g, 4, none⟩ v4).setCell ⟨g, 5, none⟩ v5)) :=
 below_set (below_set (below_set (below_set (below_set (below_set h hg) hg) hg) hg) hg) hg
theorem S_set6 {α : Type} {d : Kd α} {e base g : Nat} {ok : Nat → Prop} {W : World} {v : Value} {xs : List α} {v0 v1 v2 v3 v4 v5 : Value} (h : Kd.S d e W base ok v xs) (hok : ∀ k, ok k → k ≠ g) : Kd.S d e (((((((W.setCell ⟨g, 0, none⟩ v0).setCell ⟨g, 1, none⟩ v1).setCell ⟨g, 2, none⟩ v2).setCell ⟨g, 3, none⟩ v3).setCell ⟨g, 4, none⟩ v4).setCell ⟨g, 5, none⟩ v5)) base ok v xs :=
 Kd.S_far (p := ⟨g, 5, none⟩) (Kd.S_far (p := ⟨g, 4, none⟩) (Kd.S_far (p := ⟨g, 3, none⟩) (Kd.S_far (p := ⟨g, 2, none⟩) (Kd.S_far (p := ⟨g, 1, none⟩) (Kd.S_far (p := ⟨g, 0, none⟩) h hok _) hok _) hok _) hok _) hok _) hok _
theorem size_set6 {W : World} {g : Nat} {v0 v1 v2 v3 v4 v5 : Value} : (((((((W.setCell ⟨g, 0, none⟩ v0).setCell ⟨g, 1, none⟩ v1).setCell ⟨g, 2, none⟩ v2).setCell ⟨g, 3, none⟩ v3).setCell ⟨g, 4, none⟩ v4).setCell ⟨g, 5, none⟩ v5)).heap.size = W.heap.size := by simp [World.setCell]
def DecAns (w0 w : World) (l : List Int) (r : Ending) (w' : World) : Prop := ∃ (As : Option Addr) (cs : Nat) (An : Option Addr) (cn : Nat), r = .returned (.tuple #[.agg #[.int .u64 (decA l).1.1, .int .u64 (decA l).1.2.1, .int .u64 (decA l).1.2.2.1, .int .i64 0, .slice As ((decA l).1.2.2.2.1.map seI).length cs, .slice An (decA l).1.2.2.2.2.length cn], .int .i64 (decA l).2]) ∧ SK w0 w' w.heap.size w'.heap.size As cs ((decA l).1.2.2.2.1.map seI) An cn (decA l).1.2.2.2.2 ∧ Below w.heap.size w w'
theorem DecAns.zero {w W : World} {l : List Int} (hd : decA l = corA) (hB : Below w.heap.size w W) : DecAns w w l (.returned (.tuple #[.agg #[.int .u64 0, .int .u64 0, .int .u64 0, .int .i64 0, .slice none 0 0, .slice none 0 0], .int .i64 13])) (((((((W.setCell ⟨w.heap.size, 0, none⟩ (.int .u64 0)).setCell ⟨w.heap.size, 1, none⟩ (.int .u64 0)).setCell ⟨w.heap.size, 2, none⟩ (.int .u64 0)).setCell ⟨w.heap.size, 3, none⟩ (.int .i64 0)).setCell ⟨w.heap.size, 4, none⟩ (.slice none 0 0)).setCell ⟨w.heap.size, 5, none⟩ (.slice none 0 0))) := by
 unfold DecAns
 rw [hd]
 exact ⟨none, 0, none, 0, rfl, ⟨⟨fun _ => True, Kd.S_nil _ _ _ _ _, Kd.S_nil _ _ _ _ _⟩⟩, below_set6 hB (Nat.le_refl _)⟩
theorem DecAns.good {w W : World} {l : List Int} {e g n : Int} {I : List Int} {N : List No} {As An : Option Addr} {cs cn T : Nat} (hd : decA l = ((e, g, n, I, N), 0)) (hB : Below w.heap.size w W) (hs : Kd.S aSe tSe W w.heap.size (fun k => w.heap.size < k ∧ k < T) (.slice As I.length cs) (I.map seI)) (hn : Kd.S aNo tNo W w.heap.size (fun k => w.heap.size < k ∧ T ≤ k) (.slice An N.length cn) N) :
  DecAns w w l (.returned (.tuple #[.agg #[.int .u64 e, .int .u64 g, .int .u64 n, .int .i64 0, .slice As I.length cs, .slice An N.length cn], .int .i64 0])) (((((((W.setCell ⟨w.heap.size, 0, none⟩ (.int .u64 e)).setCell ⟨w.heap.size, 1, none⟩ (.int .u64 g)).setCell ⟨w.heap.size, 2, none⟩ (.int .u64 n)).setCell ⟨w.heap.size, 3, none⟩ (.int .i64 0)).setCell ⟨w.heap.size, 4, none⟩ (.slice As I.length cs)).setCell ⟨w.heap.size, 5, none⟩ (.slice An N.length cn))) := by
 unfold DecAns
 rw [hd]
 simp only
 refine ⟨As, cs, An, cn, by rw [List.length_map], ⟨⟨fun k => k < T, ?_, ?_⟩⟩, below_set6 hB (Nat.le_refl _)⟩
 ·
  rw [List.length_map]
  refine Kd.S_mono (S_set6 (Kd.S_bound hs) (fun k hk => by have := hk.1.1; omega)) (fun k hk => ⟨⟨by have := hk.1.1; omega, by rw [size_set6]; exact hk.2.2.1⟩, hk.1.2⟩)
 ·
  refine Kd.S_mono (S_set6 (Kd.S_bound hn) (fun k hk => by have := hk.1.1; omega)) (fun k hk => ⟨⟨by have := hk.1.1; omega, by rw [size_set6]; exact hk.2.2.1⟩, by have := hk.1.2; omega⟩)
theorem DecAns.rebase {w0 w w' : World} {l : List Int} {r : Ending} (h : DecAns w w l r w') (hB : Below w0.heap.size w0 w) : DecAns w0 w l r w' := by
 obtain ⟨As, cs, An, cn, h1, h2, h3⟩ := h
 exact ⟨As, cs, An, cn, h1, h2.rebase hB.size, h3⟩
section
def OkP (l : List Int) (o : Option (List Int)) : Prop := ∀ r, o = some r → r = l.drop (l.length - r.length) ∧ r.length ≤ l.length
section
variable {l : List Int} (hr : ∀ x ∈ l, 0 ≤ x ∧ x < 256) (hb : l.length ≤ 2097152)
include hr hb
theorem lax_N (o : Option (List Int)) (ho : OkP l o) : spec_l3readVar.f 21 l (plc l o) = some ((lax 0 (rv 10 0 0) o).1, plc l (lax 0 (rv 10 0 0) o).2) ∧ OkP l (lax 0 (rv 10 0 0) o).2 := by
 cases o with
 | none => exact ⟨readVar_bad l 21 (by omega), fun r h => by cases h⟩
 | some r =>
  obtain ⟨e, hle⟩ := ho r rfl
  have h := readVar_f l hr hb 21 (by omega) (l.length - r.length) (by omega)
  rw [← e] at h
  show spec_l3readVar.f 21 l ((l.length - r.length : Nat) : Int) = _ ∧ _
  rw [h]
  unfold lax
  rw [Option.bind_some]
  cases hq : rv 10 0 0 r with
  | none => exact ⟨rfl, fun r h => by cases h⟩
  | some y =>
   obtain ⟨n, r'⟩ := y
   have := rv_back (b := l) (a := l.length - r.length) (by omega) (by rw [← e]; exact hq)
   exact ⟨rfl, fun r h => by cases h; exact this⟩
theorem lax_T (o : Option (List Int)) (ho : OkP l o) : spec_l3readText.f 21 l (plc l o) = some ((lax [] rdT o).1, plc l (lax [] rdT o).2) ∧ OkP l (lax [] rdT o).2 := by
 cases o with
 | none => exact ⟨readText_bad l 21 (by omega), fun r h => by cases h⟩
 | some r =>
  obtain ⟨e, hle⟩ := ho r rfl
  have h := readText_f l hr hb 21 (by omega) (l.length - r.length) (by omega)
  rw [← e] at h
  show spec_l3readText.f 21 l ((l.length - r.length : Nat) : Int) = _ ∧ _
  rw [h]
  unfold lax
  rw [Option.bind_some]
  cases hq : rdT r with
  | none => exact ⟨rfl, fun r h => by cases h⟩
  | some y =>
   obtain ⟨n, r'⟩ := y
   have := rdT_back (b := l) (a := l.length - r.length) (by omega) (by rw [← e]; exact hq)
   exact ⟨rfl, fun r h => by cases h; exact this⟩
theorem lax_B (o : Option (List Int)) (ho : OkP l o) : spec_l3readByte.f l (plc l o) = some ((lax 0 rdB o).1, plc l (lax 0 rdB o).2) ∧ OkP l (lax 0 rdB o).2 := by
 cases o with
 | none => exact ⟨readByte_bad l, fun r h => by cases h⟩
 | some r =>
  obtain ⟨e, hle⟩ := ho r rfl
  have h := readByte_f l hr hb (l.length - r.length) (by omega)
  rw [← e] at h
  show spec_l3readByte.f l ((l.length - r.length : Nat) : Int) = _ ∧ _
  rw [h]
  unfold lax
  rw [Option.bind_some]
  cases hq : rdB r with
  | none => exact ⟨rfl, fun r h => by cases h⟩
  | some y =>
   obtain ⟨n, r'⟩ := y
   have := rdB_back (b := l) (a := l.length - r.length) (by omega) (by rw [← e]; exact hq)
   exact ⟨rfl, fun r h => by cases h; exact this⟩
theorem rvC (A : Option Addr) (c : Nat) (o : Option (List Int)) (ho : OkP l o) (W : World) (h : Kd.C (Kd.int .u8) W A l.length l) (hc : l.length ≤ c) :
  Calls Tryd.prog 65 #[.slice A l.length c, .int .i64 (plc l o)] W fun e w' => e = .returned (.tuple #[.int .u64 (lax 0 (rv 10 0 0) o).1, .int .i64 (plc l (lax 0 (rv 10 0 0) o).2)]) ∧ Below W.heap.size W w' :=
 (spec_l3readVar.calls 21 A c l _ _ _ W h hc (lax_N hr hb o ho).1).mono fun e w' h => ⟨h.1, h.2.below⟩
theorem rtC (A : Option Addr) (c : Nat) (o : Option (List Int)) (ho : OkP l o) (W : World) (h : Kd.C (Kd.int .u8) W A l.length l) (hc : l.length ≤ c) :
  Calls Tryd.prog 66 #[.slice A l.length c, .int .i64 (plc l o)] W fun e w' => ∃ B d, e = .returned (.tuple #[.slice B (lax [] rdT o).1.length d, .int .i64 (plc l (lax [] rdT o).2)]) ∧ Kd.R (Kd.int .u8) 5 w' W.heap.size (fun _ => True) (.slice B (lax [] rdT o).1.length d) (lax [] rdT o).1 ∧ Below W.heap.size W w' := by
 refine (spec_l3readText.calls 21 A c l _ _ _ W h hc (lax_T hr hb o ho).1).mono ?_
 rintro e w' ⟨v, rfl, h1, h2⟩
 obtain ⟨B, d, rfl⟩ := Kd.R_slice h1
 exact ⟨B, d, rfl, h1, h2⟩
theorem rbC (A : Option Addr) (c : Nat) (o : Option (List Int)) (ho : OkP l o) (W : World) (h : Kd.C (Kd.int .u8) W A l.length l) (hc : l.length ≤ c) :
  Calls Tryd.prog 67 #[.slice A l.length c, .int .i64 (plc l o)] W fun e w' => e = .returned (.tuple #[.int .i64 (lax 0 rdB o).1, .int .i64 (plc l (lax 0 rdB o).2)]) ∧ Below W.heap.size W w' :=
 (spec_l3readByte.calls A c l _ _ _ W h hc (lax_B hr hb o ho).1).mono fun e w' h => ⟨h.1, h.2.below⟩
end
theorem plc_neg (l : List Int) (o : Option (List Int)) : decide (plc l o < 0) = o.isNone := by
 cases o with
 | none => rfl
 | some r => exact decide_eq_false (by show ¬ ((l.length - r.length : Nat) : Int) < 0; omega)
theorem lax_nonneg (o : Option (List Int)) : 0 ≤ (lax 0 (rv 10 0 0) o).1 := by
 unfold lax
 cases hq : o.bind (rv 10 0 0) with
 | none => exact Int.le_refl _
 | some y =>
  obtain ⟨r, h1, h2⟩ := Option.bind_eq_some_iff.mp hq
  exact (rv_nonneg _ _ _ _ _ _ h2).1
end
theorem rd_seE (xs : List Se) (i : Nat) (h : i < xs.length) : rd_T70 xs (i : Int) = xs[i] := by unfold rd_T70; rw [Int.toNat_natCast, List.getD_eq_getElem?_getD, List.getElem?_eq_getElem h]; rfl
theorem rd_noE (xs : List No) (i : Nat) (h : i < xs.length) : rd_T76 xs (i : Int) = xs[i] := by unfold rd_T76; rw [Int.toNat_natCast, List.getD_eq_getElem?_getD, List.getElem?_eq_getElem h]; rfl
theorem C_u64 {w : World} {A : Option Addr} {l : List Int} (h : Kd.C (Kd.int .u64) w A l.length l) (j : Nat) (hj : j < l.length) : ∃ ad, A = some ad ∧ w.cell? (ad.add j) = some (.int .u64 l[j]) := by
 obtain ⟨ad, c, rfl, hcl, hK, hcc⟩ := Kd.C_get h 0 (j : Int) (by omega) (by omega)
 have hK' : c = [.int .u64 (l.getD (j : Int).toNat 0)] := hK
 subst hK'
 have hc := hcc 0 _ rfl
 rw [show (j : Int).toNat * (Kd.int .u64).sz + 0 = j by show (j : Int).toNat * 1 + 0 = j; omega, Int.toNat_natCast, List.getD_eq_getElem?_getD, List.getElem?_eq_getElem hj] at hc
 exact ⟨ad, rfl, hc⟩
theorem flat_take {α : Type} (f : α → List Int) (l : List α) (i : Nat) (h : i < l.length) : (l.take (i + 1)).flatMap f = (l.take i).flatMap f ++ f l[i] := by
 rw [List.take_succ_eq_append_getElem h, List.flatMap_append, List.flatMap_singleton]
set_option maxHeartbeats 4000000 in
set_option maxRecDepth 100000 in
theorem l3enc_ok (e g n t : Int) (As : Option Addr) (cs : Nat) (xs : List Se) (An : Option Addr) (cn : Nat) (ns : List No) (w : World) (h1 : Kd.C kSe w As xs.length xs) (hc1 : xs.length ≤ cs) (h2 : Kd.C kNo w An ns.length ns) (hc2 : ns.length ≤ cn) (hs : SmS xs ns) (hr : RgT xs ns) (he : 0 ≤ e ∧ e < 18446744073709551616) (hg : 0 ≤ g ∧ g < 18446744073709551616) (hn : 0 ≤ n ∧ n < 18446744073709551616) (hsum : sumL lnSe xs + sumL lnNo ns ≤ 4194305) :
  Calls Tryd.prog 61 #[.agg #[.int .u64 e, .int .u64 g, .int .u64 n, .int .i64 t, .slice As xs.length cs, .slice An ns.length cn]] w fun r w' => ∃ v, r = .returned v ∧ Kd.R (Kd.int .u8) 5 w' w.heap.size (fun _ => True) v (encSt e g n xs ns) ∧ Below w.heap.size w w' := by
 have H1 := Aside0.mk h1
 have H2 := Aside0.mk h2
 have HRG := Aside0.mk hr
 have HSM := Aside0.mk hs
 have hxl : xs.length ≤ 2097152 := hs.x
 have hnl : ns.length ≤ 2097152 := hs.n
 have hsl := ses_le xs
 have HU := Aside0.mk (And.intro (u64_nat xs.length (by omega)) (u64_nat ns.length (by omega)))
 have HSU := Aside0.mk (And.intro hsum hsl)
 clear h1 hc1 h2 hc2 hr hs hsum hsl
 go_enter Tryd.func61, Tryd.ntmps61
 go_upto_region 1 with (fail)
 have bs := blk_new w (.cells #[.int .u64 e, .int .u64 g, .int .u64 n, .int .i64 t, .slice As xs.length cs, .slice An ns.length cn] 36)
 have hB := below_alloc (Below.refl w.heap.size w) (.cells #[.int .u64 e, .int .u64 g, .int .u64 n, .int .i64 t, .slice As xs.length cs, .slice An ns.length cn] 36)
 generalize w.alloc (.cells #[.int .u64 e, .int .u64 g, .int .u64 n, .int .i64 t, .slice As xs.length cs, .slice An ns.length cn] 36) = W0 at *
 have BS := Aside0.mk bs
 have HB := Aside0.mk hB
 clear bs hB
 have HBS := Aside0.mk HB.out.size
 obtain ⟨s0, s1, s2, s3, s4, s5⟩ := cells6 BS.out
 go_wp2_with fail
 refine (var_ok e he.1 he.2 _).mono ?_
 rintro r W1 ⟨E0, d0, rfl, hr, hb⟩
 clear s0 s1 s2 s3 s4 s5
 have HR := Aside0.mk (Kd.R_lower hr HBS.out)
 replace BS := Aside0.mk (blk_below BS.out hb)
 replace HB := Aside0.mk (below_step HB.out hb)
 clear hr hb
 go_upto_region 2 with (fail)
 obtain ⟨s0, s1, s2, s3, s4, s5⟩ := cells6 BS.out
 go_wp2_with fail
 refine (var_ok g hg.1 hg.2 _).mono ?_
 rintro r W2 ⟨E1, d1, rfl, hr, hb⟩
 clear s0 s1 s2 s3 s4 s5
 replace BS := Aside0.mk (blk_below BS.out hb)
 replace HB := Aside0.mk (below_step HB.out hb)
 replace HR := Aside0.mk (Kd.R_below HR.out hb)
 have HC := Aside0.mk (Kd.R_reads' hr).2.2
 clear hr hb
 have HL : Aside0 ((varN e).length ≤ 110000000 ∧ (varN g).length ≤ 4000000) := ⟨by have h0 := varN_length e; have h1 := varN_length g; have h2 := varN_length n; (try simp only [List.length_append]); omega, by have := varN_length g; omega⟩
 go_upto_region 3 with (first | ((with_reducible refine gate_builtin (b := .append) (xs := #[.tmp 11, .tmp 14]) rfl ?_); at_builtin; refine Kd.R_append_rows (Kd.int .u8) (w0 := w) w.heap.size rfl (.tmp 11) (.tmp 14) 22 5 (.int .u8 0) 1 rfl Tryd.underlying22 info5 rfl (by decide) (by omega) (.slice E0 (varN e).length d0) (varN e) (varN g) _ _ _ (fun _ => True) (fun _ => False) rfl rfl HR.out HC.out (fun _ _ h => h) (fun _ h => h.elim) (fun _ _ => trivial) HB.out HB.out.size (by have := HL.out; omega) ?_; intro o1 w1 ho hb hg hat; have BS' := Aside0.mk (blk_grown BS.out hg (Kd.R_ne HR.out BS.out (by decide))); clear BS ; have BS := BS'; clear BS'; replace HR := Aside0.mk ho; replace HB := Aside0.mk hb; clear ho hb hg hat HC HL))
 obtain ⟨s0, s1, s2, s3, s4, s5⟩ := cells6 BS.out
 go_wp2_with fail
 refine (var_ok n hn.1 hn.2 _).mono ?_
 rintro r W3 ⟨E2, d2, rfl, hr, hb⟩
 clear s0 s1 s2 s3 s4 s5
 replace BS := Aside0.mk (blk_below BS.out hb)
 replace HB := Aside0.mk (below_step HB.out hb)
 replace HR := Aside0.mk (Kd.R_below HR.out hb)
 have HC := Aside0.mk (Kd.R_reads' hr).2.2
 clear hr hb
 have HL : Aside0 ((varN e ++ varN g).length ≤ 110000000 ∧ (varN n).length ≤ 4000000) := ⟨by have h0 := varN_length e; have h1 := varN_length g; have h2 := varN_length n; (try simp only [List.length_append]); omega, by have := varN_length n; omega⟩
 go_upto_region 4 with (first | ((with_reducible refine gate_builtin (b := .append) (xs := #[.tmp 16, .tmp 19]) rfl ?_); at_builtin; refine Kd.R_append_rows (Kd.int .u8) (w0 := w) w.heap.size rfl (.tmp 16) (.tmp 19) 22 5 (.int .u8 0) 1 rfl Tryd.underlying22 info5 rfl (by decide) (by omega) o1 (varN e ++ varN g) (varN n) _ _ _ (fun _ => True) (fun _ => False) rfl rfl HR.out HC.out (fun _ _ h => h) (fun _ h => h.elim) (fun _ _ => trivial) HB.out HB.out.size (by have := HL.out; omega) ?_; intro o2 w2 ho hb hg hat; have BS' := Aside0.mk (blk_grown BS.out hg (Kd.R_ne HR.out BS.out (by decide))); clear BS ; have BS := BS'; clear BS'; replace HR := Aside0.mk ho; replace HB := Aside0.mk hb; clear ho hb hg hat HC HL))
 obtain ⟨s0, s1, s2, s3, s4, s5⟩ := cells6 BS.out
 have hu := HU.out.1
 go_wp2_with fail
 refine (var_ok (xs.length : Int) (by omega) (by omega) _).mono ?_
 rintro r W4 ⟨E3, d3, rfl, hr, hb⟩
 clear s0 s1 s2 s3 s4 s5
 replace BS := Aside0.mk (blk_below BS.out hb)
 replace HB := Aside0.mk (below_step HB.out hb)
 replace HR := Aside0.mk (Kd.R_below HR.out hb)
 have HC := Aside0.mk (Kd.R_reads' hr).2.2
 clear hr hb
 have HL : Aside0 ((varN e ++ varN g ++ varN n).length ≤ 110000000 ∧ (varN (xs.length : Int)).length ≤ 4000000) := ⟨by have h0 := varN_length e; have h1 := varN_length g; have h2 := varN_length n; simp only [List.length_append]; omega, by have := varN_length (xs.length : Int); omega⟩
 go_upto_region 5 with (first | ((with_reducible refine gate_builtin (b := .append) (xs := #[.tmp 21, .tmp 26]) rfl ?_); at_builtin; refine Kd.R_append_rows (Kd.int .u8) (w0 := w) w.heap.size rfl (.tmp 21) (.tmp 26) 22 5 (.int .u8 0) 1 rfl Tryd.underlying22 info5 rfl (by decide) (by omega) o2 (varN e ++ varN g ++ varN n) (varN (xs.length : Int)) _ _ _ (fun _ => True) (fun _ => False) rfl rfl HR.out HC.out (fun _ _ h => h) (fun _ h => h.elim) (fun _ _ => trivial) HB.out HB.out.size (by have := HL.out; omega) ?_; intro o3 w3 ho hb hg hat; have BS' := Aside0.mk (blk_grown BS.out hg (Kd.R_ne HR.out BS.out (by decide))); clear BS ; have BS := BS'; clear BS'; replace HR := Aside0.mk ho; replace HB := Aside0.mk hb; clear ho hb hg hat HC HL))
 have hhd : varN e ++ varN g ++ varN n ++ varN (xs.length : Int) = encHd e g n xs := rfl
 rw [hhd] at HR
 clear hhd
 go_wp2_with fail
 go_loopg [3, 4] (xs.length + 1) (fun kq v3 v4 w' => ∃ i : Nat, v4 = .int .i64 i ∧ Aside0 (kq + i = xs.length + 1 ∧ i ≤ xs.length) ∧ Aside0 (Kd.R (Kd.int .u8) 5 w' w.heap.size (fun _ => True) v3 (encHd e g n xs ++ (xs.take i).flatMap (fun x => varN x.f0))) ∧ Aside0 (w'.heap[w.heap.size]? = some (.cells #[.int .u64 e, .int .u64 g, .int .u64 n, .int .i64 t, .slice As xs.length cs, .slice An ns.length cn] 36 (0, 0))) ∧ Aside0 (Below w.heap.size w w'))
 case atStart => exact ⟨0, rfl, ⟨⟨by omega, by omega⟩⟩, ⟨by rw [List.take_zero, List.flatMap_nil, List.append_nil]; exact HR.out⟩, BS, HB⟩
 case round =>
  clear HR BS HB HBS
  obtain ⟨i, rfl, HJ, HR, BS, HB⟩ := hrel
  have hj0 := HJ.out
  by_cases hj : i < xs.length
  ·
   have c1 : decide ((i : Int) < (xs.length : Int)) = true := decide_eq_true (by omega)
   have c2 : decide (i < xs.length) = true := decide_eq_true hj
   have HT := Aside0.mk (flat_take (fun x : Se => varN x.f0) xs i hj)
   have hlen : (encHd e g n xs ++ (xs.take i).flatMap (fun x => varN x.f0)).length ≤ 40 + 10 * 2097152 := by
    have h1 := encHd_le e g n xs
    have h2 := flat_var_le (fun x : Se => x.f0) (xs.take i)
    rw [List.length_take] at h2
    rw [List.length_append]
    omega
   have hrg := HRG.out.x xs[i] (List.getElem_mem hj)
   have ci : (0 : Int) ≤ (i : Int) := by omega
   have ci2 : (i : Int) < (xs.length : Int) := by omega
   obtain ⟨ad, A2, c2', eA, hx0, _, _, _, _⟩ := at_T70 H1.out (i : Int) ci ci2
   rw [rd_seE xs i hj, Int.toNat_natCast] at hx0
   cases eA
   replace hx0 := (HB.out.cell (World.block_lt_of_cell? w _ hx0)).trans hx0
   try simp only at HT
   generalize xs[i].f0 = id at *
   obtain ⟨x, hxq⟩ : ∃ x, encHd e g n xs ++ (xs.take i).flatMap (fun x => varN x.f0) = x := ⟨_, rfl⟩
   rw [hxq] at HR hlen
   have HXE := Aside0.mk hxq
   clear hxq
   obtain ⟨s0, s1, s2, s3, s4, s5⟩ := cells6 BS.out
   go_wp2_with fail
   refine (var_ok id hrg.1 hrg.2 _).mono ?_
   rintro r W5 ⟨E4, d4, rfl, hr, hb⟩
   clear s0 s1 s2 s3 s4 s5
   replace BS := Aside0.mk (blk_below BS.out hb)
   replace HB := Aside0.mk (below_step HB.out hb)
   replace HR := Aside0.mk (Kd.R_below HR.out hb)
   have HC := Aside0.mk (Kd.R_reads' hr).2.2
   clear hr hb
   have HL : Aside0 ((x).length ≤ 110000000 ∧ (varN id).length ≤ 4000000) := ⟨by omega, by have := varN_length id; omega⟩
   go_upto_region 7 with (first | ((with_reducible refine gate_builtin (b := .append) (xs := #[.tmp 35, .tmp 42]) rfl ?_); at_builtin; refine Kd.R_append_rows (Kd.int .u8) (w0 := w) w.heap.size rfl (.tmp 35) (.tmp 42) 22 5 (.int .u8 0) 1 rfl Tryd.underlying22 info5 rfl (by decide) (by omega) u3 (x) (varN id) _ _ _ (fun _ => True) (fun _ => False) rfl rfl HR.out HC.out (fun _ _ h => h) (fun _ h => h.elim) (fun _ _ => trivial) HB.out HB.out.size (by have := HL.out; omega) ?_; intro o4 w4 ho hb hg hat; have BS' := Aside0.mk (blk_grown BS.out hg (Kd.R_ne HR.out BS.out (by decide))); clear BS ; have BS := BS'; clear BS'; replace HR := Aside0.mk ho; replace HB := Aside0.mk hb; clear ho hb hg hat HC HL))
   have hj2 := HJ.out
   obtain ⟨k1, rfl⟩ : ∃ k1, gk = k1 + 1 := ⟨gk - 1, by omega⟩
   go_wp2_with fail
   go_roundg k1
   case measure => omega
   case rel => exact ⟨i + 1, by go_num, ⟨⟨by omega, by omega⟩⟩, ⟨by rw [HT.out, ← List.append_assoc, HXE.out]; exact HR.out⟩, BS, HB⟩
  ·
   have c1 : decide ((i : Int) < (xs.length : Int)) = false := decide_eq_false (by omega)
   have c2 : decide (i < xs.length) = false := decide_eq_false hj
   obtain rfl : i = xs.length := by omega
   rw [List.take_length] at HR
   clear H1
   obtain ⟨s0, s1, s2, s3, s4, s5⟩ := cells6 BS.out
   go_upto_region 9 with (fail)
   clear s0 s1 s2 s3 s4 s5
   obtain ⟨s0, s1, s2, s3, s4, s5⟩ := cells6 BS.out
   have hu := HU.out.2
   go_wp2_with fail
   refine (var_ok (ns.length : Int) (by omega) (by omega) _).mono ?_
   rintro r W6 ⟨E5, d5, rfl, hr, hb⟩
   clear s0 s1 s2 s3 s4 s5
   replace BS := Aside0.mk (blk_below BS.out hb)
   replace HB := Aside0.mk (below_step HB.out hb)
   replace HR := Aside0.mk (Kd.R_below HR.out hb)
   have HC := Aside0.mk (Kd.R_reads' hr).2.2
   clear hr hb
   have HL : Aside0 ((encHd e g n xs ++ xs.flatMap (fun x => varN x.f0)).length ≤ 110000000 ∧ (varN (ns.length : Int)).length ≤ 4000000) := ⟨by have h1 := encHd_le e g n xs; have h2 := flat_var_le (fun x : Se => x.f0) xs; rw [List.length_append]; omega, by have := varN_length (ns.length : Int); omega⟩
   go_upto_region 10 with (first | ((with_reducible refine gate_builtin (b := .append) (xs := #[.tmp 44, .tmp 49]) rfl ?_); at_builtin; refine Kd.R_append_rows (Kd.int .u8) (w0 := w) w.heap.size rfl (.tmp 44) (.tmp 49) 22 5 (.int .u8 0) 1 rfl Tryd.underlying22 info5 rfl (by decide) (by omega) u3 (encHd e g n xs ++ xs.flatMap (fun x => varN x.f0)) (varN (ns.length : Int)) _ _ _ (fun _ => True) (fun _ => False) rfl rfl HR.out HC.out (fun _ _ h => h) (fun _ h => h.elim) (fun _ _ => trivial) HB.out HB.out.size (by have := HL.out; omega) ?_; intro o5 w5 ho hb hg hat; have BS' := Aside0.mk (blk_grown BS.out hg (Kd.R_ne HR.out BS.out (by decide))); clear BS ; have BS := BS'; clear BS'; replace HR := Aside0.mk ho; replace HB := Aside0.mk hb; clear ho hb hg hat HC HL))
   have hmid : encHd e g n xs ++ xs.flatMap (fun x => varN x.f0) ++ varN (ns.length : Int) = encMid e g n xs ns.length := rfl
   rw [hmid] at HR
   clear hmid HJ hj0
   go_wp2_with fail
   go_loopg [3, 5] (ns.length + 1) (fun kq v3 v5 w' => ∃ i : Nat, v5 = .int .i64 i ∧ Aside0 (kq + i = ns.length + 1 ∧ i ≤ ns.length) ∧ Aside0 (Kd.R (Kd.int .u8) 5 w' w.heap.size (fun _ => True) v3 (encMid e g n xs ns.length ++ (ns.take i).flatMap encNo)) ∧ Aside0 (w'.heap[w.heap.size]? = some (.cells #[.int .u64 e, .int .u64 g, .int .u64 n, .int .i64 t, .slice As xs.length cs, .slice An ns.length cn] 36 (0, 0))) ∧ Aside0 (Below w.heap.size w w'))
   case atStart => exact ⟨0, rfl, ⟨⟨by omega, by omega⟩⟩, ⟨by rw [List.take_zero, List.flatMap_nil, List.append_nil]; exact HR.out⟩, BS, HB⟩
   case round =>
    clear HR BS HB
    obtain ⟨i2, rfl, HJ, HR, BS, HB⟩ := hrel
    have hj0 := HJ.out
    by_cases hj : i2 < ns.length
    ·
     have c1b : decide ((i2 : Int) < (ns.length : Int)) = true := decide_eq_true (by omega)
     have c2b : decide (i2 < ns.length) = true := decide_eq_true hj
     have HT := Aside0.mk (flat_take encNo ns i2 hj)
     have hlen : (encMid e g n xs ns.length ++ (ns.take i2).flatMap encNo).length ≤ 67109000 := by
      have h1 := encMid_le e g n xs ns.length
      have h2 := flatNo_le (ns.take i2)
      have h3 := sumL_take_le lnNo ns i2
      have h4 := HSU.out.1
      have h5 := HSU.out.2
      rw [List.length_append]
      omega
     have hsm := HSM.out.m ns[i2] (List.getElem_mem hj)
     have hrg := HRG.out.m ns[i2] (List.getElem_mem hj)
     have hrp := HRG.out.p ns[i2] (List.getElem_mem hj)
     have ci : (0 : Int) ≤ (i2 : Int) := by omega
     have ci2 : (i2 : Int) < (ns.length : Int) := by omega
     obtain ⟨ad, C0, k0, C1, k1', C4, k4, C7, k7, eA, hx0, hx1, hx2, hx3, hx4, hx5, hx6, hx7, hl0, hi0, hl1, hi1, hl4, hi4, hl7, hi7⟩ := at_T76 H2.out (i2 : Int) ci ci2
     rw [rd_noE ns i2 hj] at hx0 hx1 hx2 hx3 hx4 hx5 hx6 hx7 hl0 hi0 hl1 hi1 hl4 hi4 hl7 hi7
     rw [Int.toNat_natCast] at hx0 hx1 hx2 hx3 hx4 hx5 hx6 hx7
     cases eA
     have hal : ∀ {a : Addr} {z : Value}, w.cell? a = some z → wr.cell? a = some z := fun hz => (HB.out.cell (World.block_lt_of_cell? w _ hz)).trans hz
     replace hx0 := hal hx0
     replace hx1 := hal hx1
     replace hx2 := hal hx2
     replace hx3 := hal hx3
     replace hx4 := hal hx4
     replace hx5 := hal hx5
     replace hx6 := hal hx6
     replace hx7 := hal hx7
     obtain ⟨y, hy⟩ : ∃ y, ns[i2] = y := ⟨_, rfl⟩
     rw [hy] at hx0 hx1 hx2 hx3 hx4 hx5 hx6 hx7 HT hl0 hi0 hl1 hi1 hl4 hi4 hl7 hi7 hsm hrg hrp
     clear hal hy
     obtain ⟨l0, l1, o, m, l4, ep, ge, l7⟩ := y
     simp only at hx0 hx1 hx2 hx3 hx4 hx5 hx6 hx7 hl0 hi0 hl1 hi1 hl4 hi4 hl7 hi7 hsm hrg hrp
     have HI0 := Aside0.mk (And.intro hi0 hl0)
     have HI1 := Aside0.mk (And.intro hi1 hl1)
     have HI4 := Aside0.mk (And.intro hi4 hl4)
     have HRN := Aside0.mk (And.intro hrg hrp)
     have HU4 := Aside0.mk (u64_nat l4.length (by omega))
     have hm0 := hsm.1.1.1
     have hm1 := hsm.1.2
     have hm4 := hsm.2.1
     clear hi0 hl0 hi1 hl1 hi4 hl4 hi7 hl7 hsm hrg hrp
     obtain ⟨x, hxq⟩ : ∃ x, encMid e g n xs ns.length ++ (ns.take i2).flatMap encNo = x := ⟨_, rfl⟩
     rw [hxq] at HR hlen
     have HXE := Aside0.mk hxq
     clear hxq
     obtain ⟨s0, s1, s2, s3, s4, s5⟩ := cells6 BS.out
     go_upto_region 14 with (fail)
     have bs := blk_alloc BS.out (.cells #[.slice C0 l0.length k0, .slice C1 l1.length k1', .int .u64 o, .int .i64 m, .slice C4 l4.length k4, .int .u64 ep, .int .u64 ge, .slice C7 l7.length k7] 76)
     have bn := blk_new wr (.cells #[.slice C0 l0.length k0, .slice C1 l1.length k1', .int .u64 o, .int .i64 m, .slice C4 l4.length k4, .int .u64 ep, .int .u64 ge, .slice C7 l7.length k7] 76)
     have hba := below_alloc (Below.refl wr.heap.size wr) (.cells #[.slice C0 l0.length k0, .slice C1 l1.length k1', .int .u64 o, .int .i64 m, .slice C4 l4.length k4, .int .u64 ep, .int .u64 ge, .slice C7 l7.length k7] 76)
     replace HR := Aside0.mk (Kd.R_below HR.out hba)
     replace HB := Aside0.mk (below_step HB.out hba)
     clear s0 s1 s2 s3 s4 s5 hx0 hx1 hx2 hx3 hx4 hx5 hx6 hx7 BS
     generalize wr.heap.size = gN at *
     generalize wr.alloc (.cells #[.slice C0 l0.length k0, .slice C1 l1.length k1', .int .u64 o, .int .i64 m, .slice C4 l4.length k4, .int .u64 ep, .int .u64 ge, .slice C7 l7.length k7] 76) = Wn at *
     have BS := Aside0.mk bs
     have BN := Aside0.mk bn
     clear bs bn hba
     obtain ⟨s0, s1, s2, s3, s4, s5⟩ := cells6 BS.out
     obtain ⟨n0, n1, n2, n3, n4, n5, n6, n7⟩ := cells8 BN.out
     go_wp2_with fail
     refine (text_ok C0 k0 l0 (by omega) _ (Kd.C_below HI0.out.1 HB.out) HI0.out.2).mono ?_
     rintro r W7 ⟨E6, d6, rfl, hr, hb⟩
     clear s0 s1 s2 s3 s4 s5 n0 n1 n2 n3 n4 n5 n6 n7
     replace BS := Aside0.mk (blk_below BS.out hb)
     replace HB := Aside0.mk (below_step HB.out hb)
     replace BN := Aside0.mk (blk_below BN.out hb)
     replace HR := Aside0.mk (Kd.R_below HR.out hb)
     have HC := Aside0.mk (Kd.R_reads' hr).2.2
     clear hr hb
     have HL : Aside0 ((x).length ≤ 110000000 ∧ (textB l0).length ≤ 4000000) := ⟨by omega, by have := textB_length l0; omega⟩
     go_upto_region 15 with (first | ((with_reducible refine gate_builtin (b := .append) (xs := #[.tmp 63, .tmp 66]) rfl ?_); at_builtin; refine Kd.R_append_rows (Kd.int .u8) (w0 := w) w.heap.size rfl (.tmp 63) (.tmp 66) 22 5 (.int .u8 0) 1 rfl Tryd.underlying22 info5 rfl (by decide) (by omega) u3 (x) (textB l0) _ _ _ (fun _ => True) (fun _ => False) rfl rfl HR.out HC.out (fun _ _ h => h) (fun _ h => h.elim) (fun _ _ => trivial) HB.out HB.out.size (by have := HL.out; omega) ?_; intro o6 w6 ho hb hg hat; have BS' := Aside0.mk (blk_grown BS.out hg (Kd.R_ne HR.out BS.out (by decide))); have BN' := Aside0.mk (blk_grown BN.out hg (Kd.R_ne HR.out BN.out (by decide))); clear BS BN; have BS := BS'; have BN := BN'; clear BS' BN'; replace HR := Aside0.mk ho; replace HB := Aside0.mk hb; clear ho hb hg hat HC HL))
     obtain ⟨s0, s1, s2, s3, s4, s5⟩ := cells6 BS.out
     obtain ⟨n0, n1, n2, n3, n4, n5, n6, n7⟩ := cells8 BN.out
     go_wp2_with fail
     refine (text_ok C1 k1' l1 (by omega) _ (Kd.C_below HI1.out.1 HB.out) HI1.out.2).mono ?_
     rintro r W8 ⟨E7, d7, rfl, hr, hb⟩
     clear s0 s1 s2 s3 s4 s5 n0 n1 n2 n3 n4 n5 n6 n7
     replace BS := Aside0.mk (blk_below BS.out hb)
     replace HB := Aside0.mk (below_step HB.out hb)
     replace BN := Aside0.mk (blk_below BN.out hb)
     replace HR := Aside0.mk (Kd.R_below HR.out hb)
     have HC := Aside0.mk (Kd.R_reads' hr).2.2
     clear hr hb
     have HL : Aside0 ((x ++ textB l0).length ≤ 110000000 ∧ (textB l1).length ≤ 4000000) := ⟨by have h0 := textB_length l0; have h1 := textB_length l1; have h2 := varN_length o; have h3 := varN_length (l4.length : Int); have h5 := varN_length ep; (try simp only [List.length_append, List.length_singleton]); omega, by have := textB_length l1; omega⟩
     go_upto_region 16 with (first | ((with_reducible refine gate_builtin (b := .append) (xs := #[.tmp 68, .tmp 71]) rfl ?_); at_builtin; refine Kd.R_append_rows (Kd.int .u8) (w0 := w) w.heap.size rfl (.tmp 68) (.tmp 71) 22 5 (.int .u8 0) 1 rfl Tryd.underlying22 info5 rfl (by decide) (by omega) o6 (x ++ textB l0) (textB l1) _ _ _ (fun _ => True) (fun _ => False) rfl rfl HR.out HC.out (fun _ _ h => h) (fun _ h => h.elim) (fun _ _ => trivial) HB.out HB.out.size (by have := HL.out; omega) ?_; intro o7 w7 ho hb hg hat; have BS' := Aside0.mk (blk_grown BS.out hg (Kd.R_ne HR.out BS.out (by decide))); have BN' := Aside0.mk (blk_grown BN.out hg (Kd.R_ne HR.out BN.out (by decide))); clear BS BN; have BS := BS'; have BN := BN'; clear BS' BN'; replace HR := Aside0.mk ho; replace HB := Aside0.mk hb; clear ho hb hg hat HC HL))
     obtain ⟨s0, s1, s2, s3, s4, s5⟩ := cells6 BS.out
     obtain ⟨n0, n1, n2, n3, n4, n5, n6, n7⟩ := cells8 BN.out
     go_wp2_with fail
     refine (var_ok o HRN.out.1.1.1 HRN.out.1.1.2 _).mono ?_
     rintro r W9 ⟨E8, d8, rfl, hr, hb⟩
     clear s0 s1 s2 s3 s4 s5 n0 n1 n2 n3 n4 n5 n6 n7
     replace BS := Aside0.mk (blk_below BS.out hb)
     replace HB := Aside0.mk (below_step HB.out hb)
     replace BN := Aside0.mk (blk_below BN.out hb)
     replace HR := Aside0.mk (Kd.R_below HR.out hb)
     have HC := Aside0.mk (Kd.R_reads' hr).2.2
     clear hr hb
     have HL : Aside0 ((x ++ textB l0 ++ textB l1).length ≤ 110000000 ∧ (varN o).length ≤ 4000000) := ⟨by have h0 := textB_length l0; have h1 := textB_length l1; have h2 := varN_length o; have h3 := varN_length (l4.length : Int); have h5 := varN_length ep; (try simp only [List.length_append, List.length_singleton]); omega, by have := varN_length o; omega⟩
     go_upto_region 17 with (first | ((with_reducible refine gate_builtin (b := .append) (xs := #[.tmp 73, .tmp 76]) rfl ?_); at_builtin; refine Kd.R_append_rows (Kd.int .u8) (w0 := w) w.heap.size rfl (.tmp 73) (.tmp 76) 22 5 (.int .u8 0) 1 rfl Tryd.underlying22 info5 rfl (by decide) (by omega) o7 (x ++ textB l0 ++ textB l1) (varN o) _ _ _ (fun _ => True) (fun _ => False) rfl rfl HR.out HC.out (fun _ _ h => h) (fun _ h => h.elim) (fun _ _ => trivial) HB.out HB.out.size (by have := HL.out; omega) ?_; intro o8 w8 ho hb hg hat; have BS' := Aside0.mk (blk_grown BS.out hg (Kd.R_ne HR.out BS.out (by decide))); have BN' := Aside0.mk (blk_grown BN.out hg (Kd.R_ne HR.out BN.out (by decide))); clear BS BN; have BS := BS'; have BN := BN'; clear BS' BN'; replace HR := Aside0.mk ho; replace HB := Aside0.mk hb; clear ho hb hg hat HC HL))
     obtain ⟨n0, n1, n2, n3, n4, n5, n6, n7⟩ := cells8 BN.out
     have HL : Aside0 ((x ++ textB l0 ++ textB l1 ++ varN o).length ≤ 110000000) := ⟨by have h0 := textB_length l0; have h1 := textB_length l1; have h2 := varN_length o; have h3 := varN_length (l4.length : Int); have h5 := varN_length ep; (try simp only [List.length_append, List.length_singleton]); omega⟩
     go_upto_region 18 with (first | ((with_reducible refine gate_builtin (b := .append) (xs := #[.tmp 78, .tmp 82]) rfl ?_); at_builtin; refine Kd.R_append (Kd.int .u8) (w0 := w) w.heap.size rfl (.tmp 78) (.tmp 82) 22 5 (.int .u8 0) 1 rfl Tryd.underlying22 info5 rfl (by decide) (by omega) o8 (x ++ textB l0 ++ textB l1 ++ varN o) (m % 256) [.int .u8 (m % 256)] (fun _ => True) (fun _ => False) rfl rfl ?aP (fun _ hk => hk.elim) (fun _ _ => trivial) HR.out HB.out HB.out.size (by have := HL.out; omega) ?_; (case aP => exact rfl); intro o9 w9 ho hb hg hat; have BS' := Aside0.mk (blk_grown BS.out hg (Kd.R_ne HR.out BS.out (by decide))); have BN' := Aside0.mk (blk_grown BN.out hg (Kd.R_ne HR.out BN.out (by decide))); clear BS BN; have BS := BS'; have BN := BN'; clear BS' BN'; replace HR := Aside0.mk ho; replace HB := Aside0.mk hb; clear ho hb hg hat HL n0 n1 n2 n3 n4 n5 n6 n7))
     obtain ⟨s0, s1, s2, s3, s4, s5⟩ := cells6 BS.out
     obtain ⟨n0, n1, n2, n3, n4, n5, n6, n7⟩ := cells8 BN.out
     have hu := HU4.out
     go_wp2_with fail
     refine (var_ok (l4.length : Int) (by omega) (by omega) _).mono ?_
     rintro r W11 ⟨E10, d10, rfl, hr, hb⟩
     clear s0 s1 s2 s3 s4 s5 n0 n1 n2 n3 n4 n5 n6 n7
     replace BS := Aside0.mk (blk_below BS.out hb)
     replace HB := Aside0.mk (below_step HB.out hb)
     replace BN := Aside0.mk (blk_below BN.out hb)
     replace HR := Aside0.mk (Kd.R_below HR.out hb)
     have HC := Aside0.mk (Kd.R_reads' hr).2.2
     clear hr hb
     have HL : Aside0 ((x ++ textB l0 ++ textB l1 ++ varN o ++ [m % 256]).length ≤ 110000000 ∧ (varN (l4.length : Int)).length ≤ 4000000) := ⟨by have h0 := textB_length l0; have h1 := textB_length l1; have h2 := varN_length o; have h3 := varN_length (l4.length : Int); have h5 := varN_length ep; (try simp only [List.length_append, List.length_singleton]); omega, by have := varN_length (l4.length : Int); omega⟩
     go_upto_region 19 with (first | ((with_reducible refine gate_builtin (b := .append) (xs := #[.tmp 84, .tmp 89]) rfl ?_); at_builtin; refine Kd.R_append_rows (Kd.int .u8) (w0 := w) w.heap.size rfl (.tmp 84) (.tmp 89) 22 5 (.int .u8 0) 1 rfl Tryd.underlying22 info5 rfl (by decide) (by omega) o9 (x ++ textB l0 ++ textB l1 ++ varN o ++ [m % 256]) (varN (l4.length : Int)) _ _ _ (fun _ => True) (fun _ => False) rfl rfl HR.out HC.out (fun _ _ h => h) (fun _ h => h.elim) (fun _ _ => trivial) HB.out HB.out.size (by have := HL.out; omega) ?_; intro o10 w10 ho hb hg hat; have BS' := Aside0.mk (blk_grown BS.out hg (Kd.R_ne HR.out BS.out (by decide))); have BN' := Aside0.mk (blk_grown BN.out hg (Kd.R_ne HR.out BN.out (by decide))); clear BS BN; have BS := BS'; have BN := BN'; clear BS' BN'; replace HR := Aside0.mk ho; replace HB := Aside0.mk hb; clear ho hb hg hat HC HL))
     obtain ⟨x4, hx4⟩ : ∃ x4, x ++ textB l0 ++ textB l1 ++ varN o ++ [m % 256] ++ varN (l4.length : Int) = x4 := ⟨_, rfl⟩
     have hlen4 : x4.length ≤ 72000000 := by rw [← hx4]; have h0 := textB_length l0; have h1 := textB_length l1; have h2 := varN_length o; have h3 := varN_length (l4.length : Int); have h5 := varN_length ep; (try simp only [List.length_append, List.length_singleton]); omega
     rw [hx4] at HR
     have HX4 := Aside0.mk hx4
     clear hx4
     obtain ⟨k1, rfl⟩ : ∃ k1, gk = k1 + 1 := ⟨gk - 1, by omega⟩
     go_wp2_with fail
     go_loopg [3, 7] (l4.length + 1) (fun kq v3 v7 w' => ∃ j : Nat, v7 = .int .i64 j ∧ Aside0 (kq + j = l4.length + 1 ∧ j ≤ l4.length) ∧ Aside0 (Kd.R (Kd.int .u8) 5 w' w.heap.size (fun _ => True) v3 (x4 ++ (l4.take j).flatMap varN)) ∧ Aside0 (w'.heap[w.heap.size]? = some (.cells #[.int .u64 e, .int .u64 g, .int .u64 n, .int .i64 t, .slice As xs.length cs, .slice (some ad) ns.length cn] 36 (0, 0))) ∧ Aside0 (w'.heap[gN]? = some (.cells #[.slice C0 l0.length k0, .slice C1 l1.length k1', .int .u64 o, .int .i64 m, .slice C4 l4.length k4, .int .u64 ep, .int .u64 ge, .slice C7 l7.length k7] 76 (0, 0))) ∧ Aside0 (Below w.heap.size w w'))
     case atStart => exact ⟨0, rfl, ⟨⟨by omega, by omega⟩⟩, ⟨by rw [List.take_zero, List.flatMap_nil, List.append_nil]; exact HR.out⟩, BS, BN, HB⟩
     case round =>
      clear HR BS BN HB
      obtain ⟨j, rfl, HJ4, HR, BS, BN, HB⟩ := hrel
      have hj4 := HJ4.out
      by_cases hjj : j < l4.length
      ·
       have c1c : decide ((j : Int) < (l4.length : Int)) = true := decide_eq_true (by omega)
       have c2c : decide (j < l4.length) = true := decide_eq_true hjj
       have HT4 := Aside0.mk (flat_take varN l4 j hjj)
       have hlenj : (x4 ++ (l4.take j).flatMap varN).length ≤ 100000000 := by
        have h2 := flat_varN_le (l4.take j)
        rw [List.length_take] at h2
        rw [List.length_append]
        omega
       obtain ⟨ad4, eB, hz0⟩ := C_u64 HI4.out.1 j hjj
       have hrj := HRN.out.1.2.1 l4[j] (List.getElem_mem hjj)
       have hz1 := (HB.out.cell (World.block_lt_of_cell? w _ hz0)).trans hz0
       cases eB
       generalize l4[j] = idj at *
       have d1 : (0 : Int) ≤ (j : Int) := by omega
       have d2 : (j : Int) < (l4.length : Int) := by omega
       obtain ⟨x5, hxq⟩ : ∃ x5, x4 ++ (l4.take j).flatMap varN = x5 := ⟨_, rfl⟩
       rw [hxq] at HR hlenj
       have HX5 := Aside0.mk hxq
       clear hxq hz0
       obtain ⟨s0, s1, s2, s3, s4, s5⟩ := cells6 BS.out
       obtain ⟨n0, n1, n2, n3, n4, n5, n6, n7⟩ := cells8 BN.out
       go_wp2_with fail
       refine (var_ok idj hrj.1 hrj.2 _).mono ?_
       rintro r W12 ⟨E11, d11, rfl, hr, hb⟩
       clear s0 s1 s2 s3 s4 s5 n0 n1 n2 n3 n4 n5 n6 n7
       replace BS := Aside0.mk (blk_below BS.out hb)
       replace HB := Aside0.mk (below_step HB.out hb)
       replace BN := Aside0.mk (blk_below BN.out hb)
       replace HR := Aside0.mk (Kd.R_below HR.out hb)
       have HC := Aside0.mk (Kd.R_reads' hr).2.2
       clear hr hb
       have HL : Aside0 ((x5).length ≤ 110000000 ∧ (varN idj).length ≤ 4000000) := ⟨by omega, by have := varN_length idj; omega⟩
       go_upto_region 21 with (first | ((with_reducible refine gate_builtin (b := .append) (xs := #[.tmp 98, .tmp 104]) rfl ?_); at_builtin; refine Kd.R_append_rows (Kd.int .u8) (w0 := w) w.heap.size rfl (.tmp 98) (.tmp 104) 22 5 (.int .u8 0) 1 rfl Tryd.underlying22 info5 rfl (by decide) (by omega) u3 (x5) (varN idj) _ _ _ (fun _ => True) (fun _ => False) rfl rfl HR.out HC.out (fun _ _ h => h) (fun _ h => h.elim) (fun _ _ => trivial) HB.out HB.out.size (by have := HL.out; omega) ?_; intro o11 w11 ho hb hg hat; have BS' := Aside0.mk (blk_grown BS.out hg (Kd.R_ne HR.out BS.out (by decide))); have BN' := Aside0.mk (blk_grown BN.out hg (Kd.R_ne HR.out BN.out (by decide))); clear BS BN; have BS := BS'; have BN := BN'; clear BS' BN'; replace HR := Aside0.mk ho; replace HB := Aside0.mk hb; clear ho hb hg hat HC HL))
       have hj5 := HJ4.out
       obtain ⟨k2, rfl⟩ : ∃ k2, gk = k2 + 1 := ⟨gk - 1, by omega⟩
       go_wp2_with fail
       go_roundg k2
       case measure => omega
       case rel => exact ⟨j + 1, by go_num, ⟨⟨by omega, by omega⟩⟩, ⟨by rw [HT4.out, ← List.append_assoc, HX5.out]; exact HR.out⟩, BS, BN, HB⟩
      ·
       have c1c : decide ((j : Int) < (l4.length : Int)) = false := decide_eq_false (by omega)
       have c2c : decide (j < l4.length) = false := decide_eq_false hjj
       obtain rfl : j = l4.length := by omega
       rw [List.take_length] at HR
       obtain ⟨n0, n1, n2, n3, n4, n5, n6, n7⟩ := cells8 BN.out
       go_upto_region 23 with (fail)
       clear n0 n1 n2 n3 n4 n5 n6 n7
       have hlen5 : (x4 ++ l4.flatMap varN).length ≤ 100000000 := by
        have h2 := flat_varN_le l4
        rw [List.length_append]
        omega
       obtain ⟨x5, hxq⟩ : ∃ x5, x4 ++ l4.flatMap varN = x5 := ⟨_, rfl⟩
       rw [hxq] at HR hlen5
       have HX5 := Aside0.mk hxq
       clear hxq HJ4 hj4
       obtain ⟨s0, s1, s2, s3, s4, s5⟩ := cells6 BS.out
       obtain ⟨n0, n1, n2, n3, n4, n5, n6, n7⟩ := cells8 BN.out
       go_wp2_with fail
       refine (var_ok ep HRN.out.2.1.1 HRN.out.2.1.2 _).mono ?_
       rintro r W13 ⟨E12, d12, rfl, hr, hb⟩
       clear s0 s1 s2 s3 s4 s5 n0 n1 n2 n3 n4 n5 n6 n7
       replace BS := Aside0.mk (blk_below BS.out hb)
       replace HB := Aside0.mk (below_step HB.out hb)
       replace BN := Aside0.mk (blk_below BN.out hb)
       replace HR := Aside0.mk (Kd.R_below HR.out hb)
       have HC := Aside0.mk (Kd.R_reads' hr).2.2
       clear hr hb
       have HL : Aside0 ((x5).length ≤ 110000000 ∧ (varN ep).length ≤ 4000000) := ⟨by omega, by have := varN_length ep; omega⟩
       go_upto_region 24 with (first | ((with_reducible refine gate_builtin (b := .append) (xs := #[.tmp 106, .tmp 109]) rfl ?_); at_builtin; refine Kd.R_append_rows (Kd.int .u8) (w0 := w) w.heap.size rfl (.tmp 106) (.tmp 109) 22 5 (.int .u8 0) 1 rfl Tryd.underlying22 info5 rfl (by decide) (by omega) u3 (x5) (varN ep) _ _ _ (fun _ => True) (fun _ => False) rfl rfl HR.out HC.out (fun _ _ h => h) (fun _ h => h.elim) (fun _ _ => trivial) HB.out HB.out.size (by have := HL.out; omega) ?_; intro o12 w12 ho hb hg hat; have BS' := Aside0.mk (blk_grown BS.out hg (Kd.R_ne HR.out BS.out (by decide))); have BN' := Aside0.mk (blk_grown BN.out hg (Kd.R_ne HR.out BN.out (by decide))); clear BS BN; have BS := BS'; have BN := BN'; clear BS' BN'; replace HR := Aside0.mk ho; replace HB := Aside0.mk hb; clear ho hb hg hat HC HL))
       obtain ⟨s0, s1, s2, s3, s4, s5⟩ := cells6 BS.out
       obtain ⟨n0, n1, n2, n3, n4, n5, n6, n7⟩ := cells8 BN.out
       go_wp2_with fail
       refine (var_ok ge HRN.out.2.2.1 HRN.out.2.2.2 _).mono ?_
       rintro r W14 ⟨E13, d13, rfl, hr, hb⟩
       clear s0 s1 s2 s3 s4 s5 n0 n1 n2 n3 n4 n5 n6 n7
       replace BS := Aside0.mk (blk_below BS.out hb)
       replace HB := Aside0.mk (below_step HB.out hb)
       replace BN := Aside0.mk (blk_below BN.out hb)
       replace HR := Aside0.mk (Kd.R_below HR.out hb)
       have HC := Aside0.mk (Kd.R_reads' hr).2.2
       clear hr hb
       have HL : Aside0 ((x5 ++ varN ep).length ≤ 110000000 ∧ (varN ge).length ≤ 4000000) := ⟨by have := varN_length ep; rw [List.length_append]; omega, by have := varN_length ge; omega⟩
       go_upto_region 12 with (first | ((with_reducible refine gate_builtin (b := .append) (xs := #[.tmp 111, .tmp 114]) rfl ?_); at_builtin; refine Kd.R_append_rows (Kd.int .u8) (w0 := w) w.heap.size rfl (.tmp 111) (.tmp 114) 22 5 (.int .u8 0) 1 rfl Tryd.underlying22 info5 rfl (by decide) (by omega) o12 (x5 ++ varN ep) (varN ge) _ _ _ (fun _ => True) (fun _ => False) rfl rfl HR.out HC.out (fun _ _ h => h) (fun _ h => h.elim) (fun _ _ => trivial) HB.out HB.out.size (by have := HL.out; omega) ?_; intro o13 w13 ho hb hg hat; have BS' := Aside0.mk (blk_grown BS.out hg (Kd.R_ne HR.out BS.out (by decide))); have BN' := Aside0.mk (blk_grown BN.out hg (Kd.R_ne HR.out BN.out (by decide))); clear BS BN; have BS := BS'; have BN := BN'; clear BS' BN'; replace HR := Aside0.mk ho; replace HB := Aside0.mk hb; clear ho hb hg hat HC HL))
       have hfin : x5 ++ varN ep ++ varN ge = encMid e g n xs ns.length ++ (ns.take (i2 + 1)).flatMap encNo := by
        rw [HT.out, ← HX5.out, ← HX4.out, ← HXE.out]
        simp only [encNo, List.append_assoc]
       rw [hfin] at HR
       clear hfin
       have hj2 := HJ.out
       go_wp2_with fail
       go_roundg k1
       case measure => omega
       case rel => exact ⟨i2 + 1, by go_num, ⟨⟨by omega, by omega⟩⟩, HR, BS, HB⟩
    ·
     have c1b : decide ((i2 : Int) < (ns.length : Int)) = false := decide_eq_false (by omega)
     have c2b : decide (i2 < ns.length) = false := decide_eq_false hj
     obtain rfl : i2 = ns.length := by omega
     rw [List.take_length] at HR
     obtain ⟨s0, s1, s2, s3, s4, s5⟩ := cells6 BS.out
     go_wp2_with fail
     go_ret
     exact ⟨_, rfl, HR.out, HB.out⟩
end Go.Proofs.YtbgbocdohadhoaaDoor.Print
