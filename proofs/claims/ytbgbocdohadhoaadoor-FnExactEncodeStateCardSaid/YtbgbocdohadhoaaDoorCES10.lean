/- Texts of this session, joined by its own program. -/
import Derived.Deep.LoopGhost
import Derived.Laws.BitsLemmas
import Derived.Deep.RegionLaw
import Derived.Test.YtbgbocdohadhoaaDoorCards
import Derived.Test.YtbgbocdohadhoaaDoorTie
import Derived.WalkKit
import Derived.Below
import Derived.LaidMore
import Derived.Lay
import Derived.SevenTiedAt
import Derived.Stop.Joined
import Derived.Test.YtbgbocdohadhoaaDoorCES9
namespace Go.Proofs.YtbgbocdohadhoaaDoor.Print
open Go Go.RowKit Go.Proofs.YtbgbocdohadhoaaDoorW.PrintWords Go.Proofs.YtbgbocdohadhoaaDoorW.PrintLast Go.Proofs.YtbgbocdohadhoaaDoorW.PrintMore
set_option linter.unusedVariables false
set_option linter.unusedSimpArgs false
theorem rd_seE (xs : List Se) (i : Nat) (h : i < xs.length) : rd_T70 xs (i : Int) = xs[i] := by unfold rd_T70; rw [Int.toNat_natCast, List.getD_eq_getElem?_getD, List.getElem?_eq_getElem h]; rfl
theorem rd_noE (xs : List No) (i : Nat) (h : i < xs.length) : rd_T76 xs (i : Int) = xs[i] := by unfold rd_T76; rw [Int.toNat_natCast, List.getD_eq_getElem?_getD, List.getElem?_eq_getElem h]; rfl
theorem C_u64 {w : World} {A : Option Addr} {l : List Int} (h : Kd.C (Kd.int .u64) w A l.length l) (j : Nat) (hj : j < l.length) : ∃ ad, A = some ad ∧ w.cell? (ad.add j) = some (.int .u64 l[j]) := by
 obtain ⟨ad, c, rfl, hcl, hK, hcc⟩ := Kd.C_get h 0 (j : Int) (by omega) (by omega)
 have hK' : c = [.int .u64 (l.getD (j : Int).toNat 0)] := hK
 subst hK'
 have hc := hcc 0 _ rfl
 rw [show (j : Int).toNat * (Kd.int .u64).sz + 0 = j by show (j : Int).toNat * 1 + 0 = j; omega, Int.toNat_natCast, List.getD_eq_getElem?_getD, List.getElem?_eq_getElem hj] at hc
 exact ⟨ad, rfl, hc⟩
theorem flat_take {α : Type} (f : α → List Int) (l : List α) (i : Nat) (h : i < l.length) : (l.take (i + 1)).flatMap f = (l.take i).flatMap f ++ f l[i] := by
 rw [List.take_succ_eq_append_getElem h, List.flatMap_append, List.flatMap_singleton]
set_option maxHeartbeats 4000000 in
set_option maxRecDepth 100000 in
theorem l3enc_ok (e g n t : Int) (As : Option Addr) (cs : Nat) (xs : List Se) (An : Option Addr) (cn : Nat) (ns : List No) (w : World) (h1 : Kd.C kSe w As xs.length xs) (hc1 : xs.length ≤ cs) (h2 : Kd.C kNo w An ns.length ns) (hc2 : ns.length ≤ cn) (hs : SmS xs ns) (hr : RgT xs ns) (he : 0 ≤ e ∧ e < 18446744073709551616) (hg : 0 ≤ g ∧ g < 18446744073709551616) (hn : 0 ≤ n ∧ n < 18446744073709551616) (hsum : sumL lnSe xs + sumL lnNo ns ≤ 4194305) :
  Calls Tryd.prog 61 #[.agg #[.int .u64 e, .int .u64 g, .int .u64 n, .int .i64 t, .slice As xs.length cs, .slice An ns.length cn]] w fun r w' => ∃ v, r = .returned v ∧ Kd.R (Kd.int .u8) 5 w' w.heap.size (fun _ => True) v (encSt e g n xs ns) ∧ Below w.heap.size w w' := by
 have H1 := Aside0.mk h1
 have H2 := Aside0.mk h2
 have HRG := Aside0.mk hr
 have HSM := Aside0.mk hs
 have hxl : xs.length ≤ 2097152 := hs.x
 have hnl : ns.length ≤ 2097152 := hs.n
 have hsl := ses_le xs
 have HU := Aside0.mk (And.intro (u64_nat xs.length (by omega)) (u64_nat ns.length (by omega)))
 have HSU := Aside0.mk (And.intro hsum hsl)
 clear h1 hc1 h2 hc2 hr hs hsum hsl
 go_enter Tryd.func61, Tryd.ntmps61
 go_upto_region 1 with (fail)
 have bs := blk_new w (.cells #[.int .u64 e, .int .u64 g, .int .u64 n, .int .i64 t, .slice As xs.length cs, .slice An ns.length cn] 36)
 have hB := below_alloc (Below.refl w.heap.size w) (.cells #[.int .u64 e, .int .u64 g, .int .u64 n, .int .i64 t, .slice As xs.length cs, .slice An ns.length cn] 36)
 generalize w.alloc (.cells #[.int .u64 e, .int .u64 g, .int .u64 n, .int .i64 t, .slice As xs.length cs, .slice An ns.length cn] 36) = W0 at *
 have BS := Aside0.mk bs
 have HB := Aside0.mk hB
 clear bs hB
 have HBS := Aside0.mk HB.out.size
 obtain ⟨s0, s1, s2, s3, s4, s5⟩ := cells6 BS.out
 go_wp2_with fail
 refine (var_ok e he.1 he.2 _).mono ?_
 rintro r W1 ⟨E0, d0, rfl, hr, hb⟩
 clear s0 s1 s2 s3 s4 s5
 have HR := Aside0.mk (Kd.R_lower hr HBS.out)
 replace BS := Aside0.mk (blk_below BS.out hb)
 replace HB := Aside0.mk (below_step HB.out hb)
 clear hr hb
 go_upto_region 2 with (fail)
 obtain ⟨s0, s1, s2, s3, s4, s5⟩ := cells6 BS.out
 go_wp2_with fail
 refine (var_ok g hg.1 hg.2 _).mono ?_
 rintro r W2 ⟨E1, d1, rfl, hr, hb⟩
 clear s0 s1 s2 s3 s4 s5
 replace BS := Aside0.mk (blk_below BS.out hb)
 replace HB := Aside0.mk (below_step HB.out hb)
 replace HR := Aside0.mk (Kd.R_below HR.out hb)
 have HC := Aside0.mk (Kd.R_reads' hr).2.2
 clear hr hb
 have HL : Aside0 ((varN e).length ≤ 110000000 ∧ (varN g).length ≤ 4000000) := ⟨by have h0 := varN_length e; have h1 := varN_length g; have h2 := varN_length n; (try simp only [List.length_append]); omega, by have := varN_length g; omega⟩
 go_upto_region 3 with (first | ((with_reducible refine gate_builtin (b := .append) (xs := #[.tmp 11, .tmp 14]) rfl ?_); at_builtin; refine Kd.R_append_rows (Kd.int .u8) (w0 := w) w.heap.size rfl (.tmp 11) (.tmp 14) 22 5 (.int .u8 0) 1 rfl Tryd.underlying22 info5 rfl (by decide) (by omega) (.slice E0 (varN e).length d0) (varN e) (varN g) _ _ _ (fun _ => True) (fun _ => False) rfl rfl HR.out HC.out (fun _ _ h => h) (fun _ h => h.elim) (fun _ _ => trivial) HB.out HB.out.size (by have := HL.out; omega) ?_; intro o1 w1 ho hb hg hat; have BS' := Aside0.mk (blk_grown BS.out hg (Kd.R_ne HR.out BS.out (by decide))); clear BS ; have BS := BS'; clear BS'; replace HR := Aside0.mk ho; replace HB := Aside0.mk hb; clear ho hb hg hat HC HL))
 obtain ⟨s0, s1, s2, s3, s4, s5⟩ := cells6 BS.out
 go_wp2_with fail
 refine (var_ok n hn.1 hn.2 _).mono ?_
 rintro r W3 ⟨E2, d2, rfl, hr, hb⟩
 clear s0 s1 s2 s3 s4 s5
 replace BS := Aside0.mk (blk_below BS.out hb)
 replace HB := Aside0.mk (below_step HB.out hb)
 replace HR := Aside0.mk (Kd.R_below HR.out hb)
 have HC := Aside0.mk (Kd.R_reads' hr).2.2
 clear hr hb
 have HL : Aside0 ((varN e ++ varN g).length ≤ 110000000 ∧ (varN n).length ≤ 4000000) := ⟨by have h0 := varN_length e; have h1 := varN_length g; have h2 := varN_length n; (try simp only [List.length_append]); omega, by have := varN_length n; omega⟩
 go_upto_region 4 with (first | ((with_reducible refine gate_builtin (b := .append) (xs := #[.tmp 16, .tmp 19]) rfl ?_); at_builtin; refine Kd.R_append_rows (Kd.int .u8) (w0 := w) w.heap.size rfl (.tmp 16) (.tmp 19) 22 5 (.int .u8 0) 1 rfl Tryd.underlying22 info5 rfl (by decide) (by omega) o1 (varN e ++ varN g) (varN n) _ _ _ (fun _ => True) (fun _ => False) rfl rfl HR.out HC.out (fun _ _ h => h) (fun _ h => h.elim) (fun _ _ => trivial) HB.out HB.out.size (by have := HL.out; omega) ?_; intro o2 w2 ho hb hg hat; have BS' := Aside0.mk (blk_grown BS.out hg (Kd.R_ne HR.out BS.out (by decide))); clear BS ; have BS := BS'; clear BS'; replace HR := Aside0.mk ho; replace HB := Aside0.mk hb; clear ho hb hg hat HC HL))
 obtain ⟨s0, s1, s2, s3, s4, s5⟩ := cells6 BS.out
 have hu := HU.out.1
 go_wp2_with fail
 refine (var_ok (xs.length : Int) (by omega) (by omega) _).mono ?_
 rintro r W4 ⟨E3, d3, rfl, hr, hb⟩
 clear s0 s1 s2 s3 s4 s5
 replace BS := Aside0.mk (blk_below BS.out hb)
 replace HB := Aside0.mk (below_step HB.out hb)
 replace HR := Aside0.mk (Kd.R_below HR.out hb)
 have HC := Aside0.mk (Kd.R_reads' hr).2.2
 clear hr hb
 have HL : Aside0 ((varN e ++ varN g ++ varN n).length ≤ 110000000 ∧ (varN (xs.length : Int)).length ≤ 4000000) := ⟨by have h0 := varN_length e; have h1 := varN_length g; have h2 := varN_length n; simp only [List.length_append]; omega, by have := varN_length (xs.length : Int); omega⟩
 go_upto_region 5 with (first | ((with_reducible refine gate_builtin (b := .append) (xs := #[.tmp 21, .tmp 26]) rfl ?_); at_builtin; refine Kd.R_append_rows (Kd.int .u8) (w0 := w) w.heap.size rfl (.tmp 21) (.tmp 26) 22 5 (.int .u8 0) 1 rfl Tryd.underlying22 info5 rfl (by decide) (by omega) o2 (varN e ++ varN g ++ varN n) (varN (xs.length : Int)) _ _ _ (fun _ => True) (fun _ => False) rfl rfl HR.out HC.out (fun _ _ h => h) (fun _ h => h.elim) (fun _ _ => trivial) HB.out HB.out.size (by have := HL.out; omega) ?_; intro o3 w3 ho hb hg hat; have BS' := Aside0.mk (blk_grown BS.out hg (Kd.R_ne HR.out BS.out (by decide))); clear BS ; have BS := BS'; clear BS'; replace HR := Aside0.mk ho; replace HB := Aside0.mk hb; clear ho hb hg hat HC HL))
 have hhd : varN e ++ varN g ++ varN n ++ varN (xs.length : Int) = encHd e g n xs := rfl
 rw [hhd] at HR
 clear hhd
 go_wp2_with fail
 go_loopg [3, 4] (xs.length + 1) (fun kq v3 v4 w' => ∃ i : Nat, v4 = .int .i64 i ∧ Aside0 (kq + i = xs.length + 1 ∧ i ≤ xs.length) ∧ Aside0 (Kd.R (Kd.int .u8) 5 w' w.heap.size (fun _ => True) v3 (encHd e g n xs ++ (xs.take i).flatMap (fun x => varN x.f0))) ∧ Aside0 (w'.heap[w.heap.size]? = some (.cells #[.int .u64 e, .int .u64 g, .int .u64 n, .int .i64 t, .slice As xs.length cs, .slice An ns.length cn] 36 (0, 0))) ∧ Aside0 (Below w.heap.size w w'))
 case atStart => exact ⟨0, rfl, ⟨⟨by omega, by omega⟩⟩, ⟨by rw [List.take_zero, List.flatMap_nil, List.append_nil]; exact HR.out⟩, BS, HB⟩
 case round =>
  clear HR BS HB HBS
  obtain ⟨i, rfl, HJ, HR, BS, HB⟩ := hrel
  have hj0 := HJ.out
  by_cases hj : i < xs.length
  ·
   have c1 : decide ((i : Int) < (xs.length : Int)) = true := decide_eq_true (by omega)
   have c2 : decide (i < xs.length) = true := decide_eq_true hj
   have HT := Aside0.mk (flat_take (fun x : Se => varN x.f0) xs i hj)
   have hlen : (encHd e g n xs ++ (xs.take i).flatMap (fun x => varN x.f0)).length ≤ 40 + 10 * 2097152 := by
    have h1 := encHd_le e g n xs
    have h2 := flat_var_le (fun x : Se => x.f0) (xs.take i)
    rw [List.length_take] at h2
    rw [List.length_append]
    omega
   have hrg := HRG.out.x xs[i] (List.getElem_mem hj)
   have ci : (0 : Int) ≤ (i : Int) := by omega
   have ci2 : (i : Int) < (xs.length : Int) := by omega
   obtain ⟨ad, A2, c2', eA, hx0, _, _, _, _⟩ := at_T70 H1.out (i : Int) ci ci2
   rw [rd_seE xs i hj, Int.toNat_natCast] at hx0
   cases eA
   replace hx0 := (HB.out.cell (World.block_lt_of_cell? w _ hx0)).trans hx0
   try simp only at HT
   generalize xs[i].f0 = id at *
   obtain ⟨x, hxq⟩ : ∃ x, encHd e g n xs ++ (xs.take i).flatMap (fun x => varN x.f0) = x := ⟨_, rfl⟩
   rw [hxq] at HR hlen
   have HXE := Aside0.mk hxq
   clear hxq
   obtain ⟨s0, s1, s2, s3, s4, s5⟩ := cells6 BS.out
   go_wp2_with fail
   refine (var_ok id hrg.1 hrg.2 _).mono ?_
   rintro r W5 ⟨E4, d4, rfl, hr, hb⟩
   clear s0 s1 s2 s3 s4 s5
   replace BS := Aside0.mk (blk_below BS.out hb)
   replace HB := Aside0.mk (below_step HB.out hb)
   replace HR := Aside0.mk (Kd.R_below HR.out hb)
   have HC := Aside0.mk (Kd.R_reads' hr).2.2
   clear hr hb
   have HL : Aside0 ((x).length ≤ 110000000 ∧ (varN id).length ≤ 4000000) := ⟨by omega, by have := varN_length id; omega⟩
   go_upto_region 7 with (first | ((with_reducible refine gate_builtin (b := .append) (xs := #[.tmp 35, .tmp 42]) rfl ?_); at_builtin; refine Kd.R_append_rows (Kd.int .u8) (w0 := w) w.heap.size rfl (.tmp 35) (.tmp 42) 22 5 (.int .u8 0) 1 rfl Tryd.underlying22 info5 rfl (by decide) (by omega) u3 (x) (varN id) _ _ _ (fun _ => True) (fun _ => False) rfl rfl HR.out HC.out (fun _ _ h => h) (fun _ h => h.elim) (fun _ _ => trivial) HB.out HB.out.size (by have := HL.out; omega) ?_; intro o4 w4 ho hb hg hat; have BS' := Aside0.mk (blk_grown BS.out hg (Kd.R_ne HR.out BS.out (by decide))); clear BS ; have BS := BS'; clear BS'; replace HR := Aside0.mk ho; replace HB := Aside0.mk hb; clear ho hb hg hat HC HL))
   have hj2 := HJ.out
   obtain ⟨k1, rfl⟩ : ∃ k1, gk = k1 + 1 := ⟨gk - 1, by omega⟩
   go_wp2_with fail
   go_roundg k1
   case measure => omega
   case rel => exact ⟨i + 1, by go_num, ⟨⟨by omega, by omega⟩⟩, ⟨by rw [HT.out, ← List.append_assoc, HXE.out]; exact HR.out⟩, BS, HB⟩
  ·
   have c1 : decide ((i : Int) < (xs.length : Int)) = false := decide_eq_false (by omega)
   have c2 : decide (i < xs.length) = false := decide_eq_false hj
   obtain rfl : i = xs.length := by omega
   rw [List.take_length] at HR
   clear H1
   obtain ⟨s0, s1, s2, s3, s4, s5⟩ := cells6 BS.out
   go_upto_region 9 with (fail)
   clear s0 s1 s2 s3 s4 s5
   obtain ⟨s0, s1, s2, s3, s4, s5⟩ := cells6 BS.out
   have hu := HU.out.2
   go_wp2_with fail
   refine (var_ok (ns.length : Int) (by omega) (by omega) _).mono ?_
   rintro r W6 ⟨E5, d5, rfl, hr, hb⟩
   clear s0 s1 s2 s3 s4 s5
   replace BS := Aside0.mk (blk_below BS.out hb)
   replace HB := Aside0.mk (below_step HB.out hb)
   replace HR := Aside0.mk (Kd.R_below HR.out hb)
   have HC := Aside0.mk (Kd.R_reads' hr).2.2
   clear hr hb
   have HL : Aside0 ((encHd e g n xs ++ xs.flatMap (fun x => varN x.f0)).length ≤ 110000000 ∧ (varN (ns.length : Int)).length ≤ 4000000) := ⟨by have h1 := encHd_le e g n xs; have h2 := flat_var_le (fun x : Se => x.f0) xs; rw [List.length_append]; omega, by have := varN_length (ns.length : Int); omega⟩
   go_upto_region 10 with (first | ((with_reducible refine gate_builtin (b := .append) (xs := #[.tmp 44, .tmp 49]) rfl ?_); at_builtin; refine Kd.R_append_rows (Kd.int .u8) (w0 := w) w.heap.size rfl (.tmp 44) (.tmp 49) 22 5 (.int .u8 0) 1 rfl Tryd.underlying22 info5 rfl (by decide) (by omega) u3 (encHd e g n xs ++ xs.flatMap (fun x => varN x.f0)) (varN (ns.length : Int)) _ _ _ (fun _ => True) (fun _ => False) rfl rfl HR.out HC.out (fun _ _ h => h) (fun _ h => h.elim) (fun _ _ => trivial) HB.out HB.out.size (by have := HL.out; omega) ?_; intro o5 w5 ho hb hg hat; have BS' := Aside0.mk (blk_grown BS.out hg (Kd.R_ne HR.out BS.out (by decide))); clear BS ; have BS := BS'; clear BS'; replace HR := Aside0.mk ho; replace HB := Aside0.mk hb; clear ho hb hg hat HC HL))
   have hmid : encHd e g n xs ++ xs.flatMap (fun x => varN x.f0) ++ varN (ns.length : Int) = encMid e g n xs ns.length := rfl
   rw [hmid] at HR
   clear hmid HJ hj0
   go_wp2_with fail
   go_loopg [3, 5] (ns.length + 1) (fun kq v3 v5 w' => ∃ i : Nat, v5 = .int .i64 i ∧ Aside0 (kq + i = ns.length + 1 ∧ i ≤ ns.length) ∧ Aside0 (Kd.R (Kd.int .u8) 5 w' w.heap.size (fun _ => True) v3 (encMid e g n xs ns.length ++ (ns.take i).flatMap encNo)) ∧ Aside0 (w'.heap[w.heap.size]? = some (.cells #[.int .u64 e, .int .u64 g, .int .u64 n, .int .i64 t, .slice As xs.length cs, .slice An ns.length cn] 36 (0, 0))) ∧ Aside0 (Below w.heap.size w w'))
   case atStart => exact ⟨0, rfl, ⟨⟨by omega, by omega⟩⟩, ⟨by rw [List.take_zero, List.flatMap_nil, List.append_nil]; exact HR.out⟩, BS, HB⟩
   case round =>
    clear HR BS HB
    obtain ⟨i2, rfl, HJ, HR, BS, HB⟩ := hrel
    have hj0 := HJ.out
    by_cases hj : i2 < ns.length
    ·
     have c1b : decide ((i2 : Int) < (ns.length : Int)) = true := decide_eq_true (by omega)
     have c2b : decide (i2 < ns.length) = true := decide_eq_true hj
     have HT := Aside0.mk (flat_take encNo ns i2 hj)
     have hlen : (encMid e g n xs ns.length ++ (ns.take i2).flatMap encNo).length ≤ 67109000 := by
      have h1 := encMid_le e g n xs ns.length
      have h2 := flatNo_le (ns.take i2)
      have h3 := sumL_take_le lnNo ns i2
      have h4 := HSU.out.1
      have h5 := HSU.out.2
      rw [List.length_append]
      omega
     have hsm := HSM.out.m ns[i2] (List.getElem_mem hj)
     have hrg := HRG.out.m ns[i2] (List.getElem_mem hj)
     have hrp := HRG.out.p ns[i2] (List.getElem_mem hj)
     have ci : (0 : Int) ≤ (i2 : Int) := by omega
     have ci2 : (i2 : Int) < (ns.length : Int) := by omega
     obtain ⟨ad, C0, k0, C1, k1', C4, k4, C7, k7, eA, hx0, hx1, hx2, hx3, hx4, hx5, hx6, hx7, hl0, hi0, hl1, hi1, hl4, hi4, hl7, hi7⟩ := at_T76 H2.out (i2 : Int) ci ci2
     rw [rd_noE ns i2 hj] at hx0 hx1 hx2 hx3 hx4 hx5 hx6 hx7 hl0 hi0 hl1 hi1 hl4 hi4 hl7 hi7
     rw [Int.toNat_natCast] at hx0 hx1 hx2 hx3 hx4 hx5 hx6 hx7
     cases eA
     have hal : ∀ {a : Addr} {z : Value}, w.cell? a = some z → wr.cell? a = some z := fun hz => (HB.out.cell (World.block_lt_of_cell? w _ hz)).trans hz
     replace hx0 := hal hx0
     replace hx1 := hal hx1
     replace hx2 := hal hx2
     replace hx3 := hal hx3
     replace hx4 := hal hx4
     replace hx5 := hal hx5
     replace hx6 := hal hx6
     replace hx7 := hal hx7
     obtain ⟨y, hy⟩ : ∃ y, ns[i2] = y := ⟨_, rfl⟩
     rw [hy] at hx0 hx1 hx2 hx3 hx4 hx5 hx6 hx7 HT hl0 hi0 hl1 hi1 hl4 hi4 hl7 hi7 hsm hrg hrp
     clear hal hy
     obtain ⟨l0, l1, o, m, l4, ep, ge, l7⟩ := y
     simp only at hx0 hx1 hx2 hx3 hx4 hx5 hx6 hx7 hl0 hi0 hl1 hi1 hl4 hi4 hl7 hi7 hsm hrg hrp
     have HI0 := Aside0.mk (And.intro hi0 hl0)
     have HI1 := Aside0.mk (And.intro hi1 hl1)
     have HI4 := Aside0.mk (And.intro hi4 hl4)
     have HRN := Aside0.mk (And.intro hrg hrp)
     have HU4 := Aside0.mk (u64_nat l4.length (by omega))
     have hm0 := hsm.1.1.1
     have hm1 := hsm.1.2
     have hm4 := hsm.2.1
     clear hi0 hl0 hi1 hl1 hi4 hl4 hi7 hl7 hsm hrg hrp
     obtain ⟨x, hxq⟩ : ∃ x, encMid e g n xs ns.length ++ (ns.take i2).flatMap encNo = x := ⟨_, rfl⟩
     rw [hxq] at HR hlen
     have HXE := Aside0.mk hxq
     clear hxq
     obtain ⟨s0, s1, s2, s3, s4, s5⟩ := cells6 BS.out
     go_upto_region 14 with (fail)
     have bs := blk_alloc BS.out (.cells #[.slice C0 l0.length k0, .slice C1 l1.length k1', .int .u64 o, .int .i64 m, .slice C4 l4.length k4, .int .u64 ep, .int .u64 ge, .slice C7 l7.length k7] 76)
     have bn := blk_new wr (.cells #[.slice C0 l0.length k0, .slice C1 l1.length k1', .int .u64 o, .int .i64 m, .slice C4 l4.length k4, .int .u64 ep, .int .u64 ge, .slice C7 l7.length k7] 76)
     have hba := below_alloc (Below.refl wr.heap.size wr) (.cells #[.slice C0 l0.length k0, .slice C1 l1.length k1', .int .u64 o, .int .i64 m, .slice C4 l4.length k4, .int .u64 ep, .int .u64 ge, .slice C7 l7.length k7] 76)
     replace HR := Aside0.mk (Kd.R_below HR.out hba)
     replace HB := Aside0.mk (below_step HB.out hba)
     clear s0 s1 s2 s3 s4 s5 hx0 hx1 hx2 hx3 hx4 hx5 hx6 hx7 BS
     generalize wr.heap.size = gN at *
     generalize wr.alloc (.cells #[.slice C0 l0.length k0, .slice C1 l1.length k1', .int .u64 o, .int .i64 m, .slice C4 l4.length k4, .int .u64 ep, .int .u64 ge, .slice C7 l7.length k7] 76) = Wn at *
     have BS := Aside0.mk bs
     have BN := Aside0.mk bn
     clear bs bn hba
     obtain ⟨s0, s1, s2, s3, s4, s5⟩ := cells6 BS.out
     obtain ⟨n0, n1, n2, n3, n4, n5, n6, n7⟩ := cells8 BN.out
     go_wp2_with fail
     refine (text_ok C0 k0 l0 (by omega) _ (Kd.C_below HI0.out.1 HB.out) HI0.out.2).mono ?_
     rintro r W7 ⟨E6, d6, rfl, hr, hb⟩
     clear s0 s1 s2 s3 s4 s5 n0 n1 n2 n3 n4 n5 n6 n7
     replace BS := Aside0.mk (blk_below BS.out hb)
     replace HB := Aside0.mk (below_step HB.out hb)
     replace BN := Aside0.mk (blk_below BN.out hb)
     replace HR := Aside0.mk (Kd.R_below HR.out hb)
     have HC := Aside0.mk (Kd.R_reads' hr).2.2
     clear hr hb
     have HL : Aside0 ((x).length ≤ 110000000 ∧ (textB l0).length ≤ 4000000) := ⟨by omega, by have := textB_length l0; omega⟩
     go_upto_region 15 with (first | ((with_reducible refine gate_builtin (b := .append) (xs := #[.tmp 63, .tmp 66]) rfl ?_); at_builtin; refine Kd.R_append_rows (Kd.int .u8) (w0 := w) w.heap.size rfl (.tmp 63) (.tmp 66) 22 5 (.int .u8 0) 1 rfl Tryd.underlying22 info5 rfl (by decide) (by omega) u3 (x) (textB l0) _ _ _ (fun _ => True) (fun _ => False) rfl rfl HR.out HC.out (fun _ _ h => h) (fun _ h => h.elim) (fun _ _ => trivial) HB.out HB.out.size (by have := HL.out; omega) ?_; intro o6 w6 ho hb hg hat; have BS' := Aside0.mk (blk_grown BS.out hg (Kd.R_ne HR.out BS.out (by decide))); have BN' := Aside0.mk (blk_grown BN.out hg (Kd.R_ne HR.out BN.out (by decide))); clear BS BN; have BS := BS'; have BN := BN'; clear BS' BN'; replace HR := Aside0.mk ho; replace HB := Aside0.mk hb; clear ho hb hg hat HC HL))
     obtain ⟨s0, s1, s2, s3, s4, s5⟩ := cells6 BS.out
     obtain ⟨n0, n1, n2, n3, n4, n5, n6, n7⟩ := cells8 BN.out
     go_wp2_with fail
     refine (text_ok C1 k1' l1 (by omega) _ (Kd.C_below HI1.out.1 HB.out) HI1.out.2).mono ?_
     rintro r W8 ⟨E7, d7, rfl, hr, hb⟩
     clear s0 s1 s2 s3 s4 s5 n0 n1 n2 n3 n4 n5 n6 n7
     replace BS := Aside0.mk (blk_below BS.out hb)
     replace HB := Aside0.mk (below_step HB.out hb)
     replace BN := Aside0.mk (blk_below BN.out hb)
     replace HR := Aside0.mk (Kd.R_below HR.out hb)
     have HC := Aside0.mk (Kd.R_reads' hr).2.2
     clear hr hb
     have HL : Aside0 ((x ++ textB l0).length ≤ 110000000 ∧ (textB l1).length ≤ 4000000) := ⟨by have h0 := textB_length l0; have h1 := textB_length l1; have h2 := varN_length o; have h3 := varN_length (l4.length : Int); have h5 := varN_length ep; (try simp only [List.length_append, List.length_singleton]); omega, by have := textB_length l1; omega⟩
     go_upto_region 16 with (first | ((with_reducible refine gate_builtin (b := .append) (xs := #[.tmp 68, .tmp 71]) rfl ?_); at_builtin; refine Kd.R_append_rows (Kd.int .u8) (w0 := w) w.heap.size rfl (.tmp 68) (.tmp 71) 22 5 (.int .u8 0) 1 rfl Tryd.underlying22 info5 rfl (by decide) (by omega) o6 (x ++ textB l0) (textB l1) _ _ _ (fun _ => True) (fun _ => False) rfl rfl HR.out HC.out (fun _ _ h => h) (fun _ h => h.elim) (fun _ _ => trivial) HB.out HB.out.size (by have := HL.out; omega) ?_; intro o7 w7 ho hb hg hat; have BS' := Aside0.mk (blk_grown BS.out hg (Kd.R_ne HR.out BS.out (by decide))); have BN' := Aside0.mk (blk_grown BN.out hg (Kd.R_ne HR.out BN.out (by decide))); clear BS BN; have BS := BS'; have BN := BN'; clear BS' BN'; replace HR := Aside0.mk ho; replace HB := Aside0.mk hb; clear ho hb hg hat HC HL))
     obtain ⟨s0, s1, s2, s3, s4, s5⟩ := cells6 BS.out
     obtain ⟨n0, n1, n2, n3, n4, n5, n6, n7⟩ := cells8 BN.out
     go_wp2_with fail
     refine (var_ok o HRN.out.1.1.1 HRN.out.1.1.2 _).mono ?_
     rintro r W9 ⟨E8, d8, rfl, hr, hb⟩
     clear s0 s1 s2 s3 s4 s5 n0 n1 n2 n3 n4 n5 n6 n7
     replace BS := Aside0.mk (blk_below BS.out hb)
     replace HB := Aside0.mk (below_step HB.out hb)
     replace BN := Aside0.mk (blk_below BN.out hb)
     replace HR := Aside0.mk (Kd.R_below HR.out hb)
     have HC := Aside0.mk (Kd.R_reads' hr).2.2
     clear hr hb
     have HL : Aside0 ((x ++ textB l0 ++ textB l1).length ≤ 110000000 ∧ (varN o).length ≤ 4000000) := ⟨by have h0 := textB_length l0; have h1 := textB_length l1; have h2 := varN_length o; have h3 := varN_length (l4.length : Int); have h5 := varN_length ep; (try simp only [List.length_append, List.length_singleton]); omega, by have := varN_length o; omega⟩
     go_upto_region 17 with (first | ((with_reducible refine gate_builtin (b := .append) (xs := #[.tmp 73, .tmp 76]) rfl ?_); at_builtin; refine Kd.R_append_rows (Kd.int .u8) (w0 := w) w.heap.size rfl (.tmp 73) (.tmp 76) 22 5 (.int .u8 0) 1 rfl Tryd.underlying22 info5 rfl (by decide) (by omega) o7 (x ++ textB l0 ++ textB l1) (varN o) _ _ _ (fun _ => True) (fun _ => False) rfl rfl HR.out HC.out (fun _ _ h => h) (fun _ h => h.elim) (fun _ _ => trivial) HB.out HB.out.size (by have := HL.out; omega) ?_; intro o8 w8 ho hb hg hat; have BS' := Aside0.mk (blk_grown BS.out hg (Kd.R_ne HR.out BS.out (by decide))); have BN' := Aside0.mk (blk_grown BN.out hg (Kd.R_ne HR.out BN.out (by decide))); clear BS BN; have BS := BS'; have BN := BN'; clear BS' BN'; replace HR := Aside0.mk ho; replace HB := Aside0.mk hb; clear ho hb hg hat HC HL))
     obtain ⟨n0, n1, n2, n3, n4, n5, n6, n7⟩ := cells8 BN.out
     have HL : Aside0 ((x ++ textB l0 ++ textB l1 ++ varN o).length ≤ 110000000) := ⟨by have h0 := textB_length l0; have h1 := textB_length l1; have h2 := varN_length o; have h3 := varN_length (l4.length : Int); have h5 := varN_length ep; (try simp only [List.length_append, List.length_singleton]); omega⟩
     go_upto_region 18 with (first | ((with_reducible refine gate_builtin (b := .append) (xs := #[.tmp 78, .tmp 82]) rfl ?_); at_builtin; refine Kd.R_append (Kd.int .u8) (w0 := w) w.heap.size rfl (.tmp 78) (.tmp 82) 22 5 (.int .u8 0) 1 rfl Tryd.underlying22 info5 rfl (by decide) (by omega) o8 (x ++ textB l0 ++ textB l1 ++ varN o) (m % 256) [.int .u8 (m % 256)] (fun _ => True) (fun _ => False) rfl rfl ?aP (fun _ hk => hk.elim) (fun _ _ => trivial) HR.out HB.out HB.out.size (by have := HL.out; omega) ?_; (case aP => exact rfl); intro o9 w9 ho hb hg hat; have BS' := Aside0.mk (blk_grown BS.out hg (Kd.R_ne HR.out BS.out (by decide))); have BN' := Aside0.mk (blk_grown BN.out hg (Kd.R_ne HR.out BN.out (by decide))); clear BS BN; have BS := BS'; have BN := BN'; clear BS' BN'; replace HR := Aside0.mk ho; replace HB := Aside0.mk hb; clear ho hb hg hat HL n0 n1 n2 n3 n4 n5 n6 n7))
     obtain ⟨s0, s1, s2, s3, s4, s5⟩ := cells6 BS.out
     obtain ⟨n0, n1, n2, n3, n4, n5, n6, n7⟩ := cells8 BN.out
     have hu := HU4.out
     go_wp2_with fail
     refine (var_ok (l4.length : Int) (by omega) (by omega) _).mono ?_
     rintro r W11 ⟨E10, d10, rfl, hr, hb⟩
     clear s0 s1 s2 s3 s4 s5 n0 n1 n2 n3 n4 n5 n6 n7
     replace BS := Aside0.mk (blk_below BS.out hb)
     replace HB := Aside0.mk (below_step HB.out hb)
     replace BN := Aside0.mk (blk_below BN.out hb)
     replace HR := Aside0.mk (Kd.R_below HR.out hb)
     have HC := Aside0.mk (Kd.R_reads' hr).2.2
     clear hr hb
     have HL : Aside0 ((x ++ textB l0 ++ textB l1 ++ varN o ++ [m % 256]).length ≤ 110000000 ∧ (varN (l4.length : Int)).length ≤ 4000000) := ⟨by have h0 := textB_length l0; have h1 := textB_length l1; have h2 := varN_length o; have h3 := varN_length (l4.length : Int); have h5 := varN_length ep; (try simp only [List.length_append, List.length_singleton]); omega, by have := varN_length (l4.length : Int); omega⟩
     go_upto_region 19 with (first | ((with_reducible refine gate_builtin (b := .append) (xs := #[.tmp 84, .tmp 89]) rfl ?_); at_builtin; refine Kd.R_append_rows (Kd.int .u8) (w0 := w) w.heap.size rfl (.tmp 84) (.tmp 89) 22 5 (.int .u8 0) 1 rfl Tryd.underlying22 info5 rfl (by decide) (by omega) o9 (x ++ textB l0 ++ textB l1 ++ varN o ++ [m % 256]) (varN (l4.length : Int)) _ _ _ (fun _ => True) (fun _ => False) rfl rfl HR.out HC.out (fun _ _ h => h) (fun _ h => h.elim) (fun _ _ => trivial) HB.out HB.out.size (by have := HL.out; omega) ?_; intro o10 w10 ho hb hg hat; have BS' := Aside0.mk (blk_grown BS.out hg (Kd.R_ne HR.out BS.out (by decide))); have BN' := Aside0.mk (blk_grown BN.out hg (Kd.R_ne HR.out BN.out (by decide))); clear BS BN; have BS := BS'; have BN := BN'; clear BS' BN'; replace HR := Aside0.mk ho; replace HB := Aside0.mk hb; clear ho hb hg hat HC HL))
     obtain ⟨x4, hx4⟩ : ∃ x4, x ++ textB l0 ++ textB l1 ++ varN o ++ [m % 256] ++ varN (l4.length : Int) = x4 := ⟨_, rfl⟩
     have hlen4 : x4.length ≤ 72000000 := by rw [← hx4]; have h0 := textB_length l0; have h1 := textB_length l1; have h2 := varN_length o; have h3 := varN_length (l4.length : Int); have h5 := varN_length ep; (try simp only [List.length_append, List.length_singleton]); omega
     rw [hx4] at HR
     have HX4 := Aside0.mk hx4
     clear hx4
     obtain ⟨k1, rfl⟩ : ∃ k1, gk = k1 + 1 := ⟨gk - 1, by omega⟩
     go_wp2_with fail
     go_loopg [3, 7] (l4.length + 1) (fun kq v3 v7 w' => ∃ j : Nat, v7 = .int .i64 j ∧ Aside0 (kq + j = l4.length + 1 ∧ j ≤ l4.length) ∧ Aside0 (Kd.R (Kd.int .u8) 5 w' w.heap.size (fun _ => True) v3 (x4 ++ (l4.take j).flatMap varN)) ∧ Aside0 (w'.heap[w.heap.size]? = some (.cells #[.int .u64 e, .int .u64 g, .int .u64 n, .int .i64 t, .slice As xs.length cs, .slice (some ad) ns.length cn] 36 (0, 0))) ∧ Aside0 (w'.heap[gN]? = some (.cells #[.slice C0 l0.length k0, .slice C1 l1.length k1', .int .u64 o, .int .i64 m, .slice C4 l4.length k4, .int .u64 ep, .int .u64 ge, .slice C7 l7.length k7] 76 (0, 0))) ∧ Aside0 (Below w.heap.size w w'))
     case atStart => exact ⟨0, rfl, ⟨⟨by omega, by omega⟩⟩, ⟨by rw [List.take_zero, List.flatMap_nil, List.append_nil]; exact HR.out⟩, BS, BN, HB⟩
     case round =>
      clear HR BS BN HB
      obtain ⟨j, rfl, HJ4, HR, BS, BN, HB⟩ := hrel
      have hj4 := HJ4.out
      by_cases hjj : j < l4.length
      ·
       have c1c : decide ((j : Int) < (l4.length : Int)) = true := decide_eq_true (by omega)
       have c2c : decide (j < l4.length) = true := decide_eq_true hjj
       have HT4 := Aside0.mk (flat_take varN l4 j hjj)
       have hlenj : (x4 ++ (l4.take j).flatMap varN).length ≤ 100000000 := by
        have h2 := flat_varN_le (l4.take j)
        rw [List.length_take] at h2
        rw [List.length_append]
        omega
       obtain ⟨ad4, eB, hz0⟩ := C_u64 HI4.out.1 j hjj
       have hrj := HRN.out.1.2.1 l4[j] (List.getElem_mem hjj)
       have hz1 := (HB.out.cell (World.block_lt_of_cell? w _ hz0)).trans hz0
       cases eB
       generalize l4[j] = idj at *
       have d1 : (0 : Int) ≤ (j : Int) := by omega
       have d2 : (j : Int) < (l4.length : Int) := by omega
       obtain ⟨x5, hxq⟩ : ∃ x5, x4 ++ (l4.take j).flatMap varN = x5 := ⟨_, rfl⟩
       rw [hxq] at HR hlenj
       have HX5 := Aside0.mk hxq
       clear hxq hz0
       obtain ⟨s0, s1, s2, s3, s4, s5⟩ := cells6 BS.out
       obtain ⟨n0, n1, n2, n3, n4, n5, n6, n7⟩ := cells8 BN.out
       go_wp2_with fail
       refine (var_ok idj hrj.1 hrj.2 _).mono ?_
       rintro r W12 ⟨E11, d11, rfl, hr, hb⟩
       clear s0 s1 s2 s3 s4 s5 n0 n1 n2 n3 n4 n5 n6 n7
       replace BS := Aside0.mk (blk_below BS.out hb)
       replace HB := Aside0.mk (below_step HB.out hb)
       replace BN := Aside0.mk (blk_below BN.out hb)
       replace HR := Aside0.mk (Kd.R_below HR.out hb)
       have HC := Aside0.mk (Kd.R_reads' hr).2.2
       clear hr hb
       have HL : Aside0 ((x5).length ≤ 110000000 ∧ (varN idj).length ≤ 4000000) := ⟨by omega, by have := varN_length idj; omega⟩
       go_upto_region 21 with (first | ((with_reducible refine gate_builtin (b := .append) (xs := #[.tmp 98, .tmp 104]) rfl ?_); at_builtin; refine Kd.R_append_rows (Kd.int .u8) (w0 := w) w.heap.size rfl (.tmp 98) (.tmp 104) 22 5 (.int .u8 0) 1 rfl Tryd.underlying22 info5 rfl (by decide) (by omega) u3 (x5) (varN idj) _ _ _ (fun _ => True) (fun _ => False) rfl rfl HR.out HC.out (fun _ _ h => h) (fun _ h => h.elim) (fun _ _ => trivial) HB.out HB.out.size (by have := HL.out; omega) ?_; intro o11 w11 ho hb hg hat; have BS' := Aside0.mk (blk_grown BS.out hg (Kd.R_ne HR.out BS.out (by decide))); have BN' := Aside0.mk (blk_grown BN.out hg (Kd.R_ne HR.out BN.out (by decide))); clear BS BN; have BS := BS'; have BN := BN'; clear BS' BN'; replace HR := Aside0.mk ho; replace HB := Aside0.mk hb; clear ho hb hg hat HC HL))
       have hj5 := HJ4.out
       obtain ⟨k2, rfl⟩ : ∃ k2, gk = k2 + 1 := ⟨gk - 1, by omega⟩
       go_wp2_with fail
       go_roundg k2
       case measure => omega
       case rel => exact ⟨j + 1, by go_num, ⟨⟨by omega, by omega⟩⟩, ⟨by rw [HT4.out, ← List.append_assoc, HX5.out]; exact HR.out⟩, BS, BN, HB⟩
      ·
       have c1c : decide ((j : Int) < (l4.length : Int)) = false := decide_eq_false (by omega)
       have c2c : decide (j < l4.length) = false := decide_eq_false hjj
       obtain rfl : j = l4.length := by omega
       rw [List.take_length] at HR
       obtain ⟨n0, n1, n2, n3, n4, n5, n6, n7⟩ := cells8 BN.out
       go_upto_region 23 with (fail)
       clear n0 n1 n2 n3 n4 n5 n6 n7
       have hlen5 : (x4 ++ l4.flatMap varN).length ≤ 100000000 := by
        have h2 := flat_varN_le l4
        rw [List.length_append]
        omega
       obtain ⟨x5, hxq⟩ : ∃ x5, x4 ++ l4.flatMap varN = x5 := ⟨_, rfl⟩
       rw [hxq] at HR hlen5
       have HX5 := Aside0.mk hxq
       clear hxq HJ4 hj4
       obtain ⟨s0, s1, s2, s3, s4, s5⟩ := cells6 BS.out
       obtain ⟨n0, n1, n2, n3, n4, n5, n6, n7⟩ := cells8 BN.out
       go_wp2_with fail
       refine (var_ok ep HRN.out.2.1.1 HRN.out.2.1.2 _).mono ?_
       rintro r W13 ⟨E12, d12, rfl, hr, hb⟩
       clear s0 s1 s2 s3 s4 s5 n0 n1 n2 n3 n4 n5 n6 n7
       replace BS := Aside0.mk (blk_below BS.out hb)
       replace HB := Aside0.mk (below_step HB.out hb)
       replace BN := Aside0.mk (blk_below BN.out hb)
       replace HR := Aside0.mk (Kd.R_below HR.out hb)
       have HC := Aside0.mk (Kd.R_reads' hr).2.2
       clear hr hb
       have HL : Aside0 ((x5).length ≤ 110000000 ∧ (varN ep).length ≤ 4000000) := ⟨by omega, by have := varN_length ep; omega⟩
       go_upto_region 24 with (first | ((with_reducible refine gate_builtin (b := .append) (xs := #[.tmp 106, .tmp 109]) rfl ?_); at_builtin; refine Kd.R_append_rows (Kd.int .u8) (w0 := w) w.heap.size rfl (.tmp 106) (.tmp 109) 22 5 (.int .u8 0) 1 rfl Tryd.underlying22 info5 rfl (by decide) (by omega) u3 (x5) (varN ep) _ _ _ (fun _ => True) (fun _ => False) rfl rfl HR.out HC.out (fun _ _ h => h) (fun _ h => h.elim) (fun _ _ => trivial) HB.out HB.out.size (by have := HL.out; omega) ?_; intro o12 w12 ho hb hg hat; have BS' := Aside0.mk (blk_grown BS.out hg (Kd.R_ne HR.out BS.out (by decide))); have BN' := Aside0.mk (blk_grown BN.out hg (Kd.R_ne HR.out BN.out (by decide))); clear BS BN; have BS := BS'; have BN := BN'; clear BS' BN'; replace HR := Aside0.mk ho; replace HB := Aside0.mk hb; clear ho hb hg hat HC HL))
       obtain ⟨s0, s1, s2, s3, s4, s5⟩ := cells6 BS.out
       obtain ⟨n0, n1, n2, n3, n4, n5, n6, n7⟩ := cells8 BN.out
       go_wp2_with fail
       refine (var_ok ge HRN.out.2.2.1 HRN.out.2.2.2 _).mono ?_
       rintro r W14 ⟨E13, d13, rfl, hr, hb⟩
       clear s0 s1 s2 s3 s4 s5 n0 n1 n2 n3 n4 n5 n6 n7
       replace BS := Aside0.mk (blk_below BS.out hb)
       replace HB := Aside0.mk (below_step HB.out hb)
       replace BN := Aside0.mk (blk_below BN.out hb)
       replace HR := Aside0.mk (Kd.R_below HR.out hb)
       have HC := Aside0.mk (Kd.R_reads' hr).2.2
       clear hr hb
       have HL : Aside0 ((x5 ++ varN ep).length ≤ 110000000 ∧ (varN ge).length ≤ 4000000) := ⟨by have := varN_length ep; rw [List.length_append]; omega, by have := varN_length ge; omega⟩
       go_upto_region 12 with (first | ((with_reducible refine gate_builtin (b := .append) (xs := #[.tmp 111, .tmp 114]) rfl ?_); at_builtin; refine Kd.R_append_rows (Kd.int .u8) (w0 := w) w.heap.size rfl (.tmp 111) (.tmp 114) 22 5 (.int .u8 0) 1 rfl Tryd.underlying22 info5 rfl (by decide) (by omega) o12 (x5 ++ varN ep) (varN ge) _ _ _ (fun _ => True) (fun _ => False) rfl rfl HR.out HC.out (fun _ _ h => h) (fun _ h => h.elim) (fun _ _ => trivial) HB.out HB.out.size (by have := HL.out; omega) ?_; intro o13 w13 ho hb hg hat; have BS' := Aside0.mk (blk_grown BS.out hg (Kd.R_ne HR.out BS.out (by decide))); have BN' := Aside0.mk (blk_grown BN.out hg (Kd.R_ne HR.out BN.out (by decide))); clear BS BN; have BS := BS'; have BN := BN'; clear BS' BN'; replace HR := Aside0.mk ho; replace HB := Aside0.mk hb; clear ho hb hg hat HC HL))
       have hfin : x5 ++ varN ep ++ varN ge = encMid e g n xs ns.length ++ (ns.take (i2 + 1)).flatMap encNo := by
        rw [HT.out, ← HX5.out, ← HX4.out, ← HXE.out]
        simp only [encNo, List.append_assoc]
       rw [hfin] at HR
       clear hfin
       have hj2 := HJ.out
       go_wp2_with fail
       go_roundg k1
       case measure => omega
       case rel => exact ⟨i2 + 1, by go_num, ⟨⟨by omega, by omega⟩⟩, HR, BS, HB⟩
    ·
     have c1b : decide ((i2 : Int) < (ns.length : Int)) = false := decide_eq_false (by omega)
     have c2b : decide (i2 < ns.length) = false := decide_eq_false hj
     obtain rfl : i2 = ns.length := by omega
     rw [List.take_length] at HR
     obtain ⟨s0, s1, s2, s3, s4, s5⟩ := cells6 BS.out
     go_wp2_with fail
     go_ret
     exact ⟨_, rfl, HR.out, HB.out⟩
theorem markByteS_bk (k m : Nat) (w0 : World) (lo hi : Nat) (A : Option Addr) (c : Nat) (l : List Int) (w : World) (hB : Below w0.heap.size w0 w) (hd : BK w0 w lo hi A c l) (hl : l.length ≤ 100000000) (hm : m ≤ 100000000) (hk : 100000000 < k) :
  Calls Tryd.prog 26 #[.slice A l.length c, .int .i64 m] w fun e w' => e = .returned (.int .i64 ((m + l.length : Nat) : Int)) ∧ BK w0 w' lo hi A c (marksB l.length m) ∧ Below w0.heap.size w0 w' ∧ Kept w w' (fun k => lo ≤ k ∧ k < hi) := by
 refine (laws_markByteS.calls k (OB A l.length c) _ l m _ _ w0 w hB hd.r (markByteS_f l m (by omega) k (by omega))).mono ?_
 rintro e w' ⟨rfl, hr, hb, hkp⟩
 refine ⟨rfl, ⟨?_, ?_⟩, hb, hkp.1, fun i hi hn => hkp.2 i hi (fun h => hn (hd.b i h))⟩
 ·
  rw [marksB_length]
  exact Kd.R_tight rfl hr
 ·
  rw [marksB_length]
  exact hd.b
theorem eqByteS_bk (k : Nat) (w0 w1 : World) (lo hi lo' hi' : Nat) (A : Option Addr) (c : Nat) (l : List Int) (B : Option Addr) (d : Nat) (w : World) (hd : BK w0 w lo hi A c l) (hd' : BK w1 w lo' hi' B d l) (hl : l.length ≤ 100000000) (hk : 100000000 < k) :
  Calls Tryd.prog 12 #[.slice A l.length c, .slice B l.length d] w fun e w' => e = .returned (.bool true) ∧ Below w.heap.size w w' := by
 refine (laws_eqByteS.calls k A c l B d l true w hd.reads.1 hd.reads.2 hd'.reads.1 hd'.reads.2 (eqByteS_self l (by omega) k (by omega))).mono ?_
 rintro e w' ⟨rfl, hb⟩
 exact ⟨rfl, hb.below⟩
theorem heldByteS_bk (k m n : Nat) (w0 : World) (lo hi : Nat) (A : Option Addr) (c : Nat) (w : World) (hd : BK w0 w lo hi A c (marksB n m)) (hl : n ≤ 100000000) (hm : m ≤ 100000000) (hk : 100000000 < k) :
  Calls Tryd.prog 27 #[.slice A n c, .int .i64 m] w fun e w' => e = .returned (.int .i64 ((m + n : Nat) : Int)) ∧ Below w.heap.size w w' := by
 have h := laws_heldByteS.calls k A c (marksB n m) m _ w hd.reads.1 hd.reads.2 (heldByteS_f n m (by omega) k (by omega))
 rw [marksB_length] at h
 refine h.mono ?_
 rintro e w' ⟨rfl, hb⟩
 exact ⟨rfl, hb.below⟩
set_option maxHeartbeats 4000000 in
set_option maxRecDepth 100000 in
theorem specEnc_ok (w0 : World) (e g n t : Int) (As : Option Addr) (cs : Nat) (xs : List Se) (An : Option Addr) (cn : Nat) (ns : List No) (w : World) (hB : Below w0.heap.size w0 w) (h1 : Kd.C kSe w As xs.length xs) (hc1 : xs.length ≤ cs) (h2 : Kd.C kNo w An ns.length ns) (hc2 : ns.length ≤ cn) (hs : SmS xs ns) (hr : RgT xs ns) (hh : (0 ≤ e ∧ e < 18446744073709551616) ∧ (0 ≤ g ∧ g < 18446744073709551616) ∧ (0 ≤ n ∧ n < 18446744073709551616)) (hsum : sumL lnSe xs + sumL lnNo ns ≤ 4194305) :
  Calls Tryd.prog 24 #[.agg #[.int .u64 e, .int .u64 g, .int .u64 n, .int .i64 t, .slice As xs.length cs, .slice An ns.length cn]] w fun r w' => ∃ A c, r = .returned (.slice A (encF e g n t xs ns).length c) ∧ BK w0 w' w.heap.size w'.heap.size A c (encF e g n t xs ns) ∧ Below w.heap.size w w' := by
 have HB0 := Aside0.mk hB
 have hF : encF e g n t xs ns = if validB e g n t xs ns = true then encSt e g n xs ns else [] := rfl
 have hV := Aside0.mk (fun (W : World) (hW : Below w.heap.size w W) => spec_ValidState.calls 10000000 e g n t As cs xs An cn ns _ W (Kd.C_below h1 hW) hc1 (Kd.C_below h2 hW) hc2 (validState_f e g n t xs ns hs))
 have hE := Aside0.mk (fun (W : World) (hW : Below w.heap.size w W) => l3enc_ok e g n t As cs xs An cn ns W (Kd.C_below h1 hW) hc1 (Kd.C_below h2 hW) hc2 hs hr hh.1 hh.2.1 hh.2.2 hsum)
 obtain ⟨vb, hvb⟩ : ∃ vb, validB e g n t xs ns = vb := ⟨_, rfl⟩
 rw [hvb] at hF
 simp only [hvb] at hV
 have HF := Aside0.mk hF
 clear h1 hc1 h2 hc2 hs hr hh hsum hvb hF hB
 go_enter Tryd.func24, Tryd.ntmps24
 go_upto_region 1 with (fail)
 have bs := blk_new w (.cells #[.int .u64 e, .int .u64 g, .int .u64 n, .int .i64 t, .slice As xs.length cs, .slice An ns.length cn] 36)
 have hB := below_alloc (Below.refl w.heap.size w) (.cells #[.int .u64 e, .int .u64 g, .int .u64 n, .int .i64 t, .slice As xs.length cs, .slice An ns.length cn] 36)
 generalize w.alloc (.cells #[.int .u64 e, .int .u64 g, .int .u64 n, .int .i64 t, .slice As xs.length cs, .slice An ns.length cn] 36) = W0 at *
 have BS := Aside0.mk bs
 have HB := Aside0.mk hB
 clear bs hB
 obtain ⟨s0, s1, s2, s3, s4, s5⟩ := cells6 BS.out
 go_wp2_with fail
 refine (hV.out _ HB.out).mono ?_
 rintro r W1 ⟨rfl, hb⟩
 clear s0 s1 s2 s3 s4 s5
 replace BS := Aside0.mk (blk_below BS.out hb)
 replace HB := Aside0.mk (below_step HB.out hb)
 clear hb hV
 obtain ⟨s0, s1, s2, s3, s4, s5⟩ := cells6 BS.out
 cases vb with
 | false =>
  go_wp2_with fail
  go_ret
  rw [HF.out, if_neg (by decide)]
  exact ⟨none, 0, rfl, BK.of (ok := fun _ => True) (Kd.R_nil _ _ _ _ _) HB0.out, HB.out⟩
 | true =>
  rw [if_pos rfl] at HF
  go_wp2_with fail
  refine (hE.out _ HB.out).mono ?_
  rintro r W2 ⟨v, rfl, hr, hb⟩
  have HR := Aside0.mk (Kd.R_lower hr HB.out.size)
  replace HB := Aside0.mk (below_step HB.out hb)
  clear hr hb hE s0 s1 s2 s3 s4 s5
  rw [← HF.out] at HR
  obtain ⟨A, c, rfl⟩ := Kd.R_slice HR.out
  go_wp2_with fail
  go_ret
  exact ⟨A, c, rfl, BK.of HR.out HB0.out, HB.out⟩
structure PK (w0 W : World) (g : Nat) (l : List Int) : Prop where
 ex : ∃ A c, W.heap[g]? = some (.cells #[.slice A l.length c] 92 (0, 0)) ∧ Kd.R (Kd.int .u8) 5 W w0.heap.size (fun _ => True) (.slice A l.length c) l
 be : Below w0.heap.size w0 W
 hg : w0.heap.size ≤ g
def KeepP (w w' : World) (g : Nat) : Prop := w.heap.size ≤ w'.heap.size ∧ ∀ b, b < w.heap.size → b ≠ g → (¬ ∃ cs, w.heap[b]? = some (.cells cs 5 (0, 0))) → w'.heap[b]? = w.heap[b]?
theorem KeepP.refl (w : World) (g : Nat) : KeepP w w g := ⟨Nat.le_refl _, fun _ _ _ _ => rfl⟩
theorem KeepP.trans {a b c : World} {g : Nat} (h : KeepP a b g) (k : KeepP b c g) : KeepP a c g :=
 ⟨Nat.le_trans h.1 k.1, fun i hi hn hu => by
  have e := h.2 i hi hn hu
  exact (k.2 i (Nat.lt_of_lt_of_le hi h.1) hn (by rw [e]; exact hu)).trans e⟩
theorem KeepP.below {w w1 w2 : World} {g : Nat} (h : KeepP w w1 g) (hb : Below w1.heap.size w1 w2) : KeepP w w2 g := h.trans ⟨hb.size, fun i hi _ _ => hb.block i hi⟩
theorem KeepP.grown {w w1 w2 : World} {g : Nat} {v : Value} (h : KeepP w w1 g) (hg : w1.grownBy w2 v.ownBlock) (hty : ∀ k, v.ownBlock = some k → ∃ cells, w1.heap[k]? = some (.cells cells 5 (0, 0))) : KeepP w w2 g :=
 h.trans ⟨hg.size, fun i hi _ hu => hg.block i hi (fun e => hu (hty i e.symm))⟩
theorem KeepP.set {w w1 : World} {g j : Nat} (h : KeepP w w1 g) (v : Value) : KeepP w (w1.setCell ⟨g, j, none⟩ v) g :=
 h.trans ⟨by simp [World.setCell], fun i hi hn _ => Below.heap_setCell w1 ⟨g, j, none⟩ v i hn⟩
theorem or_byte (y : Int) (h : 0 ≤ y) : Go.bits .or .u8 (y % 256) 128 = y % 128 + 128 := by
 have key : ∀ n : Fin 256, Go.bits .or .u8 ((n.val : Nat) : Int) 128 = ((n.val : Nat) : Int) % 128 + 128 := by decide +kernel
 have h2 := key ⟨(y % 256).toNat, by omega⟩
 simp only at h2
 rw [show (((y % 256).toNat : Nat) : Int) = y % 256 by omega] at h2
 rw [h2]
 omega
theorem LEN10 (l xs : List Int) (i : Nat) (hi : i ≤ xs.length) : (l ++ (xs.take i).flatMap varN).length + 10 ≤ l.length + 10 * (i + 1) := by
 have h : ∀ ys : List Int, (ys.flatMap varN).length ≤ 10 * ys.length := by
  intro ys
  induction ys with
  | nil => simp
  | cons y r ih =>
   rw [List.flatMap_cons, List.length_append, List.length_cons]
   have := varN_length y
   omega
 have := h (xs.take i)
 rw [List.length_append]
 rw [List.length_take] at this
 omega
set_option maxHeartbeats 4000000 in
set_option maxRecDepth 100000 in
theorem packer_numbers (w0 w : World) (g : Nat) (l : List Int) (A : Option Addr) (c : Nat) (xs : List Int) (bx : Nat) (okx : Nat → Prop) (HP : PK w0 w g l) (hx : Kd.R (Kd.int .u64) 26 w bx okx (.slice A xs.length c) xs) (hr : ∀ x ∈ xs, 0 ≤ x ∧ x < 18446744073709551616) (hl : l.length + 10 * xs.length ≤ 100000000) :
  Calls Tryd.prog 63 #[.pointer (some ⟨g, 0, none⟩), .slice A xs.length c] w fun e w' => e = .returned (.tuple #[]) ∧ PK w0 w' g (l ++ xs.flatMap varN) ∧ KeepP w w' g := by
 have HX := Aside0.mk hx
 have HQ := Aside0.mk HP
 have HRR := Aside0.mk hr
 have HLL := Aside0.mk hl
 have hxl : xs.length ≤ 100000000 := by omega
 clear hx HP hr hl
 go_enter Tryd.func63, Tryd.ntmps63
 go_wp2
 go_loopw [8] (fun v8 wr => ∃ i : Nat, v8 = .int .i64 i ∧ i ≤ xs.length ∧ Aside0 (PK w0 wr g (l ++ (xs.take i).flatMap varN)) ∧ Aside0 (Kd.R (Kd.int .u64) 26 wr bx okx (.slice A xs.length c) xs) ∧ Aside0 (KeepP w wr g)) (fun v8 _ => xs.length - (intOf v8).toNat)
 case atStart => exact ⟨0, rfl, by omega, by simpa using HQ, HX, ⟨KeepP.refl w g⟩⟩
 case round =>
  clear HQ HX
  obtain ⟨i, rfl, hi, HQ, HX, HK⟩ := hrel
  by_cases hlt : i < xs.length
  ·
   obtain ⟨ga, ca, eA, gb, gl, _⟩ := Kd.R_form HX.out (by omega)
   injection eA with eA _ eC
   subst eA
   subst eC
   have x0 := (Kd.R_celln (enc := Value.int .u64) (h1 := fun _ => rfl) 0 HX.out (i : Int) (by omega) (by omega)).1
   rw [Int.toNat_natCast] at x0
   have hxi : rdOf 0 xs (i : Int) = xs[i] := by rw [show rdOf 0 xs (i : Int) = xs.getD i 0 from rfl]; simp [List.getD_eq_getElem?_getD, hlt]
   rw [hxi] at x0
   have ⟨r0, r1⟩ := HRR.out xs[i] (List.getElem_mem hlt)
   have hd1 : decide ((i : Int) < (xs.length : Int)) = true := decide_eq_true (by omega)
   have hd2 : decide (i < xs.length) = true := decide_eq_true hlt
   have HTK := Aside0.mk (show (xs.take (i + 1)).flatMap varN = (xs.take i).flatMap varN ++ varN xs[i] by rw [List.take_succ_eq_append_getElem hlt, List.flatMap_append, List.flatMap_singleton])
   generalize hxe : xs[i] = x at *
   have HXE := Aside0.mk hxe
   clear hxe hxi
   go_wp2
   obtain ⟨wo, rfl⟩ : ∃ wo : World, wo = wr := ⟨_, rfl⟩
   go_loopw [5] (fun v5 wi => ∃ (y : Int) (j : Nat) (pre : List Int), v5 = .int .u64 y ∧ 0 ≤ y ∧ y < 18446744073709551616 ∧ Aside0 (y < 128 ^ j ∧ 0 < j ∧ pre.length + j ≤ l.length + 10 * (i + 1)) ∧ Aside0 (pre ++ varB j y = l ++ (xs.take i).flatMap varN ++ varN x) ∧ Aside0 (PK w0 wi g pre) ∧ Aside0 (Kd.R (Kd.int .u64) 26 wi bx okx (.slice (some ⟨ga, 0, none⟩) xs.length c) xs) ∧ Aside0 (KeepP w wi g)) (fun v5 _ => (intOf v5).toNat)
   case atStart => exact ⟨x, 10, l ++ (xs.take i).flatMap varN, rfl, r0, r1, ⟨⟨Int.lt_trans r1 (by decide), by omega, LEN10 l xs i (by omega)⟩⟩, ⟨rfl⟩, HQ, HX, HK⟩
   case round =>
    clear HQ HX HK r0 r1 x0
    obtain ⟨y, j, pre, rfl, y0, y1, HJ, HV, HP, HX, HK⟩ := hrel
    obtain ⟨hj1, hj2, hj3⟩ := HJ.out
    have HL := Aside0.mk (show (pre.length + 1) * 1 ≤ 140737488355328 by have := HLL.out; omega)
    obtain ⟨⟨Ap, cp, hbox, hR⟩, hbe, hgg⟩ := HP.out
    have z0 := blk_cell hbox 0
    have f0 := blk_frozen hbox 0
    simp only [List.getElem?_toArray, List.getElem?_cons_zero] at z0
    have HR := Aside0.mk hR
    have HB := Aside0.mk hbe
    have hne := Kd.R_ne hR hbox (by decide)
    have HZ := Aside0.mk (show (∀ w5, wr.grownBy w5 (Value.slice Ap pre.length cp).ownBlock → w5.cell? ⟨g, 0, none⟩ = some (Value.slice Ap pre.length cp)) ∧ (∀ w5, wr.grownBy w5 (Value.slice Ap pre.length cp).ownBlock → w5.frozen? ⟨g, 0, none⟩ = false) from ⟨fun w5 hg => (blk_cell (blk_grown hbox hg hne) 0).trans rfl, fun w5 hg => blk_frozen (blk_grown hbox hg hne) 0⟩)
    have HN := Aside0.mk (And.intro hbox (And.intro hne hgg))
    clear hbox hR hbe hgg hne
    by_cases hy : 128 ≤ y
    ·
     have t1 : decide (128 ≤ y) = true := decide_eq_true hy
     have t2 := or_byte y y0
     have HD := Aside0.mk (And.intro y0 (And.intro y1 (And.intro hy (And.intro hj1 (And.intro hj2 hj3)))))
     clear hj1 hj2 hj3 hy y1
     go_wp2_with (at_builtin; refine Kd.R_append (Kd.int .u8) (w0 := w0) w0.heap.size rfl (.tmp 18) (.tmp 22) 22 5 (.int .u8 0) 1 rfl Tryd.underlying22 info5 rfl (by decide) (by omega) (.slice Ap pre.length cp) pre (y % 128 + 128) [.int .u8 (y % 128 + 128)] (fun _ => True) (fun _ => False) ?eS ?eX rfl (fun _ hk => hk.elim) (fun _ _ => trivial) HR.out HB.out HB.out.size HL.out ?_; (case eS => first | rfl | simp [Act.eval, Act.put]); (case eX => first | rfl | simp [Act.eval, Act.put]); intro v1 w5 ho hb hg hat; obtain ⟨A1, c1, rfl⟩ := Kd.R_slice ho; have ho' := Aside0.mk ho; have hb' := Aside0.mk hb; have hg' := Aside0.mk hg; have y0 := HZ.out.1 w5 hg; have y1 := HZ.out.2 w5 hg; clear ho hb hg hat)
     have HPn := Aside0.mk (show PK w0 (w5.setCell ⟨g, 0, none⟩ (.slice A1 (pre ++ [y % 128 + 128]).length c1)) g (pre ++ [y % 128 + 128]) from ⟨⟨A1, c1, blk_put (blk_grown HN.out.1 hg'.out HN.out.2.1) 0 _ rfl, Kd.R_set ho'.out (blk_grown HN.out.1 hg'.out HN.out.2.1) (by decide) 0 _⟩, below_set hb'.out HN.out.2.2, HN.out.2.2⟩)
     have HXn := Aside0.mk (show Kd.R (Kd.int .u64) 26 (w5.setCell ⟨g, 0, none⟩ (.slice A1 (pre ++ [y % 128 + 128]).length c1)) bx okx (.slice (some ⟨ga, 0, none⟩) xs.length c) xs from Kd.R_set (Kd.R_over' HX.out (Kd.R_typed HR.out) (by decide) hg'.out) (blk_grown HN.out.1 hg'.out HN.out.2.1) (by decide) 0 _)
     have HKn := Aside0.mk ((HK.out.grown hg'.out (Kd.R_typed HR.out)).set (j := 0) (.slice A1 (pre ++ [y % 128 + 128]).length c1))
     have eL : (pre ++ [y % 128 + 128]).length = pre.length + 1 := by simp
     rw [eL] at HPn HXn HKn
     obtain ⟨d0, d1, d2, d3, d4, d5⟩ := HD.out
     obtain ⟨j, rfl⟩ : ∃ q, j = q + 1 := ⟨j - 1, by omega⟩
     have hj0 : 0 < j := by
      rcases Nat.eq_zero_or_pos j with rfl | h
      ·
       simp at d3; omega
      ·
       exact h
     have hdv : y / 128 < 128 ^ j := by
      rw [Int.ediv_lt_iff_lt_mul (by omega)]
      rw [Int.pow_succ] at d3
      exact d3
     have hvv : (pre ++ [y % 128 + 128]) ++ varB j (y / 128) = l ++ (xs.take i).flatMap varN ++ varN x := by
      rw [← HV.out, varB, if_neg (by omega), List.append_assoc]
      rfl
     go_roundw
     case rel => exact ⟨y / 128, j, pre ++ [y % 128 + 128], rfl, by omega, by omega, ⟨⟨hdv, hj0, by rw [eL]; omega⟩⟩, ⟨hvv⟩, HPn, HXn, HKn⟩
     case measure => simp [intOf]; omega
    ·
     have t1 : decide (128 ≤ y) = false := decide_eq_false hy
     have t3 : y % 256 = y := by omega
     have HD := Aside0.mk (And.intro y0 (And.intro y1 (And.intro hy (And.intro hj1 (And.intro hj2 hj3)))))
     clear hj1 hj2 hj3 hy y1 y0
     go_wp2_with (at_builtin; refine Kd.R_append (Kd.int .u8) (w0 := w0) w0.heap.size rfl (.tmp 32) (.tmp 35) 22 5 (.int .u8 0) 1 rfl Tryd.underlying22 info5 rfl (by decide) (by omega) (.slice Ap pre.length cp) pre (y) [.int .u8 (y)] (fun _ => True) (fun _ => False) ?eS ?eX rfl (fun _ hk => hk.elim) (fun _ _ => trivial) HR.out HB.out HB.out.size HL.out ?_; (case eS => first | rfl | simp [Act.eval, Act.put]); (case eX => first | rfl | simp [Act.eval, Act.put]); intro v1 w5 ho hb hg hat; obtain ⟨A1, c1, rfl⟩ := Kd.R_slice ho; have ho' := Aside0.mk ho; have hb' := Aside0.mk hb; have hg' := Aside0.mk hg; have y0 := HZ.out.1 w5 hg; have y1 := HZ.out.2 w5 hg; clear ho hb hg hat)
     have HPn := Aside0.mk (show PK w0 (w5.setCell ⟨g, 0, none⟩ (.slice A1 (pre ++ [y]).length c1)) g (pre ++ [y]) from ⟨⟨A1, c1, blk_put (blk_grown HN.out.1 hg'.out HN.out.2.1) 0 _ rfl, Kd.R_set ho'.out (blk_grown HN.out.1 hg'.out HN.out.2.1) (by decide) 0 _⟩, below_set hb'.out HN.out.2.2, HN.out.2.2⟩)
     have HXn := Aside0.mk (show Kd.R (Kd.int .u64) 26 (w5.setCell ⟨g, 0, none⟩ (.slice A1 (pre ++ [y]).length c1)) bx okx (.slice (some ⟨ga, 0, none⟩) xs.length c) xs from Kd.R_set (Kd.R_over' HX.out (Kd.R_typed HR.out) (by decide) hg'.out) (blk_grown HN.out.1 hg'.out HN.out.2.1) (by decide) 0 _)
     have HKn := Aside0.mk ((HK.out.grown hg'.out (Kd.R_typed HR.out)).set (j := 0) (.slice A1 (pre ++ [y]).length c1))
     have eL : (pre ++ [y]).length = pre.length + 1 := by simp
     rw [eL] at HPn HXn HKn
     obtain ⟨d0, d1, d2, d3, d4, d5⟩ := HD.out
     obtain ⟨j, rfl⟩ : ∃ q, j = q + 1 := ⟨j - 1, by omega⟩
     have hvv : pre ++ [y] = l ++ (xs.take (i + 1)).flatMap varN := by
      rw [HTK.out, ← List.append_assoc, ← HV.out, varB, if_pos (by omega)]
     rw [hvv] at HPn
     go_roundw
     case rel => exact ⟨i + 1, by go_num, by omega, HPn, HXn, HKn⟩
     case measure => simp [intOf]; omega
  ·
   obtain rfl : i = xs.length := by omega
   go_wp2
   go_end0
   exact ⟨rfl, by simpa using HQ.out, HK.out⟩
theorem lit1 (w : World) (x : Int) : Kd.R (Kd.int .u64) 26 (w.alloc (.cells #[.int .u64 x] 26)) w.heap.size (fun _ => True) (.slice (some ⟨w.heap.size, 0, none⟩) 1 1) [x] :=
 Kd.R_of_own (enc := Value.int .u64) (h1 := fun _ => rfl) (xs := [x]) (own_lit w w.heap.size 26 .u64 [x] (Nat.le_refl _) (by simp)) (fun _ _ => trivial)
theorem PK.open_ {w0 W : World} {g : Nat} {l : List Int} (h : PK w0 W g l) : ∃ A c, W.heap[g]? = some (.cells #[.slice A l.length c] 92 (0, 0)) ∧ Kd.R (Kd.int .u8) 5 W w0.heap.size (fun _ => True) (.slice A l.length c) l ∧ W.cell? ⟨g, 0, none⟩ = some (.slice A l.length c) ∧ W.frozen? ⟨g, 0, none⟩ = false ∧
  ∀ w5, W.grownBy w5 (Value.slice A l.length c).ownBlock → w5.heap[g]? = some (.cells #[.slice A l.length c] 92 (0, 0)) ∧ w5.cell? ⟨g, 0, none⟩ = some (.slice A l.length c) ∧ w5.frozen? ⟨g, 0, none⟩ = false := by
 obtain ⟨⟨A, c, hbox, hR⟩, hbe, hgg⟩ := h
 have hne := Kd.R_ne hR hbox (by decide)
 exact ⟨A, c, hbox, hR, (blk_cell hbox 0).trans rfl, blk_frozen hbox 0, fun w5 hg => ⟨blk_grown hbox hg hne, (blk_cell (blk_grown hbox hg hne) 0).trans rfl, blk_frozen (blk_grown hbox hg hne) 0⟩⟩
theorem PK.put {w0 W w5 : World} {g : Nat} {l l' : List Int} {A A' : Option Addr} {c c' : Nat} (h : PK w0 W g l) (h5 : w5.heap[g]? = some (.cells #[.slice A l.length c] 92 (0, 0))) (hr : Kd.R (Kd.int .u8) 5 w5 w0.heap.size (fun _ => True) (.slice A' l'.length c') l') (hb : Below w0.heap.size w0 w5) : PK w0 (w5.setCell ⟨g, 0, none⟩ (.slice A' l'.length c')) g l' :=
 ⟨⟨A', c', blk_put h5 0 _ rfl, Kd.R_set hr h5 (by decide) 0 _⟩, below_set hb h.hg, h.hg⟩
theorem PK.alloc {w0 W : World} {g : Nat} {l : List Int} (h : PK w0 W g l) (o : Obj) : PK w0 (W.alloc o) g l := by
 obtain ⟨⟨A, c, hbox, hR⟩, hbe, hgg⟩ := h
 exact ⟨⟨A, c, blk_alloc hbox o, Kd.R_alloc hR o⟩, below_alloc hbe o, hgg⟩
set_option maxHeartbeats 2000000 in
set_option maxRecDepth 100000 in
theorem packer_text (w0 w : World) (g : Nat) (l : List Int) (A : Option Addr) (c : Nat) (b : List Int) (HP : PK w0 w g l) (hb : Kd.C (Kd.int .u8) w0 A b.length b) (hc : b.length ≤ c) (hl : l.length + 10 + b.length ≤ 100000000) :
  Calls Tryd.prog 64 #[.pointer (some ⟨g, 0, none⟩), .slice A b.length c] w fun e w' => e = .returned (.tuple #[]) ∧ PK w0 w' g (l ++ textB b) ∧ KeepP w w' g := by
 have HQ := Aside0.mk HP
 have HC := Aside0.mk hb
 have HLL := Aside0.mk hl
 have hu : IntKind.u64.wrap (b.length : Int) = (b.length : Int) := u64_idI _ (by omega) (by omega)
 clear HP hb hl
 go_enter Tryd.func64, Tryd.ntmps64
 go_wp2_with fail
 refine (packer_numbers w0 _ g l (some ⟨w.heap.size, 0, none⟩) 1 [(b.length : Int)] w.heap.size (fun _ => True) (HQ.out.alloc _) (lit1 w _) (by intro x hx; rw [List.mem_singleton.1 hx]; have := HLL.out; omega) (by have := HLL.out; simp only [List.length_singleton]; omega)).mono ?_
 rintro e w1 ⟨rfl, h1, h2⟩
 rw [List.flatMap_singleton] at h1
 obtain ⟨Ap, cp, hbox, hR, z0, f0, hgz⟩ := h1.open_
 have H1 := Aside0.mk h1
 have HR := Aside0.mk hR
 have HX := Aside0.mk hbox
 have HZ := Aside0.mk hgz
 have HK := Aside0.mk ((KeepP.refl w g).below (below_alloc (Below.refl w.heap.size w) (.cells #[.int .u64 (b.length : Int)] 26)) |>.trans h2)
 have HL := Aside0.mk (show ((l ++ varN (b.length : Int)).length + b.length) * 1 ≤ 140737488355328 by have := HLL.out; have := varN_length (b.length : Int); rw [List.length_append]; omega)
 generalize hq : l ++ varN (b.length : Int) = q at *
 have HE := Aside0.mk hq
 clear h1 h2 hbox hR hgz hq hu
 go_wp2_with (at_builtin; refine Kd.R_append_rows (Kd.int .u8) (w0 := w0) w0.heap.size rfl (.tmp 14) (.tmp 15) 22 5 (.int .u8 0) 1 rfl Tryd.underlying22 info5 rfl (by decide) (by omega) (.slice Ap q.length cp) q b A b.length c (fun _ => True) (fun _ => False) ?eS ?eX ?aO ?aR (fun _ _ h => h) (fun _ h => h.elim) (fun _ _ => trivial) ?aB ?aS ?aL ?_; (case aO => exact HR.out); (case aR => exact Kd.C_below HC.out H1.out.be); (case aB => exact H1.out.be); (case aS => exact H1.out.be.size); (case aL => exact HL.out); (case eS => first | rfl | simp [Act.eval, Act.put]); (case eX => first | rfl | simp [Act.eval, Act.put]); intro v1 w5 ho hb hg hat; obtain ⟨A1, c1, rfl⟩ := Kd.R_slice ho; have ho' := Aside0.mk ho; have hb' := Aside0.mk hb; have hg' := Aside0.mk hg; have y0 := (HZ.out w5 hg).2.1; have y1 := (HZ.out w5 hg).2.2; clear ho hb hg hat)
 go_end0
 have hfin := H1.out.put (HZ.out _ hg'.out).1 ho'.out hb'.out
 have hk := (HK.out.grown hg'.out (Kd.R_typed HR.out)).set (j := 0) (.slice A1 (q ++ b).length c1)
 have eT : q ++ b = l ++ textB b := by rw [← HE.out, textB, List.append_assoc]
 have eL : (q ++ b).length = q.length + b.length := List.length_append
 rw [eL] at hfin hk
 rw [← eT]
 exact ⟨rfl, hfin, hk⟩
theorem KeepP.box {w w' : World} {g b t : Nat} {cs : Array Value} (h : KeepP w w' g) (hb : w.heap[b]? = some (.cells cs t (0, 0))) (hne : b ≠ g) (ht : t ≠ 5) : w'.heap[b]? = some (.cells cs t (0, 0)) :=
 (h.2 b (blk_lt hb) hne (fun ⟨cs', e⟩ => by rw [hb] at e; cases e; exact ht rfl)).trans hb
theorem grown_pre {W W1 w6 : World} {v : Value} (h : Below W.heap.size W W1) (hg : W1.grownBy w6 v.ownBlock) : W.grownBy w6 v.ownBlock := World.grownBy.trans (grown_of_below h _) hg
theorem u8_wrap (x : Int) : IntKind.u8.wrap x = x % 256 := by first | rfl | (simp [IntKind.wrap]; done) | (unfold IntKind.wrap; simp; done)
theorem litN (w : World) (l : List Int) (hl : l.length ≤ 100) : Kd.R (Kd.int .u64) 26 (w.alloc (.cells (nums .u64 l).toArray 26)) w.heap.size (fun _ => True) (.slice (some ⟨w.heap.size, 0, none⟩) l.length l.length) l :=
 Kd.R_of_own (enc := Value.int .u64) (h1 := fun _ => rfl) (xs := l) (own_lit w w.heap.size 26 .u64 l (Nat.le_refl _) (by omega)) (fun _ _ => trivial)
theorem encSt_dur (e g n : Int) (xs : List Se) (ns : List No) : encSt e g n (xs.map durSe) (ns.map durNo) = encSt e g n xs ns := by
 unfold encSt encMid encHd
 rw [List.length_map, List.length_map, List.flatMap_map, List.flatMap_map]
 rfl
theorem sumNo_dur (ns : List No) : sumL lnNo (ns.map durNo) ≤ sumL lnNo ns := by
 induction ns with
 | nil => exact Nat.le_refl _
 | cons x r ih =>
  have h : lnNo (durNo x) ≤ lnNo x := by unfold lnNo durNo; simp only [List.length_nil]; omega
  simp only [List.map_cons, sumL]
  omega
set_option maxHeartbeats 8000000 in
set_option maxRecDepth 100000 in
theorem implEnc_ok (HV : ValIC) (w0 : World) (e g n t : Int) (As : Option Addr) (cs : Nat) (xs : List Se) (An : Option Addr) (cn : Nat) (ns : List No) (w : World) (hB : Below w0.heap.size w0 w) (h1 : Kd.C kSe w As xs.length xs) (hc1 : xs.length ≤ cs) (h2 : Kd.C kNo w An ns.length ns) (hc2 : ns.length ≤ cn) (hs : SmS xs ns) (hr : RgT xs ns) (hh : (0 ≤ e ∧ e < 18446744073709551616) ∧ (0 ≤ g ∧ g < 18446744073709551616) ∧ (0 ≤ n ∧ n < 18446744073709551616)) (hsum : sumL lnSe xs + sumL lnNo ns ≤ 4194305) :
  Calls Tryd.prog 25 #[.agg #[.int .u64 e, .int .u64 g, .int .u64 n, .int .i64 t, .slice As xs.length cs, .slice An ns.length cn]] w fun r w' => ∃ A c, r = .returned (.slice A (encF e g n t xs ns).length c) ∧ BK w0 w' w.heap.size w'.heap.size A c (encF e g n t xs ns) ∧ Below w.heap.size w w' := by
 have HB0 := Aside0.mk hB
 have hF : encF e g n t xs ns = if validB e g n t xs ns = true then encSt e g n xs ns else [] := rfl
 have hV := Aside0.mk (fun (W : World) (hW : Below w.heap.size w W) => HV e g n t As cs xs An cn ns W (Kd.C_below h1 hW) hc1 (Kd.C_below h2 hW) hc2 hs hr.x hr.m)
 have hD := Aside0.mk (fun (W : World) (hW : Below w.heap.size w W) => durable_ok e g n t As cs xs An cn ns W (Kd.C_below h1 hW) hc1 (Kd.C_below h2 hW) hc2 hs)
 obtain ⟨vb, hvb⟩ : ∃ vb, validB e g n t xs ns = vb := ⟨_, rfl⟩
 rw [hvb] at hF
 simp only [hvb] at hV
 rw [← encSt_dur] at hF
 have HF := Aside0.mk hF
 have HH := Aside0.mk hh
 have hX1 : ∀ x ∈ xs.map durSe, 0 ≤ x.f0 ∧ x.f0 < 18446744073709551616 := fun x hx => by
  obtain ⟨y, hy, rfl⟩ := List.mem_map.1 hx
  exact hr.x y hy
 have hN1 : ∀ x ∈ ns.map durNo, ((0 ≤ x.f2 ∧ x.f2 < 18446744073709551616) ∧ (∀ z ∈ x.f4, 0 ≤ z ∧ z < 18446744073709551616)) ∧ ((0 ≤ x.f5 ∧ x.f5 < 18446744073709551616) ∧ (0 ≤ x.f6 ∧ x.f6 < 18446744073709551616)) ∧ ((x.f0.length ≤ 2097152 ∧ x.f1.length ≤ 2097152) ∧ x.f4.length ≤ 2097152) := fun x hx => by
  obtain ⟨y, hy, rfl⟩ := List.mem_map.1 hx
  exact ⟨⟨(hr.m y hy).1, (hr.m y hy).2.1⟩, hr.p y hy, ⟨(hs.m y hy).1.1.1, (hs.m y hy).1.2⟩, (hs.m y hy).2.1⟩
 have hXl : (xs.map durSe).length ≤ 2097152 := by rw [List.length_map]; exact hs.x
 have hNl : (ns.map durNo).length ≤ 2097152 := by rw [List.length_map]; exact hs.n
 have hsu : (xs.map durSe).length + sumL lnNo (ns.map durNo) ≤ 4194305 := by
  have h1 := ses_le xs
  have h2 := sumNo_dur ns
  rw [List.length_map]
  omega
 obtain ⟨X, hX⟩ : ∃ X, xs.map durSe = X := ⟨_, rfl⟩
 obtain ⟨N, hN⟩ : ∃ N, ns.map durNo = N := ⟨_, rfl⟩
 rw [hX, hN] at HF hsu
 rw [hX] at hX1 hXl
 rw [hN] at hN1 hNl
 simp only [hX, hN] at hD
 have HX := Aside0.mk hX1
 have HN := Aside0.mk hN1
 have HSU := Aside0.mk hsu
 have HU := Aside0.mk (And.intro (u64_nat X.length (by omega)) (u64_nat N.length (by omega)))
 clear h1 hc1 h2 hc2 hs hr hh hsum hvb hF hB HV hX hN hX1 hN1 hsu
 go_enter Tryd.func25, Tryd.ntmps25
 go_upto_region 1 with (fail)
 have bs := blk_new w (.cells #[.int .u64 e, .int .u64 g, .int .u64 n, .int .i64 t, .slice As xs.length cs, .slice An ns.length cn] 36)
 have hB := below_alloc (Below.refl w.heap.size w) (.cells #[.int .u64 e, .int .u64 g, .int .u64 n, .int .i64 t, .slice As xs.length cs, .slice An ns.length cn] 36)
 have hlt := blk_lt bs
 generalize w.alloc (.cells #[.int .u64 e, .int .u64 g, .int .u64 n, .int .i64 t, .slice As xs.length cs, .slice An ns.length cn] 36) = W0 at *
 have BS := Aside0.mk bs
 have HB := Aside0.mk hB
 clear bs hB
 obtain ⟨s0, s1, s2, s3, s4, s5⟩ := cells6 BS.out
 go_wp2_with fail
 refine (hV.out _ HB.out).mono ?_
 rintro r W1 ⟨rfl, hb⟩
 clear s0 s1 s2 s3 s4 s5
 have hlt1 : w.heap.size < W1.heap.size := Nat.lt_of_lt_of_le hlt hb.size
 replace BS := Aside0.mk (blk_below BS.out hb)
 replace HB := Aside0.mk (below_step HB.out hb)
 clear hb hV hlt
 obtain ⟨s0, s1, s2, s3, s4, s5⟩ := cells6 BS.out
 cases vb with
 | false =>
  go_wp2_with fail
  go_ret
  rw [HF.out, if_neg (by decide)]
  exact ⟨none, 0, rfl, BK.of (ok := fun _ => True) (Kd.R_nil _ _ _ _ _) HB0.out, HB.out⟩
 | true =>
  rw [if_pos rfl] at HF
  go_wp2_with fail
  refine (hD.out _ HB.out).mono ?_
  rintro r W2 ⟨Bs, ds, Bn, dn, rfl, hK, hb⟩
  clear s0 s1 s2 s3 s4 s5 hD
  replace BS := Aside0.mk (blk_below BS.out hb)
  replace HB := Aside0.mk (below_step HB.out hb)
  have hs2 := hb.size
  clear hb
  obtain ⟨s0, s1, s2, s3, s4, s5⟩ := cells6 BS.out
  have f0 := blk_frozen BS.out 0
  have f1 := blk_frozen BS.out 1
  have f2 := blk_frozen BS.out 2
  have f3 := blk_frozen BS.out 3
  have f4 := blk_frozen BS.out 4
  have f5 := blk_frozen BS.out 5
  go_upto_region 5 with (fail)
  clear s0 s1 s2 s3 s4 s5 f0 f1 f2 f3 f4 f5
  obtain ⟨pS, hS1, hS2⟩ := hK.ex
  have bs := (blk_put (cs := #[.int .u64 e, .int .u64 g, .int .u64 n, .int .i64 0, .slice Bs X.length ds, .slice An ns.length cn]) (cs' := #[.int .u64 e, .int .u64 g, .int .u64 n, .int .i64 0, .slice Bs X.length ds, .slice Bn N.length dn]) (blk_put (cs := #[.int .u64 e, .int .u64 g, .int .u64 n, .int .i64 0, .slice As xs.length cs, .slice An ns.length cn]) (cs' := #[.int .u64 e, .int .u64 g, .int .u64 n, .int .i64 0, .slice Bs X.length ds, .slice An ns.length cn]) (blk_put (cs := #[.int .u64 e, .int .u64 g, .int .u64 n, .int .i64 t, .slice As xs.length cs, .slice An ns.length cn]) (cs' := #[.int .u64 e, .int .u64 g, .int .u64 n, .int .i64 0, .slice As xs.length cs, .slice An ns.length cn]) (blk_put (cs := #[.int .u64 e, .int .u64 g, .int .u64 n, .int .i64 t, .slice As xs.length cs, .slice An ns.length cn]) (cs' := #[.int .u64 e, .int .u64 g, .int .u64 n, .int .i64 t, .slice As xs.length cs, .slice An ns.length cn]) (blk_put (cs := #[.int .u64 e, .int .u64 g, .int .u64 n, .int .i64 t, .slice As xs.length cs, .slice An ns.length cn]) (cs' := #[.int .u64 e, .int .u64 g, .int .u64 n, .int .i64 t, .slice As xs.length cs, .slice An ns.length cn]) (blk_put (cs := #[.int .u64 e, .int .u64 g, .int .u64 n, .int .i64 t, .slice As xs.length cs, .slice An ns.length cn]) (cs' := #[.int .u64 e, .int .u64 g, .int .u64 n, .int .i64 t, .slice As xs.length cs, .slice An ns.length cn]) BS.out 0 _ rfl) 1 _ rfl) 2 _ rfl) 3 _ rfl) 4 _ rfl) 5 _ rfl)
  have hB := (show Below w.heap.size w ((((((W2.setCell ⟨w.heap.size, 0, none⟩ (.int .u64 e)).setCell ⟨w.heap.size, 1, none⟩ (.int .u64 g)).setCell ⟨w.heap.size, 2, none⟩ (.int .u64 n)).setCell ⟨w.heap.size, 3, none⟩ (.int .i64 0)).setCell ⟨w.heap.size, 4, none⟩ (.slice Bs X.length ds)).setCell ⟨w.heap.size, 5, none⟩ (.slice Bn N.length dn)) from by with_reducible repeat (first | exact HB.out | refine below_set ?_ (Nat.le_refl _)))
  have hX : Kd.S aSe 70 ((((((W2.setCell ⟨w.heap.size, 0, none⟩ (.int .u64 e)).setCell ⟨w.heap.size, 1, none⟩ (.int .u64 g)).setCell ⟨w.heap.size, 2, none⟩ (.int .u64 n)).setCell ⟨w.heap.size, 3, none⟩ (.int .i64 0)).setCell ⟨w.heap.size, 4, none⟩ (.slice Bs X.length ds)).setCell ⟨w.heap.size, 5, none⟩ (.slice Bn N.length dn)) W1.heap.size (fun k => W1.heap.size ≤ k) (.slice Bs X.length ds) X := by repeat (first | with_reducible exact Kd.S_mono hS1 (fun k hk => hk.1.1) | refine Kd.S_far ?_ (fun k hk => by have : W1.heap.size ≤ k := hk; show k ≠ w.heap.size; omega) _)
  have hN : Kd.S aNo 76 ((((((W2.setCell ⟨w.heap.size, 0, none⟩ (.int .u64 e)).setCell ⟨w.heap.size, 1, none⟩ (.int .u64 g)).setCell ⟨w.heap.size, 2, none⟩ (.int .u64 n)).setCell ⟨w.heap.size, 3, none⟩ (.int .i64 0)).setCell ⟨w.heap.size, 4, none⟩ (.slice Bs X.length ds)).setCell ⟨w.heap.size, 5, none⟩ (.slice Bn N.length dn)) W1.heap.size (fun k => W1.heap.size ≤ k) (.slice Bn N.length dn) N := by repeat (first | with_reducible exact Kd.S_mono hS2 (fun k hk => hk.1.1) | refine Kd.S_far ?_ (fun k hk => by have : W1.heap.size ≤ k := hk; show k ≠ w.heap.size; omega) _)
  have hsz3 : ((((((W2.setCell ⟨w.heap.size, 0, none⟩ (.int .u64 e)).setCell ⟨w.heap.size, 1, none⟩ (.int .u64 g)).setCell ⟨w.heap.size, 2, none⟩ (.int .u64 n)).setCell ⟨w.heap.size, 3, none⟩ (.int .i64 0)).setCell ⟨w.heap.size, 4, none⟩ (.slice Bs X.length ds)).setCell ⟨w.heap.size, 5, none⟩ (.slice Bn N.length dn)).heap.size = W2.heap.size := by simp only [World.size_setCell]
  clear hS1 hS2 hK BS HB
  generalize ((((((W2.setCell ⟨w.heap.size, 0, none⟩ (.int .u64 e)).setCell ⟨w.heap.size, 1, none⟩ (.int .u64 g)).setCell ⟨w.heap.size, 2, none⟩ (.int .u64 n)).setCell ⟨w.heap.size, 3, none⟩ (.int .i64 0)).setCell ⟨w.heap.size, 4, none⟩ (.slice Bs X.length ds)).setCell ⟨w.heap.size, 5, none⟩ (.slice Bn N.length dn)) = W3 at *
  have HXC := Aside0.mk (aSe_C (Kd.S_reads' hX).2.2)
  have HNS := Aside0.mk hN
  have HNC := Aside0.mk (aNo_C (Kd.S_reads' hN).2.2)
  have bp := blk_new W3 (.cells #[.slice none 0 0] 92)
  have hB3 := Aside0.mk hB
  have hlt3 := blk_lt bs
  have BS := Aside0.mk (blk_alloc bs (.cells #[.slice none 0 0] 92))
  have PK0 := Aside0.mk (show PK W3 (W3.alloc (.cells #[.slice none 0 0] 92)) W3.heap.size [] from ⟨⟨none, 0, bp, Kd.R_nil _ _ _ _ _⟩, below_alloc (Below.refl _ _) _, Nat.le_refl _⟩)
  clear bp bs hX hN hB
  have HGP := Aside0.mk (show w.heap.size ≠ W3.heap.size by omega)
  have HGQ := Aside0.mk (show w.heap.size ≤ W3.heap.size from hB3.out.size)
  generalize W3.alloc (.cells #[.slice none 0 0] 92) = W4 at *
  obtain ⟨gp, hgp⟩ : ∃ gp, W3.heap.size = gp := ⟨_, rfl⟩
  have HGE := Aside0.mk hgp
  have PKs : Aside0 (PK W3 W4 gp []) := ⟨by rw [← hgp]; exact PK0.out⟩
  have HGN : Aside0 (w.heap.size ≠ gp) := ⟨by rw [← hgp]; exact HGP.out⟩
  rw [← hsz3, hgp]
  clear hgp PK0 HGP hlt3 hlt1 hs2 hsz3
  obtain ⟨s0, s1, s2, s3, s4, s5⟩ := cells6 BS.out
  have hu := HU.out.1
  go_wp2_with fail
  refine (packer_numbers W3 _ gp ([]) (some ⟨_, 0, none⟩) 4 [e, g, n, (X.length : Int)] _ (fun _ => True) (PKs.out.alloc _) (litN _ [e, g, n, (X.length : Int)] (by simp)) (by intro z hz; simp only [List.mem_cons, List.not_mem_nil, or_false] at hz; rcases hz with rfl | rfl | rfl | rfl; exact HH.out.1; exact HH.out.2.1; exact HH.out.2.2; exact ⟨by omega, by omega⟩) (by simp)).mono ?_
  rintro r W5 ⟨rfl, hp, hk⟩
  clear s0 s1 s2 s3 s4 s5
  replace BS := Aside0.mk (hk.box (blk_alloc BS.out _) HGN.out (by decide))
  replace PKs := Aside0.mk (show PK W3 W5 gp (varN e ++ (varN g ++ (varN n ++ varN (X.length : Int)))) from by simpa only [List.flatMap_cons, List.flatMap_nil, List.append_nil, List.nil_append, List.append_assoc] using hp)
  clear hp hk
  have hhd : varN e ++ (varN g ++ (varN n ++ varN (X.length : Int))) = encHd e g n X := by simp only [encHd, List.append_assoc]
  rw [hhd] at PKs
  clear hhd
  obtain ⟨s0, s1, s2, s3, s4, s5⟩ := cells6 BS.out
  go_wp2_with fail
  clear s0 s1 s2 s3 s4 s5
  go_loopg [31] (X.length + 1) (fun kq v31 w' => ∃ i : Nat, v31 = .int .i64 i ∧ Aside0 (kq + i = X.length + 1 ∧ i ≤ X.length) ∧ Aside0 (PK W3 w' gp (encHd e g n X ++ (X.take i).flatMap (fun x => varN x.f0))) ∧ Aside0 (w'.heap[w.heap.size]? = some (.cells #[.int .u64 e, .int .u64 g, .int .u64 n, .int .i64 0, .slice Bs X.length ds, .slice Bn N.length dn] 36 (0, 0))))
  case atStart => exact ⟨0, rfl, ⟨⟨by omega, by omega⟩⟩, ⟨by rw [List.take_zero, List.flatMap_nil, List.append_nil]; exact PKs.out⟩, BS⟩
  case round =>
   clear PKs BS
   obtain ⟨i, rfl, HJ, PKs, BS⟩ := hrel
   have hj0 := HJ.out
   by_cases hj : i < X.length
   ·
    have c1 : decide ((i : Int) < (X.length : Int)) = true := decide_eq_true (by omega)
    have HT := Aside0.mk (flat_take (fun x : Se => varN x.f0) X i hj)
    have hlen : (encHd e g n X ++ (X.take i).flatMap (fun x => varN x.f0)).length ≤ 40 + 10 * 2097152 := by
     have h1 := encHd_le e g n X
     have h2 := flat_var_le (fun x : Se => x.f0) (X.take i)
     rw [List.length_take] at h2
     rw [List.length_append]
     omega
    have hrg := HX.out X[i] (List.getElem_mem hj)
    have ci : (0 : Int) ≤ (i : Int) := by omega
    have ci2 : (i : Int) < (X.length : Int) := by omega
    obtain ⟨ad, A2, c2', eA, hx0, hx1, hx2, _, _⟩ := at_T70 HXC.out (i : Int) ci ci2
    rw [rd_seE X i hj, Int.toNat_natCast] at hx0
    rw [rd_seE X i hj, Int.toNat_natCast] at hx1
    rw [rd_seE X i hj, Int.toNat_natCast] at hx2
    cases eA
    have hal : ∀ {a : Addr} {z : Value}, W3.cell? a = some z → wr.cell? a = some z := fun hz => (PKs.out.be.cell (World.block_lt_of_cell? W3 _ hz)).trans hz
    replace hx0 := hal hx0
    replace hx1 := hal hx1
    replace hx2 := hal hx2
    clear hal
    try simp only at HT
    generalize X[i].f0 = id at *
    generalize X[i].f1 = dl at *
    generalize X[i].f2.length = ql at *
    obtain ⟨x, hxq⟩ : ∃ x, encHd e g n X ++ (X.take i).flatMap (fun x => varN x.f0) = x := ⟨_, rfl⟩
    rw [hxq] at PKs hlen
    have HXE := Aside0.mk hxq
    clear hxq
    go_upto_region 9 with (fail)
    have n0 := (cells3 (blk_new wr (.cells #[.int .u64 id, .int .i64 dl, .slice A2 ql c2'] 70))).1
    replace BS := Aside0.mk (blk_alloc BS.out (.cells #[.int .u64 id, .int .i64 dl, .slice A2 ql c2'] 70))
    replace PKs := Aside0.mk (PKs.out.alloc (.cells #[.int .u64 id, .int .i64 dl, .slice A2 ql c2'] 70))
    generalize wr.heap.size = g5 at *
    generalize wr.alloc (.cells #[.int .u64 id, .int .i64 dl, .slice A2 ql c2'] 70) = W5 at *
    clear hx0 hx1 hx2
    obtain ⟨s0, s1, s2, s3, s4, s5⟩ := cells6 BS.out
    go_wp2_with fail
    refine (packer_numbers W3 _ gp (x) (some ⟨_, 0, none⟩) 1 [id] _ (fun _ => True) (PKs.out.alloc _) (litN _ [id] (by simp)) (by intro z hz; rw [List.mem_singleton.1 hz]; exact hrg) (by simp only [List.length_singleton]; omega)).mono ?_
    rintro r W6 ⟨rfl, hp, hk⟩
    clear s0 s1 s2 s3 s4 s5
    replace BS := Aside0.mk (hk.box (blk_alloc BS.out _) HGN.out (by decide))
    replace PKs := Aside0.mk (show PK W3 W6 gp (x ++ varN id) from by simpa only [List.flatMap_cons, List.flatMap_nil, List.append_nil, List.nil_append, List.append_assoc] using hp)
    clear hp hk
    have hj2 := HJ.out
    obtain ⟨k1, rfl⟩ : ∃ k1, gk = k1 + 1 := ⟨gk - 1, by omega⟩
    go_wp2_with fail
    go_roundg k1
    case measure => omega
    case rel => exact ⟨i + 1, by go_num, ⟨⟨by omega, by omega⟩⟩, ⟨by rw [HT.out, ← List.append_assoc, HXE.out]; exact PKs.out⟩, BS⟩
   ·
    have c1 : decide ((i : Int) < (X.length : Int)) = false := decide_eq_false (by omega)
    obtain rfl : i = X.length := by omega
    rw [List.take_length] at PKs
    have hlen : (encHd e g n X ++ X.flatMap (fun x => varN x.f0)).length ≤ 40 + 10 * 2097152 := by
     have h1 := encHd_le e g n X
     have h2 := flat_var_le (fun x : Se => x.f0) X
     rw [List.length_append]
     omega
    obtain ⟨x, hxq⟩ : ∃ x, encHd e g n X ++ X.flatMap (fun x => varN x.f0) = x := ⟨_, rfl⟩
    rw [hxq] at PKs hlen
    have HXE := Aside0.mk hxq
    clear hxq HJ hj0 HXC
    obtain ⟨s0, s1, s2, s3, s4, s5⟩ := cells6 BS.out
    have hu := HU.out.2
    go_wp2_with fail
    refine (packer_numbers W3 _ gp (x) (some ⟨_, 0, none⟩) 1 [(N.length : Int)] _ (fun _ => True) (PKs.out.alloc _) (litN _ [(N.length : Int)] (by simp)) (by intro z hz; rw [List.mem_singleton.1 hz]; exact ⟨by omega, by omega⟩) (by simp only [List.length_singleton]; omega)).mono ?_
    rintro r W21 ⟨rfl, hp, hk⟩
    clear s0 s1 s2 s3 s4 s5
    replace BS := Aside0.mk (hk.box (blk_alloc BS.out _) HGN.out (by decide))
    replace PKs := Aside0.mk (show PK W3 W21 gp (x ++ varN (N.length : Int)) from by simpa only [List.flatMap_cons, List.flatMap_nil, List.append_nil, List.nil_append, List.append_assoc] using hp)
    clear hp hk
    have hmid : x ++ varN (N.length : Int) = encMid e g n X N.length := by rw [← HXE.out]; rfl
    rw [hmid] at PKs
    clear hmid HXE hlen
    obtain ⟨s0, s1, s2, s3, s4, s5⟩ := cells6 BS.out
    go_wp2_with fail
    clear s0 s1 s2 s3 s4 s5
    go_loopg [51] (N.length + 1) (fun kq v51 w' => ∃ i : Nat, v51 = .int .i64 i ∧ Aside0 (kq + i = N.length + 1 ∧ i ≤ N.length) ∧ Aside0 (PK W3 w' gp (encMid e g n X N.length ++ (N.take i).flatMap encNo)) ∧ Aside0 (w'.heap[w.heap.size]? = some (.cells #[.int .u64 e, .int .u64 g, .int .u64 n, .int .i64 0, .slice Bs X.length ds, .slice Bn N.length dn] 36 (0, 0))))
    case atStart => exact ⟨0, rfl, ⟨⟨by omega, by omega⟩⟩, ⟨by rw [List.take_zero, List.flatMap_nil, List.append_nil]; exact PKs.out⟩, BS⟩
    case round =>
     clear PKs BS
     obtain ⟨i2, rfl, HJ, PKs, BS⟩ := hrel
     have hj0 := HJ.out
     by_cases hj : i2 < N.length
     ·
      have c1b : decide ((i2 : Int) < (N.length : Int)) = true := decide_eq_true (by omega)
      have HT := Aside0.mk (flat_take encNo N i2 hj)
      have hlen : (encMid e g n X N.length ++ (N.take i2).flatMap encNo).length ≤ 67109000 := by
       have h1 := encMid_le e g n X N.length
       have h2 := flatNo_le (N.take i2)
       have h3 := sumL_take_le lnNo N i2
       have h4 := HSU.out
       rw [List.length_append]
       omega
      have hrg := HN.out N[i2] (List.getElem_mem hj)
      have ci : (0 : Int) ≤ (i2 : Int) := by omega
      have ci2 : (i2 : Int) < (N.length : Int) := by omega
      obtain ⟨gA, capA, eA0, _⟩ := Kd.S_form HNS.out (by omega)
      injection eA0 with eA1 _ eA3
      subst eA1
      subst eA3
      obtain ⟨oki, cc, hcl, hM, hcc, hfr, hoki, hH⟩ := Kd.S_elem HNS.out z76 (i2 : Int) ci ci2
      rw [Int.toNat_natCast, List.getD_eq_getElem?_getD, List.getElem?_eq_getElem hj] at hM
      simp only [Option.getD_some] at hM
      obtain ⟨y, hy⟩ : ∃ y, N[i2] = y := ⟨_, rfl⟩
      rw [hy] at hM hrg HT
      clear hy hH hoki hfr
      obtain ⟨l0, l1, o, m, l4, ep, ge, l7⟩ := y
      obtain ⟨p0, p1, p4, v0, v1, v4, v7, rfl, hR0, hR1, hR4, hR7⟩ := aNo_open hM
      simp only at hR0 hR1 hR4 hR7 hrg hcc
      obtain ⟨C0, k0, rfl⟩ := Kd.R_slice hR0
      obtain ⟨C1, k1', rfl⟩ := Kd.R_slice hR1
      obtain ⟨C4, k4, rfl⟩ := Kd.R_slice hR4
      obtain ⟨C7, k7, rfl⟩ := Kd.R_slice hR7
      have hal : ∀ {a : Addr} {z : Value}, W3.cell? a = some z → wr.cell? a = some z := fun hz => (PKs.out.be.cell (World.block_lt_of_cell? W3 _ hz)).trans hz
      have hx0 := hal (hcc 0 _ rfl)
      rw [show (i2 : Int).toNat * aNo.sz + 0 = i2 * 8 by rw [Int.toNat_natCast]; rfl] at hx0
      have hx1 := hal (hcc 1 _ rfl)
      rw [show (i2 : Int).toNat * aNo.sz + 1 = i2 * 8 + 1 by rw [Int.toNat_natCast]; rfl] at hx1
      have hx2 := hal (hcc 2 _ rfl)
      rw [show (i2 : Int).toNat * aNo.sz + 2 = i2 * 8 + 2 by rw [Int.toNat_natCast]; rfl] at hx2
      have hx3 := hal (hcc 3 _ rfl)
      rw [show (i2 : Int).toNat * aNo.sz + 3 = i2 * 8 + 3 by rw [Int.toNat_natCast]; rfl] at hx3
      have hx4 := hal (hcc 4 _ rfl)
      rw [show (i2 : Int).toNat * aNo.sz + 4 = i2 * 8 + 4 by rw [Int.toNat_natCast]; rfl] at hx4
      have hx5 := hal (hcc 5 _ rfl)
      rw [show (i2 : Int).toNat * aNo.sz + 5 = i2 * 8 + 5 by rw [Int.toNat_natCast]; rfl] at hx5
      have hx6 := hal (hcc 6 _ rfl)
      rw [show (i2 : Int).toNat * aNo.sz + 6 = i2 * 8 + 6 by rw [Int.toNat_natCast]; rfl] at hx6
      have hx7 := hal (hcc 7 _ rfl)
      rw [show (i2 : Int).toNat * aNo.sz + 7 = i2 * 8 + 7 by rw [Int.toNat_natCast]; rfl] at hx7
      clear hal hcc hcl hM
      have HI0 := Aside0.mk (Kd.R_reads' hR0).2
      have HI1 := Aside0.mk (Kd.R_reads' hR1).2
      have HI4 := Aside0.mk hR4
      have HRN := Aside0.mk hrg
      have HU4 := Aside0.mk (u64_nat l4.length (by omega))
      have hm0 := hrg.2.2.1.1
      have hm1 := hrg.2.2.1.2
      have hm4 := hrg.2.2.2
      clear hR0 hR1 hR4 hR7 hrg
      obtain ⟨x, hxq⟩ : ∃ x, encMid e g n X N.length ++ (N.take i2).flatMap encNo = x := ⟨_, rfl⟩
      rw [hxq] at PKs hlen
      have HXE := Aside0.mk hxq
      clear hxq
      go_upto_region 15 with (fail)
      have BN := Aside0.mk (blk_new wr (.cells #[.slice C0 l0.length k0, .slice C1 l1.length k1', .int .u64 o, .int .i64 m, .slice C4 l4.length k4, .int .u64 ep, .int .u64 ge, .slice C7 l7.length k7] 76))
      replace BS := Aside0.mk (blk_alloc BS.out (.cells #[.slice C0 l0.length k0, .slice C1 l1.length k1', .int .u64 o, .int .i64 m, .slice C4 l4.length k4, .int .u64 ep, .int .u64 ge, .slice C7 l7.length k7] 76))
      have HNP := Aside0.mk (show wr.heap.size ≠ gp from by have h1 := PKs.out.be.size; obtain ⟨⟨_, _, hbx, _⟩, _, _⟩ := PKs.out; have h2 := blk_lt hbx; omega)
      replace PKs := Aside0.mk (PKs.out.alloc (.cells #[.slice C0 l0.length k0, .slice C1 l1.length k1', .int .u64 o, .int .i64 m, .slice C4 l4.length k4, .int .u64 ep, .int .u64 ge, .slice C7 l7.length k7] 76))
      clear hx0 hx1 hx2 hx3 hx4 hx5 hx6 hx7
      generalize wr.heap.size = gN at *
      generalize wr.alloc (.cells #[.slice C0 l0.length k0, .slice C1 l1.length k1', .int .u64 o, .int .i64 m, .slice C4 l4.length k4, .int .u64 ep, .int .u64 ge, .slice C7 l7.length k7] 76) = W30 at *
      obtain ⟨n0, n1, n2, n3, n4, n5, n6, n7⟩ := cells8 BN.out
      go_wp2_with fail
      refine (packer_text W3 _ gp (x) C0 k0 l0 PKs.out HI0.out.2 HI0.out.1 (by have h0 := textB_length l0; have h1 := textB_length l1; have h2 := varN_length o; have h3 := varN_length (l4.length : Int); have h4 := flat_varN_le l4; (try simp only [List.length_append, List.length_singleton, List.length_cons, List.length_nil]); omega)).mono ?_
      rintro r W31 ⟨rfl, hp, hk⟩
      clear n0 n1 n2 n3 n4 n5 n6 n7
      replace BS := Aside0.mk (hk.box BS.out HGN.out (by decide))
      replace BN := Aside0.mk (hk.box BN.out HNP.out (by decide))
      replace PKs := Aside0.mk (show PK W3 W31 gp (x ++ textB l0) from hp)
      clear hp hk
      obtain ⟨n0, n1, n2, n3, n4, n5, n6, n7⟩ := cells8 BN.out
      go_wp2_with fail
      refine (packer_text W3 _ gp (x ++ textB l0) C1 k1' l1 PKs.out HI1.out.2 HI1.out.1 (by have h0 := textB_length l0; have h1 := textB_length l1; have h2 := varN_length o; have h3 := varN_length (l4.length : Int); have h4 := flat_varN_le l4; (try simp only [List.length_append, List.length_singleton, List.length_cons, List.length_nil]); omega)).mono ?_
      rintro r W32 ⟨rfl, hp, hk⟩
      clear n0 n1 n2 n3 n4 n5 n6 n7
      replace BS := Aside0.mk (hk.box BS.out HGN.out (by decide))
      replace BN := Aside0.mk (hk.box BN.out HNP.out (by decide))
      replace PKs := Aside0.mk (show PK W3 W32 gp (x ++ textB l0 ++ textB l1) from hp)
      clear hp hk
      obtain ⟨xq, hxq⟩ : ∃ xq, x ++ textB l0 ++ textB l1 = xq := ⟨_, rfl⟩
      have hlq : xq.length ≤ 100000000 - 100 := by rw [← hxq]; have h0 := textB_length l0; have h1 := textB_length l1; have h2 := varN_length o; have h3 := varN_length (l4.length : Int); have h4 := flat_varN_le l4; (try simp only [List.length_append, List.length_singleton, List.length_cons, List.length_nil]); omega
      rw [hxq] at PKs
      obtain ⟨s0, s1, s2, s3, s4, s5⟩ := cells6 BS.out
      obtain ⟨n0, n1, n2, n3, n4, n5, n6, n7⟩ := cells8 BN.out
      go_wp2_with fail
      refine (packer_numbers W3 _ gp (xq) (some ⟨_, 0, none⟩) 1 [o] _ (fun _ => True) (PKs.out.alloc _) (litN _ [o] (by simp)) (by intro z hz; rw [List.mem_singleton.1 hz]; exact HRN.out.1.1) (by simp only [List.length_singleton, List.length_cons, List.length_nil]; omega)).mono ?_
      rintro r W33 ⟨rfl, hp, hk⟩
      clear s0 s1 s2 s3 s4 s5 n0 n1 n2 n3 n4 n5 n6 n7
      replace BS := Aside0.mk (hk.box (blk_alloc BS.out _) HGN.out (by decide))
      replace BN := Aside0.mk (hk.box (blk_alloc BN.out _) HNP.out (by decide))
      replace PKs := Aside0.mk (show PK W3 W33 gp (xq ++ (varN o)) from by simpa only [List.flatMap_cons, List.flatMap_nil, List.append_nil, List.nil_append, List.append_assoc] using hp)
      clear hp hk
      rw [← hxq] at PKs
      clear hxq hlq
      go_upto_region 18 with (fail)
      obtain ⟨q, hq⟩ : ∃ q, x ++ textB l0 ++ textB l1 ++ varN o = q := ⟨_, rfl⟩
      have hlq : q.length ≤ 100000000 := by rw [← hq]; have h0 := textB_length l0; have h1 := textB_length l1; have h2 := varN_length o; have h3 := varN_length (l4.length : Int); have h4 := flat_varN_le l4; (try simp only [List.length_append, List.length_singleton, List.length_cons, List.length_nil]); omega
      rw [hq] at PKs
      have HQ := Aside0.mk hq
      clear hq
      obtain ⟨n0, n1, n2, n3, n4, n5, n6, n7⟩ := cells8 BN.out
      go_cut [] (fun wc => Aside0 (PK W3 wc gp (q ++ [IntKind.u8.wrap m])) ∧ Aside0 (wc.heap[w.heap.size]? = some (.cells #[.int .u64 e, .int .u64 g, .int .u64 n, .int .i64 0, .slice Bs X.length ds, .slice (some ⟨gA, 0, none⟩) N.length dn] 36 (0, 0))) ∧ Aside0 (wc.heap[gN]? = some (.cells #[.slice C0 l0.length k0, .slice C1 l1.length k1', .int .u64 o, .int .i64 m, .slice C4 l4.length k4, .int .u64 ep, .int .u64 ge, .slice C7 l7.length k7] 76 (0, 0))))
      case first =>
       obtain ⟨Ap, cp, hbox, hR, zp, fp, hgz⟩ := PKs.out.open_
       have HR := Aside0.mk hR
       have HZ := Aside0.mk hgz
       have HBX := Aside0.mk hbox
       have HL := Aside0.mk (show (q.length + 1) * 1 ≤ 140737488355328 by omega)
       have a1 := own_lit W33 W33.heap.size 5 .u8 [IntKind.u8.wrap m] (Nat.le_refl _) (by simp)
       have HW := Aside0.mk (show Kd.C (Kd.int .u8) (W33.alloc (.cells #[.int .u8 (IntKind.u8.wrap m)] 5)) (some ⟨W33.heap.size, 0, none⟩) 1 [IntKind.u8.wrap m] from (Kd.R_reads' (Kd.R_of_own (enc := Value.int .u8) (h1 := fun _ => rfl) (xs := [IntKind.u8.wrap m]) (ok := fun _ => True) a1 (fun _ _ => trivial))).2.2)
       have zq : ∀ o, (W33.alloc o).cell? ⟨gp, 0, none⟩ = some (.slice Ap q.length cp) := fun o => (blk_cell (blk_alloc hbox o) 0).trans rfl
       have zqd : ∀ o, (W33.alloc o).drew.cell? ⟨gp, 0, none⟩ = some (.slice Ap q.length cp) := zq
       have zD : W33.drew.cell? ⟨gp, 0, none⟩ = some (.slice Ap q.length cp) := zp
       have y3 : ∀ o, (W33.alloc o).cell? ⟨gN, 3, none⟩ = some (.int .i64 m) := fun o => (blk_cell (blk_alloc BN.out o) 3).trans rfl
       have y3d : ∀ o, (W33.alloc o).drew.cell? ⟨gN, 3, none⟩ = some (.int .i64 m) := y3
       have zD3 : W33.drew.cell? ⟨gN, 3, none⟩ = some (.int .i64 m) := n3
       clear hR hgz hbox a1 n0 n1 n2 n4 n5 n6 n7
       go_region_law (first | (refine Kd.R_append_rows_step (Kd.int .u8) (w0 := W3) W3.heap.size (by rfl) (.tmp 72) (.tmp 76) 22 5 (.int .u8 0) 1 rfl Tryd.underlying22 info5 rfl (by decide) (by omega) (.slice Ap q.length cp) q [IntKind.u8.wrap m] (some ⟨W33.heap.size, 0, none⟩) 1 1 (fun _ => True) (fun _ => False) (by simp [Act.eval, Act.put]) (by simp [Act.eval, Act.put]) ?aO ?aR (fun _ _ h => h) (fun _ h => h.elim) (fun _ _ => trivial) ?aB ?aS HL.out ?_; (case aO => repeat (first | exact HR.out | refine Kd.R_drew ?_ | refine Kd.R_alloc ?_ _)); (case aR => repeat (first | exact HW.out | refine Kd.C_drew ?_)); (case aB => repeat (first | exact PKs.out.be | apply below_drew1 | apply below_alloc)); (case aS => exact below_size (by repeat (first | exact PKs.out.be | apply below_drew1 | apply below_alloc))); intro v1 w6 ho hb hg hat; obtain ⟨A1, c1', rfl⟩ := Kd.R_slice ho; have hgA := HZ.out w6 (grown_pre (by repeat (first | exact Below.refl _ _ | apply below_drew1 | apply below_alloc)) hg); have ho' := Aside0.mk ho; have hb' := Aside0.mk hb; have hg' := Aside0.mk (grown_pre (W := W33) (by repeat (first | exact Below.refl _ _ | apply below_drew1 | apply below_alloc)) hg); have hx' := Aside0.mk hgA.1; have y0 := hgA.2.1; have y1 := hgA.2.2; clear ho hb hg hat hgA))
       all_goals
        go_wp2_with fail
        go_meet
       all_goals
        have hput := PKs.out.put hx'.out ho'.out hb'.out
        have eL : (q ++ [IntKind.u8.wrap m]).length = q.length + 1 := by simp
        rw [eL] at hput
        have hbx := blk_grown BS.out hg'.out (Kd.R_ne HR.out BS.out (by decide))
        have hbn := blk_grown BN.out hg'.out (Kd.R_ne HR.out BN.out (by decide))
        exact ⟨⟨hput⟩, ⟨(Below.heap_setCell w6 ⟨gp, 0, none⟩ _ w.heap.size HGN.out).trans hbx⟩, ⟨(Below.heap_setCell w6 ⟨gp, 0, none⟩ _ gN HNP.out).trans hbn⟩⟩
      case rest =>
       clear PKs BS BN n0 n1 n2 n3 n4 n5 n6 n7
       obtain ⟨PKs, BS, BN⟩ := hcut
       rw [u8_wrap] at PKs
       rw [← HQ.out] at PKs
       clear HQ hlq
       obtain ⟨xq, hxq⟩ : ∃ xq, x ++ textB l0 ++ textB l1 ++ varN o ++ [m % 256] = xq := ⟨_, rfl⟩
       have hlq : xq.length ≤ 100000000 - 100 := by rw [← hxq]; have h0 := textB_length l0; have h1 := textB_length l1; have h2 := varN_length o; have h3 := varN_length (l4.length : Int); have h4 := flat_varN_le l4; (try simp only [List.length_append, List.length_singleton, List.length_cons, List.length_nil]); omega
       rw [hxq] at PKs
       obtain ⟨s0, s1, s2, s3, s4, s5⟩ := cells6 BS.out
       obtain ⟨n0, n1, n2, n3, n4, n5, n6, n7⟩ := cells8 BN.out
       have hu := HU4.out
       go_wp2_with fail
       refine (packer_numbers W3 _ gp (xq) (some ⟨_, 0, none⟩) 1 [(l4.length : Int)] _ (fun _ => True) (PKs.out.alloc _) (litN _ [(l4.length : Int)] (by simp)) (by intro z hz; rw [List.mem_singleton.1 hz]; exact ⟨by omega, by omega⟩) (by simp only [List.length_singleton, List.length_cons, List.length_nil]; omega)).mono ?_
       rintro r W41 ⟨rfl, hp, hk⟩
       clear s0 s1 s2 s3 s4 s5 n0 n1 n2 n3 n4 n5 n6 n7
       replace BS := Aside0.mk (hk.box (blk_alloc BS.out _) HGN.out (by decide))
       replace BN := Aside0.mk (hk.box (blk_alloc BN.out _) HNP.out (by decide))
       replace PKs := Aside0.mk (show PK W3 W41 gp (xq ++ (varN (l4.length : Int))) from by simpa only [List.flatMap_cons, List.flatMap_nil, List.append_nil, List.nil_append, List.append_assoc] using hp)
       clear hp hk
       rw [← hxq] at PKs
       clear hxq hlq
       obtain ⟨xq, hxq⟩ : ∃ xq, x ++ textB l0 ++ textB l1 ++ varN o ++ [m % 256] ++ varN (l4.length : Int) = xq := ⟨_, rfl⟩
       have hlq : xq.length + 10 * l4.length ≤ 100000000 - 100 := by rw [← hxq]; have h0 := textB_length l0; have h1 := textB_length l1; have h2 := varN_length o; have h3 := varN_length (l4.length : Int); have h4 := flat_varN_le l4; (try simp only [List.length_append, List.length_singleton, List.length_cons, List.length_nil]); omega
       rw [hxq] at PKs
       obtain ⟨n0, n1, n2, n3, n4, n5, n6, n7⟩ := cells8 BN.out
       go_wp2_with fail
       refine (packer_numbers W3 _ gp xq C4 k4 l4 _ _ PKs.out (Kd.R_below HI4.out PKs.out.be) HRN.out.1.2 (by omega)).mono ?_
       rintro r W45 ⟨rfl, hp, hk⟩
       clear n0 n1 n2 n3 n4 n5 n6 n7
       replace BS := Aside0.mk (hk.box BS.out HGN.out (by decide))
       replace BN := Aside0.mk (hk.box BN.out HNP.out (by decide))
       replace PKs := Aside0.mk (show PK W3 W45 gp (xq ++ l4.flatMap varN) from hp)
       rw [← hxq] at PKs
       clear hp hk hxq hlq
       obtain ⟨xq, hxq⟩ : ∃ xq, x ++ textB l0 ++ textB l1 ++ varN o ++ [m % 256] ++ varN (l4.length : Int) ++ l4.flatMap varN = xq := ⟨_, rfl⟩
       have hlq : xq.length ≤ 100000000 - 100 := by rw [← hxq]; have h0 := textB_length l0; have h1 := textB_length l1; have h2 := varN_length o; have h3 := varN_length (l4.length : Int); have h4 := flat_varN_le l4; (try simp only [List.length_append, List.length_singleton, List.length_cons, List.length_nil]); omega
       rw [hxq] at PKs
       obtain ⟨s0, s1, s2, s3, s4, s5⟩ := cells6 BS.out
       obtain ⟨n0, n1, n2, n3, n4, n5, n6, n7⟩ := cells8 BN.out
       go_wp2_with fail
       refine (packer_numbers W3 _ gp (xq) (some ⟨_, 0, none⟩) 2 [ep, ge] _ (fun _ => True) (PKs.out.alloc _) (litN _ [ep, ge] (by simp)) (by intro z hz; simp only [List.mem_cons, List.not_mem_nil, or_false] at hz; rcases hz with rfl | rfl; exact HRN.out.2.1.1; exact HRN.out.2.1.2) (by simp only [List.length_singleton, List.length_cons, List.length_nil]; omega)).mono ?_
       rintro r W46 ⟨rfl, hp, hk⟩
       clear s0 s1 s2 s3 s4 s5 n0 n1 n2 n3 n4 n5 n6 n7
       replace BS := Aside0.mk (hk.box (blk_alloc BS.out _) HGN.out (by decide))
       replace BN := Aside0.mk (hk.box (blk_alloc BN.out _) HNP.out (by decide))
       replace PKs := Aside0.mk (show PK W3 W46 gp (xq ++ (varN ep ++ varN ge)) from by simpa only [List.flatMap_cons, List.flatMap_nil, List.append_nil, List.nil_append, List.append_assoc] using hp)
       clear hp hk
       rw [← hxq] at PKs
       clear hxq hlq
       have hfin : x ++ textB l0 ++ textB l1 ++ varN o ++ [m % 256] ++ varN (l4.length : Int) ++ l4.flatMap varN ++ (varN ep ++ varN ge) = encMid e g n X N.length ++ (N.take (i2 + 1)).flatMap encNo := by
        rw [HT.out, ← HXE.out]
        simp only [encNo, List.append_assoc]
       rw [hfin] at PKs
       clear hfin
       have hj2 := HJ.out
       obtain ⟨k1, rfl⟩ : ∃ k1, gk = k1 + 1 := ⟨gk - 1, by omega⟩
       go_wp2_with fail
       go_roundg k1
       case measure => omega
       case rel => exact ⟨i2 + 1, by go_num, ⟨⟨by omega, by omega⟩⟩, PKs, BS⟩
     ·
      have c1b : decide ((i2 : Int) < (N.length : Int)) = false := decide_eq_false (by omega)
      obtain rfl : i2 = N.length := by omega
      rw [List.take_length] at PKs
      obtain ⟨Ap, cp, hbox, hR, zp, fp, hgz⟩ := PKs.out.open_
      have HR := Aside0.mk hR
      have HBE := Aside0.mk PKs.out.be
      clear hR hgz hbox fp
      have hen : encMid e g n X N.length ++ N.flatMap encNo = encF e g n t xs ns := HF.out.symm
      rw [hen] at HR zp
      clear hen PKs
      go_wp2_with fail
      go_ret
      have hbw : Below w.heap.size w wr := below_step hB3.out HBE.out
      exact ⟨Ap, cp, rfl, ⟨Kd.R_tight rfl (Kd.R_lower HR.out (Nat.le_trans HB0.out.size HGQ.out)), fun k hk => ⟨Nat.le_trans HGQ.out (Kd.R_base HR.out k hk.symm), Kd.R_lt HR.out k hk.symm⟩⟩, hbw⟩
set_option maxHeartbeats 8000000 in
set_option maxRecDepth 100000 in
theorem FnExactEncodeState_walk (HV : ValIC) (e g n t : Int) (As : Option Addr) (cs : Nat) (xs : List SeL) (An : Option Addr) (cn : Nat) (ns : List NoL) (w : World) (h1 : Kd.C kSeL w As xs.length xs) (hc1 : xs.length ≤ cs) (h2 : Kd.C kNoL w An ns.length ns) (hc2 : ns.length ≤ cn)
  (hge : 0 ≤ e ∧ e < 18446744073709551616) (hgg : 0 ≤ g ∧ g < 18446744073709551616) (hgn : 0 ≤ n ∧ n < 18446744073709551616) (gx : ∀ x ∈ xs, gSe x) (gn : ∀ x ∈ ns, gNo x) :
  Calls Tryd.prog 6 #[.agg #[.int .u64 e, .int .u64 g, .int .u64 n, .int .i64 t, .slice As xs.length cs, .slice An ns.length cn]] w fun r w' => r = .returned (.bool true) ∧ Below w.heap.size w w' := by
 have SZ := Aside0.mk (fun (W : World) (hW : Below w.heap.size w W) => szState_w e g n t xs ns As cs An cn 1048576 (by decide) (by decide) W (Kd.C_below h1 hW) hc1 (Kd.C_below h2 hW) hc2)
 have H1 := Aside0.mk (And.intro h1 hc1)
 have H2 := Aside0.mk (And.intro h2 hc2)
 have HGE := Aside0.mk (And.intro hge (And.intro hgg hgn))
 have HGX := Aside0.mk (And.intro gx gn)
 clear h1 hc1 h2 hc2 gx gn hge hgg hgn
 go_enter Tryd.func6, Tryd.ntmps6
 go_wp2_with fail
 refine (SZ.out _ (below_alloc (Below.refl w.heap.size w) _)).mono ?_
 rintro r w1 ⟨⟨r0, rfl, hcase⟩, hb⟩
 have HCA := Aside0.mk hcase
 have HB := Aside0.mk (below_step (below_alloc (Below.refl w.heap.size w) _) hb)
 have X := Aside0.mk (blk_below (blk_new w (.cells #[.int .u64 e, .int .u64 g, .int .u64 n, .int .i64 t, (.slice As xs.length cs), (.slice An ns.length cn)] 30)) hb)
 have s1 := hb.size
 simp only [World.size_alloc] at s1
 clear hb SZ hcase
 by_cases hr : r0 < 0
 case pos =>
  have d0 : decide (r0 < 0) = true := decide_eq_true hr
  go_wp2_with fail
  go_ret
  exact ⟨rfl, HB.out⟩
 have d0 : decide (r0 < 0) = false := decide_eq_false hr
 have hw : xs.length + pS xs + ns.length + pN ns ≤ 1048576 := by
  rcases HCA.out with h | ⟨_, a⟩
  ·
   exact absurd h hr
  ·
   omega
 have hsm := smS_of hw HGX.out.1 HGX.out.2
 have hrg := rgS_of HGX.out.1 HGX.out.2
 have hsum : 1 + sumL lnSe (xs.map toSe) + sumL lnNo (ns.map toNo) ≤ 100000000 := by rw [sumSe_of, sumNo_of]; omega
 have hs4 : sumL lnSe (xs.map toSe) + sumL lnNo (ns.map toNo) ≤ 4194305 := by rw [sumSe_of, sumNo_of]; omega
 have hq1 : pS xs ≤ 1048576 := by omega
 have hq2 : pN ns ≤ 1048576 := by omega
 have EQ := Aside0.mk (eqB_of hsm)
 have TS := Aside0.mk (fun (W : World) (hW : Below w.heap.size w W) => toState_ok w e g n t As cs xs An cn ns W hW (Kd.C_below H1.out.1 hW) H1.out.2 (by omega) (smSe_of hq1) (Kd.C_below H2.out.1 hW) H2.out.2 (by omega) (smNo_of hq2))
 have SP := Aside0.mk (fun (Bs : Option Addr) (ds : Nat) (Bn : Option Addr) (dn : Nat) (W : World) (hW : Below w.heap.size w W) (k1 : Kd.C kSe W Bs (xs.map toSe).length (xs.map toSe)) (k2 : (xs.map toSe).length ≤ ds) (k3 : Kd.C kNo W Bn (ns.map toNo).length (ns.map toNo)) (k4 : (ns.map toNo).length ≤ dn) => specEnc_ok w e g n t Bs ds (xs.map toSe) Bn dn (ns.map toNo) W hW k1 k2 k3 k4 hsm hrg HGE.out hs4)
 have IM := Aside0.mk (fun (Bs : Option Addr) (ds : Nat) (Bn : Option Addr) (dn : Nat) (W : World) (hW : Below w.heap.size w W) (k1 : Kd.C kSe W Bs (xs.map toSe).length (xs.map toSe)) (k2 : (xs.map toSe).length ≤ ds) (k3 : Kd.C kNo W Bn (ns.map toNo).length (ns.map toNo)) (k4 : (ns.map toNo).length ≤ dn) => implEnc_ok HV w e g n t Bs ds (xs.map toSe) Bn dn (ns.map toNo) W hW k1 k2 k3 k4 hsm hrg HGE.out hs4)
 have hlr : (encF e g n t (xs.map toSe) (ns.map toNo)).length ≤ 100000000 := Nat.le_trans (encF_le e g n t _ _) (by omega)
 obtain ⟨X_, hX⟩ : ∃ X, xs.map toSe = X := ⟨_, rfl⟩
 obtain ⟨N_, hN⟩ : ∃ N, ns.map toNo = N := ⟨_, rfl⟩
 simp only [hX, hN] at TS SP IM EQ hsum hlr
 have MK := Aside0.mk (fun (lo hi : Nat) (As : Option Addr) (cs : Nat) (An : Option Addr) (cn : Nat) (W : World) (hB : Below w.heap.size w W) (h : SK w W lo hi As cs X_ An cn N_) => markState_sk 1 w lo hi e g n t As cs X_ An cn N_ W hB h hsum)
 obtain ⟨mm, hmm⟩ : ∃ m, 1 + sumL lnSe X_ + sumL lnNo N_ = m := ⟨_, rfl⟩
 rw [hmm] at MK
 obtain ⟨r, hrr⟩ : ∃ r, encF e g n t X_ N_ = r := ⟨_, rfl⟩
 rw [hrr] at hlr
 simp only [hrr] at SP IM
 clear hs4 hq1 hq2 hw hsm hrg hsum HCA hr hX hN hmm hrr HGE HGX
 have z1_l := blk_lt X.out
 have z1_0 := blk_cell X.out 0
 have z1_1 := blk_cell X.out 1
 have z1_2 := blk_cell X.out 2
 have z1_3 := blk_cell X.out 3
 have z1_4 := blk_cell X.out 4
 have z1_5 := blk_cell X.out 5
 simp only [List.getElem?_toArray, List.getElem?_cons_zero, List.getElem?_cons_succ] at z1_0 z1_1 z1_2 z1_3 z1_4 z1_5
 go_wp2_with fail
 refine (TS.out _ HB.out).mono ?_
 rintro e w2 ⟨Ts, Tds, Tn, Tdn, rfl, hd, hb⟩
 replace X := Aside0.mk (blk_below X.out hb)
 replace HB := Aside0.mk (below_step HB.out hb)
 have s2 := hb.size
 clear hb
 clear z1_l z1_0 z1_1 z1_2 z1_3 z1_4 z1_5
 (try simp only [World.size_alloc] at hd)
 have DT := Aside0.mk hd
 clear hd
 go_wp2_with fail
 refine (SP.out Ts Tds Tn Tdn _ HB.out (DT.out).reads.1.1 (DT.out).reads.1.2 (DT.out).reads.2.1 (DT.out).reads.2.2).mono ?_
 rintro e w3 ⟨W0, W0c, rfl, hd, hb⟩
 clear DT
 replace X := Aside0.mk (blk_below X.out hb)
 replace HB := Aside0.mk (below_step HB.out hb)
 have s3 := hb.size
 clear hb
 (try simp only [World.size_alloc] at hd)
 have DW := Aside0.mk hd
 clear hd
 have z2_l := blk_lt X.out
 have z2_0 := blk_cell X.out 0
 have z2_1 := blk_cell X.out 1
 have z2_2 := blk_cell X.out 2
 have z2_3 := blk_cell X.out 3
 have z2_4 := blk_cell X.out 4
 have z2_5 := blk_cell X.out 5
 simp only [List.getElem?_toArray, List.getElem?_cons_zero, List.getElem?_cons_succ] at z2_0 z2_1 z2_2 z2_3 z2_4 z2_5
 go_wp2_with fail
 refine (TS.out _ HB.out).mono ?_
 rintro e w4 ⟨X0s, X0ds, X0n, X0dn, rfl, hd, hb⟩
 replace X := Aside0.mk (blk_below X.out hb)
 replace DW := Aside0.mk (DW.out.below hb)
 replace HB := Aside0.mk (below_step HB.out hb)
 have s4 := hb.size
 clear hb
 clear z2_l z2_0 z2_1 z2_2 z2_3 z2_4 z2_5
 (try simp only [World.size_alloc] at hd)
 have DX := Aside0.mk hd
 clear hd
 go_wp2_with fail
 have hba := below_alloc (Below.refl w4.heap.size w4) (.cells #[.int .u64 e, .int .u64 g, .int .u64 n, .int .i64 t, (.slice X0s X_.length X0ds), (.slice X0n N_.length X0dn)] 36)
 have NB := Aside0.mk (blk_new w4 (.cells #[.int .u64 e, .int .u64 g, .int .u64 n, .int .i64 t, (.slice X0s X_.length X0ds), (.slice X0n N_.length X0dn)] 36))
 refine (IM.out X0s X0ds X0n X0dn _ (below_step HB.out hba) (DX.out.below hba).reads.1.1 (DX.out.below hba).reads.1.2 (DX.out.below hba).reads.2.1 (DX.out.below hba).reads.2.2).mono ?_
 rintro e w5 ⟨G0, G0c, rfl, hd, hb⟩
 replace X := Aside0.mk (blk_below (blk_below X.out hba) hb)
 replace DW := Aside0.mk ((DW.out.below hba).below hb)
 replace DX := Aside0.mk ((DX.out.below hba).below hb)
 replace HB := Aside0.mk (below_step (below_step HB.out hba) hb)
 have Z := Aside0.mk (blk_below NB.out hb)
 clear NB
 have s5 := hb.size
 simp only [World.size_alloc] at s5
 clear hb hba
 (try simp only [World.size_alloc] at hd)
 have DG := Aside0.mk hd
 clear hd
 go_wp2_with fail
 refine (eqByteS_bk 200000000 w w _ _ _ _ G0 G0c r W0 W0c _ DG.out DW.out (by omega) (by omega)).mono ?_
 rintro e w6 ⟨rfl, hb⟩
 replace X := Aside0.mk (blk_below X.out hb)
 replace Z := Aside0.mk (blk_below Z.out hb)
 replace DW := Aside0.mk (DW.out.below hb)
 replace DX := Aside0.mk (DX.out.below hb)
 replace DG := Aside0.mk (DG.out.below hb)
 replace HB := Aside0.mk (below_step HB.out hb)
 have s6 := hb.size
 clear hb
 have z3_l := blk_lt X.out
 have z3_0 := blk_cell X.out 0
 have z3_1 := blk_cell X.out 1
 have z3_2 := blk_cell X.out 2
 have z3_3 := blk_cell X.out 3
 have z3_4 := blk_cell X.out 4
 have z3_5 := blk_cell X.out 5
 have z4_l := blk_lt Z.out
 have z4_0 := blk_cell Z.out 0
 have z4_1 := blk_cell Z.out 1
 have z4_2 := blk_cell Z.out 2
 have z4_3 := blk_cell Z.out 3
 have z4_4 := blk_cell Z.out 4
 have z4_5 := blk_cell Z.out 5
 simp only [List.getElem?_toArray, List.getElem?_cons_zero, List.getElem?_cons_succ] at z3_0 z3_1 z3_2 z3_3 z3_4 z3_5 z4_0 z4_1 z4_2 z4_3 z4_4 z4_5
 go_wp2_with fail
 go_region_held3 (fun w' => w'.cell? ⟨w.heap.size, 0, none⟩ = some (.int .u64 e) ∧ w'.cell? ⟨w.heap.size, 1, none⟩ = some (.int .u64 g) ∧ w'.cell? ⟨w.heap.size, 2, none⟩ = some (.int .u64 n) ∧ w'.cell? ⟨w.heap.size, 3, none⟩ = some (.int .i64 t) ∧ w'.cell? ⟨w.heap.size, 4, none⟩ = some ((.slice As xs.length cs)) ∧ w'.cell? ⟨w.heap.size, 5, none⟩ = some ((.slice An ns.length cn)) ∧ w'.cell? ⟨w4.heap.size, 0, none⟩ = some (.int .u64 e) ∧ w'.cell? ⟨w4.heap.size, 1, none⟩ = some (.int .u64 g) ∧ w'.cell? ⟨w4.heap.size, 2, none⟩ = some (.int .u64 n) ∧ w'.cell? ⟨w4.heap.size, 3, none⟩ = some (.int .i64 t) ∧ w'.cell? ⟨w4.heap.size, 4, none⟩ = some ((.slice X0s X_.length X0ds)) ∧ w'.cell? ⟨w4.heap.size, 5, none⟩ = some ((.slice X0n N_.length X0dn))) (first | exact ⟨z3_0, z3_1, z3_2, z3_3, z3_4, z3_5, z4_0, z4_1, z4_2, z4_3, z4_4, z4_5⟩ | exact ⟨z5_0, z5_1, z5_2, z5_3, z5_4, z5_5, z6_0, z6_1, z6_2, z6_3, z6_4, z6_5⟩ | exact ⟨z7_0, z7_1, z7_2, z7_3, z7_4, z7_5, z8_0, z8_1, z8_2, z8_3, z8_4, z8_5⟩) (first | (go_at_call 15; refine (TS.out _ (by with_reducible repeat (first | exact HB.out | apply below_drew1))).mono ?_; rintro e w7 ⟨Vs, Vds, Vn, Vdn, rfl, hd, hb0⟩; have hb : Below w6.heap.size w6 w7 := (by first | exact hb0 | exact (below_drew1 (Below.refl w6.heap.size w6)).trans hb0); clear hb0; replace X := Aside0.mk (blk_below X.out hb); replace Z := Aside0.mk (blk_below Z.out hb); replace DW := Aside0.mk (DW.out.below hb); replace DX := Aside0.mk (DX.out.below hb); replace DG := Aside0.mk (DG.out.below hb); replace HB := Aside0.mk (below_step HB.out hb); have s7 := hb.size; clear hb; (try simp only [World.size_alloc] at hd); have DV := Aside0.mk hd; clear hd; clear z3_l z3_0 z3_1 z3_2 z3_3 z3_4 z3_5 z4_l z4_0 z4_1 z4_2 z4_3 z4_4 z4_5; have z5_l := blk_lt X.out; have z5_0 := blk_cell X.out 0; have z5_1 := blk_cell X.out 1; have z5_2 := blk_cell X.out 2; have z5_3 := blk_cell X.out 3; have z5_4 := blk_cell X.out 4; have z5_5 := blk_cell X.out 5; have z6_l := blk_lt Z.out; have z6_0 := blk_cell Z.out 0; have z6_1 := blk_cell Z.out 1; have z6_2 := blk_cell Z.out 2; have z6_3 := blk_cell Z.out 3; have z6_4 := blk_cell Z.out 4; have z6_5 := blk_cell Z.out 5; simp only [List.getElem?_toArray, List.getElem?_cons_zero, List.getElem?_cons_succ] at z5_0 z5_1 z5_2 z5_3 z5_4 z5_5 z6_0 z6_1 z6_2 z6_3 z6_4 z6_5) | (go_at_call 17; refine (eqState_same e g n t X_ N_ X0s X0ds Vs Vds X0n X0dn Vn Vdn _ (by repeat (first | exact (DX.out).reads.1.1 | refine Kd.C_drew ?_)) DX.out.reads.1.2 (by repeat (first | exact (DV.out).reads.1.1 | refine Kd.C_drew ?_)) DV.out.reads.1.2 EQ.out.1 (by repeat (first | exact (DX.out).reads.2.1 | refine Kd.C_drew ?_)) DX.out.reads.2.2 (by repeat (first | exact (DV.out).reads.2.1 | refine Kd.C_drew ?_)) DV.out.reads.2.2 EQ.out.2).mono ?_; rintro e w8 ⟨rfl, hb0⟩; have hb : Below w7.heap.size w7 w8 := (by first | exact hb0 | exact (below_drew1 (Below.refl w7.heap.size w7)).trans hb0); clear hb0; clear DV; replace X := Aside0.mk (blk_below X.out hb); replace Z := Aside0.mk (blk_below Z.out hb); replace DW := Aside0.mk (DW.out.below hb); replace DX := Aside0.mk (DX.out.below hb); replace DG := Aside0.mk (DG.out.below hb); replace HB := Aside0.mk (below_step HB.out hb); have s8 := hb.size; clear hb; clear z5_l z5_0 z5_1 z5_2 z5_3 z5_4 z5_5 z6_l z6_0 z6_1 z6_2 z6_3 z6_4 z6_5; have z7_l := blk_lt X.out; have z7_0 := blk_cell X.out 0; have z7_1 := blk_cell X.out 1; have z7_2 := blk_cell X.out 2; have z7_3 := blk_cell X.out 3; have z7_4 := blk_cell X.out 4; have z7_5 := blk_cell X.out 5; have z8_l := blk_lt Z.out; have z8_0 := blk_cell Z.out 0; have z8_1 := blk_cell Z.out 1; have z8_2 := blk_cell Z.out 2; have z8_3 := blk_cell Z.out 3; have z8_4 := blk_cell Z.out 4; have z8_5 := blk_cell Z.out 5; simp only [List.getElem?_toArray, List.getElem?_cons_zero, List.getElem?_cons_succ] at z7_0 z7_1 z7_2 z7_3 z7_4 z7_5 z8_0 z8_1 z8_2 z8_3 z8_4 z8_5))
 clear z7_l z7_0 z7_1 z7_2 z7_3 z7_4 z7_5 z8_l z8_0 z8_1 z8_2 z8_3 z8_4 z8_5
 have b4 := blk_lt Z.out
 have b7 := blk_lt X.out
 have z9_l := blk_lt Z.out
 have z9_0 := blk_cell Z.out 0
 have z9_1 := blk_cell Z.out 1
 have z9_2 := blk_cell Z.out 2
 have z9_3 := blk_cell Z.out 3
 have z9_4 := blk_cell Z.out 4
 have z9_5 := blk_cell Z.out 5
 simp only [List.getElem?_toArray, List.getElem?_cons_zero, List.getElem?_cons_succ] at z9_0 z9_1 z9_2 z9_3 z9_4 z9_5
 go_wp2_with fail
 refine (MK.out _ _ X0s X0ds X0n X0dn _ HB.out DX.out).mono ?_
 rintro e w9 ⟨rfl, hd, hb, hk⟩
 replace X := Aside0.mk (blk_kept X.out hk (by intro h; omega))
 replace Z := Aside0.mk (blk_kept Z.out hk (by intro h; omega))
 replace DW := Aside0.mk (DW.out.kept hk (by intro k h1 h2 h3; omega))
 replace DG := Aside0.mk (DG.out.kept hk (by intro k h1 h2 h3; omega))
 replace HB := Aside0.mk hb
 have s9 := hk.1
 replace DX := Aside0.mk hd
 clear hb hk hd
 clear z9_l z9_0 z9_1 z9_2 z9_3 z9_4 z9_5
 have hneg : decide ((mm : Int) < 0) = false := decide_eq_false (by omega)
 clear DX Z
 go_wp2_with fail
 refine (eqByteS_bk 200000000 w w _ _ _ _ G0 G0c r W0 W0c _ DG.out DW.out (by omega) (by omega)).mono ?_
 rintro e w10 ⟨rfl, hb⟩
 replace X := Aside0.mk (blk_below X.out hb)
 replace DW := Aside0.mk (DW.out.below hb)
 replace DG := Aside0.mk (DG.out.below hb)
 replace HB := Aside0.mk (below_step HB.out hb)
 have s10 := hb.size
 clear hb
 go_wp2_with fail
 refine (markByteS_bk 200000000 1 w _ _ G0 G0c r _ HB.out DG.out (by omega) (by omega) (by omega)).mono ?_
 rintro e w11 ⟨rfl, hd, hb, hk⟩
 replace X := Aside0.mk (blk_kept X.out hk (by intro h; omega))
 replace DW := Aside0.mk (DW.out.kept hk (by intro k h1 h2 h3; omega))
 replace HB := Aside0.mk hb
 have s11 := hk.1
 replace DG := Aside0.mk hd
 clear hb hk hd
 generalize hm3 : 1 + r.length = m3
 go_wp2_with fail
 refine (heldByteS_bk 200000000 1 r.length w _ _ G0 G0c _ DG.out (by omega) (by omega) (by omega)).mono ?_
 rintro e w12 ⟨rfl, hb⟩
 replace X := Aside0.mk (blk_below X.out hb)
 replace DW := Aside0.mk (DW.out.below hb)
 replace DG := Aside0.mk (DG.out.below hb)
 replace HB := Aside0.mk (below_step HB.out hb)
 have s12 := hb.size
 clear hb
 rw [hm3]
 have hneg3 : decide ((m3 : Int) < 0) = false := decide_eq_false (by omega)
 have z10_l := blk_lt X.out
 have z10_0 := blk_cell X.out 0
 have z10_1 := blk_cell X.out 1
 have z10_2 := blk_cell X.out 2
 have z10_3 := blk_cell X.out 3
 have z10_4 := blk_cell X.out 4
 have z10_5 := blk_cell X.out 5
 simp only [List.getElem?_toArray, List.getElem?_cons_zero, List.getElem?_cons_succ] at z10_0 z10_1 z10_2 z10_3 z10_4 z10_5
 go_wp2_with fail
 refine (TS.out _ HB.out).mono ?_
 rintro e w13 ⟨Ts, Tds, Tn, Tdn, rfl, hd, hb⟩
 replace X := Aside0.mk (blk_below X.out hb)
 replace DW := Aside0.mk (DW.out.below hb)
 replace DG := Aside0.mk (DG.out.below hb)
 replace HB := Aside0.mk (below_step HB.out hb)
 have s13 := hb.size
 clear hb
 clear z10_l z10_0 z10_1 z10_2 z10_3 z10_4 z10_5
 (try simp only [World.size_alloc] at hd)
 have DT := Aside0.mk hd
 clear hd
 go_wp2_with fail
 refine (IM.out Ts Tds Tn Tdn _ HB.out (DT.out).reads.1.1 (DT.out).reads.1.2 (DT.out).reads.2.1 (DT.out).reads.2.2).mono ?_
 rintro e w14 ⟨H0, H0c, rfl, hd, hb⟩
 clear DT
 replace X := Aside0.mk (blk_below X.out hb)
 replace DW := Aside0.mk (DW.out.below hb)
 replace DG := Aside0.mk (DG.out.below hb)
 replace HB := Aside0.mk (below_step HB.out hb)
 have s14 := hb.size
 clear hb
 (try simp only [World.size_alloc] at hd)
 have DH := Aside0.mk hd
 clear hd
 go_wp2_with fail
 refine (eqByteS_bk 200000000 w w _ _ _ _ H0 H0c r W0 W0c _ DH.out DW.out (by omega) (by omega)).mono ?_
 rintro e w15 ⟨rfl, hb⟩
 replace X := Aside0.mk (blk_below X.out hb)
 replace DW := Aside0.mk (DW.out.below hb)
 replace DG := Aside0.mk (DG.out.below hb)
 replace DH := Aside0.mk (DH.out.below hb)
 replace HB := Aside0.mk (below_step HB.out hb)
 have s15 := hb.size
 clear hb
 go_wp2_with fail
 refine (heldByteS_bk 200000000 1 r.length w _ _ G0 G0c _ DG.out (by omega) (by omega) (by omega)).mono ?_
 rintro e w16 ⟨rfl, hb⟩
 replace X := Aside0.mk (blk_below X.out hb)
 replace DW := Aside0.mk (DW.out.below hb)
 replace DG := Aside0.mk (DG.out.below hb)
 replace DH := Aside0.mk (DH.out.below hb)
 replace HB := Aside0.mk (below_step HB.out hb)
 have s16 := hb.size
 clear hb
 rw [hm3]
 go_wp2_with fail
 go_ret
 exact ⟨rfl, HB.out⟩
theorem FnExactEncodeState_walk0 (e g n t : Int) (As : Option Addr) (cs : Nat) (xs : List SeL) (An : Option Addr) (cn : Nat) (ns : List NoL) (w : World) (h1 : Kd.C kSeL w As xs.length xs) (hc1 : xs.length ≤ cs) (h2 : Kd.C kNoL w An ns.length ns) (hc2 : ns.length ≤ cn) (gx : ∀ x ∈ xs, gSe x) (gn : ∀ x ∈ ns, gNo x) (we : (Lit.int .u64 e).wf = true) (wg : (Lit.int .u64 g).wf = true) (wn : (Lit.int .u64 n).wf = true) :
  Calls Tryd.prog 6 #[.agg #[.int .u64 e, .int .u64 g, .int .u64 n, .int .i64 t, .slice As xs.length cs, .slice An ns.length cn]] w fun r w' => r = .returned (.bool true) ∧ Below w.heap.size w w' :=
 FnExactEncodeState_walk valIC e g n t As cs xs An cn ns w h1 hc1 h2 hc2 (u64_range we) (u64_range wg) (u64_range wn) gx gn
end Go.Proofs.YtbgbocdohadhoaaDoor.Print
namespace Go.Proofs.YtbgbocdohadhoaaDoor.fnExactEncodeState
open Go.ChangeShapes Go.WideShapes Go.ChangeAt Go.RowKit Print
open Go.ChangeMaps (open_string shut_string)
open Go.Proofs.YtbgbocdohadhoaaDoorW.PrintWords Go.Proofs.YtbgbocdohadhoaaDoorW.PrintLast Go.Proofs.YtbgbocdohadhoaaDoorW.PrintMore
set_option linter.unusedVariables false
theorem own : ownKnob Tryd.prog.godebug = none := by kernel_rfl
theorem laidOut : laidOutB Tryd.prog = true := by kernel_rfl
set_option maxRecDepth 100000 in
theorem lifted (os : Os) (started : os.Started) (H : Type) (enc : TypeId × Value → H) :
  ReturnsInHanded {} Tryd.checked os 6 .any (fun w args => (Rows.fnExactEncodeStateSpec.pre enc Tryd.prog Tryd.f6 Rows.fnExactEncodeStateRow.domain false w args ∧ laidMetH Tryd.prog Rows.fnExactEncodeStateRow.laid w) ∧ sizedMet enc Tryd.prog Tryd.f6 (OpenSpec.ofChange Rows.fnExactEncodeStateSpec) false w args) (Rows.fnExactEncodeStateSpec.post enc Tryd.prog Tryd.f6 false true false false) := by
 refine returnsInHanded_of_change_and (C := Tryd.checked) (X := fun w _ => laidMetH Tryd.prog Rows.fnExactEncodeStateRow.laid w) (fun _ _ _ hh h => h.of_heap hh) own started (by kernel_rfl) Tryd.func6
  (ChangeSpec.witness_shaped (enc := enc) (C := Tryd.checked) (os := os) (X := fun w _ => laidMetH Tryd.prog Rows.fnExactEncodeStateRow.laid w) false (World.laidAll Tryd.prog os Rows.fnExactEncodeStateRow.laid) #[.agg #[.int .u64 0, .int .u64 0, .int .u64 0, .int .i64 0, .slice none 0 0, .slice none 0 0]] 8 (World.laidAll_os _ _ _)
   (World.shaped_of_ZipB (by kernel_rfl) (by kernel_rfl)) (by kernel_rfl) (by kernel_rfl) (by kernel_rfl)
   (by rw [MakeChecks.laidMetH_plain _ _ _ (by kernel_rfl)]; exact laidMet_laidAll _ (by kernel_rfl) (by kernel_rfl))) ?_
 intro W base args ds gs before hval0 hW hcnd hsz0 hL _
 have hsz : (DataW.weightsEach Tryd.prog (Tryd.f6.params.toList ++ Rows.fnExactEncodeStateSpec.plain.varTypes Tryd.prog) (ds ++ gs)).all (· ≤ reachBytes) = true := hsz0
 have hval : ∀ (j : Nat) t v, Tryd.f6.params[j]? = some t → args[j]? = some v → Value.okWide Tryd.prog W .any base t v := hval0
 have hW' := hW
 obtain ⟨p, q, hA0, hV, rfl, hfz, hnd⟩ := hW
 have hA : DataW.TrodAll enc Tryd.prog W 0 (fun _ => true) true Tryd.f6.params.toList args.toList ds p := hA0
 rw [Tryd.params6] at hA hval hsz
 obtain ⟨v0, vs0, d0, ds0, p0, q0, hargs, rfl, rfl, h0, r0⟩ := trodAll_cons hA
 obtain ⟨rfl, rfl, rfl⟩ := trodAll_nil r0
 obtain rfl : args = #[v0] := by cases args; simp_all
 obtain ⟨rfl, rfl⟩ := trodVars_none hV
 have k0 := h0
 have lt0 : ∀ x ∈ p0, x.block < W.heap.size := by obtain ⟨m, hm⟩ := k0; exact DataW.trod_lt m _ _ _ hm
 obtain ⟨e0, g0, n0, t0, As0, cs0, xs0, An0, cn0, ns0, rfl, hs0, hcs0, hn0, hcn0, gx0, gn0, we0, wg0, wn0, wt0⟩ := state_open hsz (j := 0) rfl rfl (hval 0 30 v0 rfl rfl) h0
 clear hA0 hval0 hsz0 hsz
 refine (FnExactEncodeState_walk0 e0 g0 n0 t0 As0 cs0 xs0 An0 cn0 ns0 W hs0 hcs0 hn0 hcn0 gx0 gn0 we0 wg0 wn0).mono fun e W' ⟨he, bel⟩ => ?_
 subst he
 exact ⟨_, rfl, _, _, _, [], _, [], hW', trodAll_mk1 (shut_bool Tryd.underlying4 _), (trodAll_cons_mk (Below.trod laidOut (by kernel_rfl) (of_decide_eq_true (by kernel_rfl)) k0 bel lt0) trodAll_mk0), rfl, bel.frame _, fun h => by cases h⟩
theorem over : Rows.fnExactEncodeStateRow.holds Tryd.pinned (OpenSpec.ofChange Rows.fnExactEncodeStateSpec) :=
 OpenClaim.holds_of_wide 6 Tryd.f6 rfl rfl rfl rfl rfl rfl rfl ⟨rfl, rfl, rfl, rfl, rfl⟩ rfl rfl rfl rfl rfl (by kernel_rfl) Tryd.func6 (by kernel_rfl)
  (of_decide_eq_true (by kernel_rfl)) (by unfold Func.isWrapper; first | (rw [if_pos (by decide +kernel)]; kernel_rfl) | (rw [if_neg (by decide +kernel)]; exact ⟨rfl, rfl⟩))
  (fun os started H enc _ => lifted os started H enc)
theorem card : Rows.FnExactEncodeStateCardSaid :=
 Claim7.holds_tied_plain_at .later [] [.data, .pinned] true (true, "315b13090ccdb0a690506cc700d9df368a48c098d999642fff85f69f6bfec662") true over (fun _ h => by cases h) (by kernel_rfl) (fun _ h => by cases h) fnExactEncodeState_row_tie rfl ⟨rfl, rfl⟩ (by kernel_rfl) rfl
  (fun f fn hf hfn => by
   obtain rfl : f = 6 := Option.some.inj ((show Tryd.prog.funcNamed "loop.example/s02132/laws.FnExactEncodeState" = some 6 by kernel_rfl).symm.trans hf) |>.symm
   obtain rfl : fn = Tryd.f6 := (Option.some.inj (Tryd.func6.symm.trans hfn)).symm
   exact ⟨by kernel_rfl, fun j t ht => by
    rw [Tryd.params6] at ht
    have hm : t ∈ [30] := by simpa using Array.mem_of_getElem? ht
    have hall : ([30].all fun u => !Tryd.prog.wantsStandIn u) = true := by kernel_rfl
    exact (show Tryd.prog.wantsStandIn t = false by simpa using List.all_eq_true.1 hall t hm)⟩)
  (by kernel_rfl)
end Go.Proofs.YtbgbocdohadhoaaDoor.fnExactEncodeState
namespace Go.Proofs.YtbgbocdohadhoaaDoor
theorem fnExactEncodeState_holds : Rows.FnExactEncodeStateCardSaid := fnExactEncodeState.card
end Go.Proofs.YtbgbocdohadhoaaDoor
