/- The walk of the law LabelArcs. -/
import Derived.Test.YtnpgeohkmdcbkaaLabD
import Derived.Test.YtnpgeohkmdcbkaaLeft
import Derived.Test.YtnpgeohkmdcbkaaAw06
import Derived.Test.YtnpgeohkmdcbkaaF30
import Derived.Test.YtnpgeohkmdcbkaaA3
import Derived.Test.YtnpgeohkmdcbkaaEng13
import Derived.Test.YtnpgeohkmdcbkaaPlain4
namespace Go.Proofs.Ytnpgeohkmdcbkaa.Aq
open Go Go.RowKit

theorem St.one {B : Nat} {we w : World} {L : List Asn} {a : Asn} (h : St B we w L) (hm : a ∈ L) : St B we w [a] :=
  ⟨h.below, h.base, fun x hx => by rw [List.mem_singleton.1 hx]; exact h.ok a hm, fun x hx => by rw [List.mem_singleton.1 hx]; exact h.ge a hm, List.pairwise_singleton _ _⟩
theorem f31m (c : Cs) (q : Q6) (res l : List Int) (m : Nat) (hm : res.length = m) (A1 : Option Addr) (c1 : Nat) (A : Option Addr) (cc : Nat) (w : World) (hwf : WF c) (hc : CsAt c q w) (hr : (sl (eInt .i64) 1 A1 m c1 res).p w) (hl : (sl (eInt .i64) 1 A l.length cc l).p w) :
    Calls Try.prog 31 #[csV c q, .slice A1 m c1, .slice A l.length cc] w fun e w' => ∃ A' c', e = .returned (.slice A' (steepL c res l).length c') ∧ Gr w w' ∧ (∀ b, (own (eInt .i64) 1 3 A' (steepL c res l).length c' (steepL c res l)).fp b → w.heap.size ≤ b) ∧ (own (eInt .i64) 1 3 A' (steepL c res l).length c' (steepL c res l)).p w' := by
  subst hm; exact f31 c q res l A1 c1 A cc w hwf hc hr hl
theorem f33m (c : Cs) (q : Q6) (res l : List Int) (m : Nat) (hm : res.length = m) (A1 : Option Addr) (c1 : Nat) (A : Option Addr) (cc : Nat) (w : World) (hwf : WF c) (hc : CsAt c q w) (hr : (sl (eInt .i64) 1 A1 m c1 res).p w) (hl : (sl (eInt .i64) 1 A l.length cc l).p w) :
    Calls Try.prog 33 #[csV c q, .slice A1 m c1, .slice A l.length cc] w fun e w' => ∃ A' c', e = .returned (.slice A' (flatL c res l).length c') ∧ Gr w w' ∧ (∀ b, (own (eInt .i64) 1 3 A' (flatL c res l).length c' (flatL c res l)).fp b → w.heap.size ≤ b) ∧ (own (eInt .i64) 1 3 A' (flatL c res l).length c' (flatL c res l)).p w' := by
  subst hm; exact f33 c q res l A1 c1 A cc w hwf hc hr hl
theorem f35m (c : Cs) (q : Q6) (res l : List Int) (m : Nat) (hm : res.length = m) (A1 : Option Addr) (c1 : Nat) (A : Option Addr) (cc : Nat) (w : World) (hwf : WF c) (hc : CsAt c q w) (hr : (sl (eInt .i64) 1 A1 m c1 res).p w) (hl : (sl (eInt .i64) 1 A l.length cc l).p w) :
    Calls Try.prog 35 #[csV c q, .slice A1 m c1, .slice A l.length cc] w fun e w' => e = .returned (.bool (validB c res l)) ∧ Gr w w' := by
  subst hm; exact f35 c q res l A1 c1 A cc w hwf hc hr hl
theorem may_set {c : Cs} {res h : List Int} {k : Nat} (hm : mayB c res h = true) : mayB c (res.set k 0) h = true := by
  unfold mayB at hm ⊢
  rwa [List.length_set]
theorem down_set {c : Cs} {res h : List Int} {p : Int → Bool} {k a : Nat} (hk : k < res.length) : downP c (res.set k 0) h p a = (downP c res h p a && !decide (a = k)) := by
  unfold downP
  have e : (res.set k 0).getD a 0 = if a = k then 0 else res.getD a 0 := by
    simp only [List.getD_eq_getElem?_getD, List.getElem?_set]
    by_cases h : k = a
    · subst h; simp [hk]
    · simp [h, Ne.symm h]
  rw [e]
  by_cases h : a = k
  · subst h; simp
  · simp [h]
theorem not_shut {c : Cs} {res h : List Int} {k : Int} {j : Nat} (hm : mayB c res h = true) (hj : j < (steepL c (res.set k.toNat 0) h ++ flatL c (res.set k.toNat 0) h).length) (h0 : 0 ≤ k) (h1 : k < res.length) :
    ¬ (steepL c (res.set k.toNat 0) h ++ flatL c (res.set k.toNat 0) h).getD (j : Int).toNat 0 = k := by
  intro he
  have hmem : k ∈ steepL c (res.set k.toNat 0) h ++ flatL c (res.set k.toNat 0) h := by
    have e2 := getD_memI hj
    have e3 : (steepL c (res.set k.toNat 0) h ++ flatL c (res.set k.toNat 0) h).getD j 0 = k := he
    rwa [e3] at e2
  have key : ∀ p : Int → Bool, k ∉ downL c (res.set k.toNat 0) h p := fun p hx => by
    rw [downL_may (may_set hm)] at hx
    obtain ⟨a, _, h2, h3⟩ := filt_mem.1 hx
    rw [down_set (by omega)] at h2
    have : a = k.toNat := by omega
    simp [this] at h2
  rcases List.mem_append.1 hmem with hx | hx
  · exact key _ hx
  · exact key _ hx
theorem valid_none {c : Cs} {res h : List Int} (hm : mayB c res h = true) (h0 : res.length = 0) : validB c res h = true := by
  have hl := (Bool.and_eq_true _ _ ▸ hm : decide ((res.length : Int) = c.Head.length) = true ∧ rightB c h = true).1
  have hM : c.Head.length = 0 := by have := of_decide_eq_true hl; omega
  unfold validB steepL
  rw [hm, downL_may hm, hM]
  rfl
theorem filt_set (p : Nat → Bool) (k : Nat) : ∀ M, filt (fun a => p a && !decide (a = k)) M = (filt p M).filter (fun x => !decide (x = (k : Int)))
  | 0 => rfl
  | M + 1 => by
    rw [filt_succ', filt_succ', List.filter_append, filt_set p k M]
    congr 1
    cases hp : p M with
    | false => simp
    | true =>
      by_cases h : M = k
      · subst h; simp
      · have : ¬ (M : Int) = (k : Int) := by omega
        simp [h, this]
theorem valid_shut {c : Cs} {res h : List Int} {k : Int} (hm : mayB c res h = true) (h0 : 0 ≤ k) (h1 : k < res.length) :
    (validB c (res.set k.toNat 0) h == (decide (((steepL c res h).length : Int) = 0) || (decide (((steepL c res h).length : Int) = 1) && decide ((steepL c res h).getD (0 : Int).toNat 0 = k)))) = true := by
  have hm' : mayB c (res.set k.toNat 0) h = true := may_set hm
  have e1 : steepL c (res.set k.toNat 0) h = (steepL c res h).filter (fun x => !decide (x = k)) := by
    unfold steepL
    rw [downL_may hm', downL_may hm]
    have e2 : downP c (res.set k.toNat 0) h (fun k => decide (1 < k)) = fun a => downP c res h (fun k => decide (1 < k)) a && !decide (a = k.toNat) := funext fun a => down_set (by omega)
    rw [e2, filt_set, Int.toNat_of_nonneg h0]
  have hc : (steepL c res h).count k ≤ 1 := by
    unfold steepL
    rw [downL_may hm, show k = ((k.toNat : Nat) : Int) by omega, filt_count]
    split <;> omega
  unfold validB
  rw [hm', e1, Bool.true_and]
  generalize steepL c res h = s at hc
  match s, hc with
  | [], _ => rfl
  | [x], _ =>
    by_cases h : x = k
    · subst h; simp
    · simp [h]
  | x :: y :: r, hc =>
    have hlen : ¬ (((x :: y :: r).filter (fun x => !decide (x = k))).length : Int) = 0 := by
      by_cases h : x = k
      · by_cases h' : y = k
        · subst h; subst h'; simp at hc
        · rw [List.filter_cons_of_neg (by simp [h]), List.filter_cons_of_pos (by simp [h']), List.length_cons]; omega
      · rw [List.filter_cons_of_pos (by simp [h]), List.length_cons]; omega
    rw [decide_eq_false hlen, decide_eq_false (by simp; omega), decide_eq_false (by simp; omega)]
    rfl
theorem mayL (n : Nt) (l : List Int) (h : List Int) : mayB (makeF (someN n)) (resL (someN n) l) (heightsF (makeF (someN n)) h) = true :=
  (may_iff (makeF_wf (someN_ok n))).2 ⟨(resL_ok (someN_ok n) l).len, heightsF_right (makeF_wf (someN_ok n)) h⟩
theorem cnt_step {xs : List Int} {f : Int → Int} {j : Nat} (hf : ∀ x, f x = (((xs.take j).count x : Nat) : Int)) (hj : j < xs.length) : ∀ x, (fun x => if x = xs.getD (j : Int).toNat 0 then f (xs.getD (j : Int).toNat 0) + 1 else f x) x = (((xs.take (j + 1)).count x : Nat) : Int) := fun x => by
  have e : xs.getD (j : Int).toNat 0 = xs[j] := by simp [List.getD_eq_getElem?_getD, hj]
  rw [e, List.take_succ_eq_append_getElem hj, List.count_append]
  show (if x = xs[j] then f xs[j] + 1 else f x) = _
  by_cases h : x = xs[j]
  · rw [if_pos h, ← h, hf]; simp [h]
  · rw [if_neg h, hf]; simp [List.count_cons, Ne.symm h]
theorem cnt_step2 {xs ys : List Int} {f : Int → Int} {j : Nat} (hf : ∀ x, f x = ((ys.count x : Nat) : Int) + 2 * (((xs.take j).count x : Nat) : Int)) (hj : j < xs.length) : ∀ x, (fun x => if x = xs.getD (j : Int).toNat 0 then f (xs.getD (j : Int).toNat 0) + 2 else f x) x = ((ys.count x : Nat) : Int) + 2 * (((xs.take (j + 1)).count x : Nat) : Int) := fun x => by
  have e : xs.getD (j : Int).toNat 0 = xs[j] := by simp [List.getD_eq_getElem?_getD, hj]
  rw [e, List.take_succ_eq_append_getElem hj, List.count_append]
  show (if x = xs[j] then f xs[j] + 2 else f x) = _
  by_cases h : x = xs[j]
  · rw [if_pos h, ← h, hf]; simp [h]; omega
  · rw [if_neg h, hf]; simp [List.count_cons, Ne.symm h]
theorem kind_count {c : Cs} {res h : List Int} {k : Nat} (hm : mayB c res h = true) (hk : k < c.Head.length) (p : Int → Bool) : (downL c res h p).count (k : Int) = if downP c res h p k = true then 1 else 0 := by
  rw [downL_may hm, filt_count]
  simp [hk]
theorem want_ok {f want : Int} {cs cf : Nat} {d1 d2 : Bool} (hf : f = (cs : Int) + 2 * (cf : Int)) (hcs : cs = if d1 = true then 1 else 0) (hcf : cf = if d2 = true then 1 else 0) (hw : want = (if d1 = true then 1 else 0) + 2 * (if d2 = true then 1 else 0)) (h : (!decide (f = want)) = true) : False := by
  rw [Bool.not_eq_true', decide_eq_false_iff_not] at h
  apply h
  rw [hf, hcs, hcf, hw]
  cases d1 <;> cases d2 <;> rfl
theorem kind_s {r b t s : Int} (h : ((decide (0 < r) && !decide (t = s)) && decide (0 < b)) = true) (h1 : decide (1 < b) = true) : (1 : Int) = (if (!decide (t = s) && decide (0 < r) && decide (1 < b)) = true then 1 else 0) + 2 * (if (!decide (t = s) && decide (0 < r) && decide (b = 1)) = true then 1 else 0) := by
  simp only [Bool.and_eq_true] at h
  have := of_decide_eq_true h1
  rw [h.1.1, h.1.2, h1, decide_eq_false (by omega : ¬ b = 1)]
  rfl
theorem kind_f {r b t s : Int} (h : ((decide (0 < r) && !decide (t = s)) && decide (0 < b)) = true) (h1 : decide (1 < b) = false) : (2 : Int) = (if (!decide (t = s) && decide (0 < r) && decide (1 < b)) = true then 1 else 0) + 2 * (if (!decide (t = s) && decide (0 < r) && decide (b = 1)) = true then 1 else 0) := by
  simp only [Bool.and_eq_true] at h
  have := of_decide_eq_false h1
  have := of_decide_eq_true h.2
  rw [h.1.1, h.1.2, h1, decide_eq_true (by omega : b = 1)]
  rfl
theorem kind_n {r b t s : Int} (h : ((decide (0 < r) && !decide (t = s)) && decide (0 < b)) = false) : (0 : Int) = (if (!decide (t = s) && decide (0 < r) && decide (1 < b)) = true then 1 else 0) + 2 * (if (!decide (t = s) && decide (0 < r) && decide (b = 1)) = true then 1 else 0) := by
  have e1 : (!decide (t = s) && decide (0 < r) && decide (1 < b)) = false := by
    cases hx : (decide (0 < r) && !decide (t = s)) with
    | false => rw [Bool.and_comm (!decide (t = s)), hx]; rfl
    | true =>
      rw [hx, Bool.true_and, decide_eq_false_iff_not] at h
      rw [decide_eq_false (by omega : ¬ 1 < b)]; simp
  have e2 : (!decide (t = s) && decide (0 < r) && decide (b = 1)) = false := by
    cases hx : (decide (0 < r) && !decide (t = s)) with
    | false => rw [Bool.and_comm (!decide (t = s)), hx]; rfl
    | true =>
      rw [hx, Bool.true_and, decide_eq_false_iff_not] at h
      rw [decide_eq_false (by omega : ¬ b = 1)]; simp
  rw [e1, e2]
  rfl
set_option maxRecDepth 10000 in
/-- acequialaw06.LabelArcs. -/
theorem f5 (n : Nt) (A : Option Addr) (c : Nat) (l : List Int) (A1 : Option Addr) (c1 : Nat) (h : List Int) (A2 : Option Addr) (c2 : Nat) (at0 : Int) (w : World) (ha : (sl eArc 3 A n.arcs.length c n.arcs).p w) (hrgn : (-9223372036854775808 ≤ n.N ∧ n.N ≤ 9223372036854775807) ∧ (-9223372036854775808 ≤ n.S ∧ n.S ≤ 9223372036854775807) ∧ (-9223372036854775808 ≤ n.T ∧ n.T ≤ 9223372036854775807) ∧ ∀ a ∈ n.arcs, -9223372036854775808 ≤ a.1 ∧ a.1 ≤ 9223372036854775807 ∧ -9223372036854775808 ≤ a.2.1 ∧ a.2.1 ≤ 9223372036854775807 ∧ -9223372036854775808 ≤ a.2.2 ∧ a.2.2 ≤ 9223372036854775807) (hl : (sl (eInt .i64) 1 A1 l.length c1 l).p w) (hrgl : ∀ x ∈ l, -9223372036854775808 ≤ x ∧ x ≤ 9223372036854775807) (hh : (sl (eInt .i64) 1 A2 h.length c2 h).p w) (hrgh : ∀ x ∈ h, -9223372036854775808 ≤ x ∧ x ≤ 9223372036854775807) (hat0 : 0 ≤ at0 ∧ at0 ≤ 255) :
    Calls Try.prog 5 #[netV n A c, .slice A1 l.length c1, .slice A2 h.length c2, .int .u8 at0] w fun e w' => e = .returned (.bool true) ∧ Gr w w' := by
  refine calls_cw Try.func5 rfl Try.ntmps5 rfl ?_
  have hok := someN_ok n
  have hwf := makeF_wf hok
  have hro := resL_ok hok l
  have hM := hwf.m
  have hrlen := hro.len
  have hm := mayL n l h
  have hrh := heightsF_right hwf h
  have hHl := heightsF_len (makeF (someN n)) h
  have hN := hwf.hi
  have hst := steepL_len hwf (resL (someN n) l) (heightsF (makeF (someN n)) h)
  have hfl := flatL_len hwf (resL (someN n) l) (heightsF (makeF (someN n)) h)
  have hS := (((St.start w).args (Nat.le_refl _) _ ha rfl).args (Nat.le_refl _) _ hl rfl).args (Nat.le_refl _) _ hh rfl
  refine cw_seq ?_
  -- region 0
  refine cw_region ?_
  refine lw_box rfl rfl rfl rfl hS ?_
  clear hS; intro b4 w1 _ _ hS
  refine lw_v rfl rfl (ok_assign rfl (.n rfl) rfl) ?_
  refine lw_nil ?_
  refine Ends.keep [(1, .eq _), (2, .eq _), (3, .eq _), (4, .eq _)] (.cons rfl (.cons rfl (.cons rfl (.cons rfl .nil)))) ?_
  refine ends_then ?_
  refine cw_seq ?_
  -- region 1
  refine cw_region ?_
  refine lw_v rfl rfl (ok_ldS rfl (.n rfl) rfl Try.isAgg24 Try.sizeOf24 hS rfl) ?_
  refine lw_call (f := 24) (xs := [_, _, _]) rfl rfl rfl Try.call24 rfl (Calls.mono (f24 n A c _ (hS.rd A (by have := ha.2.1; omega)) hrgn) ?_)
  rintro e w' ⟨AS, cS, rfl, hg, hfr, ho⟩
  replace hS := hS.new hg _ ho hfr; clear hg ho hfr
  refine ⟨_, rfl, ?_⟩
  refine lw_v rfl rfl (ok_move rfl (.n rfl) rfl) ?_
  refine lw_call (f := 23) (xs := [_, _]) rfl rfl rfl Try.call23 rfl (Calls.mono (f23 (someN n) AS cS l A1 c1 _ (someN_ok n) (hS.rd AS (by have := (someN_ok n).len; omega)) (hS.rd A1 hl.2.1) hl.2.1 hrgl) ?_)
  rintro e w' ⟨q, A6, c6, rfl, hg, hnew, hat, hfr, hap, ho⟩
  replace hS := hS.left hg hat hnew ho hfr hap; clear hg
  refine ⟨_, rfl, ?_⟩
  refine lw_v rfl rfl (ok_move rfl (.n rfl) rfl) ?_
  refine lw_v rfl rfl (ok_extract rfl (.n rfl) rfl rfl) ?_
  refine lw_v rfl rfl (ok_extract rfl (.n rfl) rfl rfl) ?_
  refine lw_alloc rfl rfl rfl Try.zeroValue29 hS ?_
  clear hS; intro b9 w2 _ _ hS
  refine lw_stS rfl rfl rfl rfl rfl (by kernel_rfl) hS rfl (by rfl) (by rfl) ?_
  clear hS; intro w3 hS
  refine lw_v rfl rfl (ok_assign rfl (.n rfl) rfl) ?_
  refine lw_nil ?_
  refine Ends.keep [(2, .eq _), (3, .eq _), (9, .eq _), (10, .eq _)] (.cons rfl (.cons rfl (.cons rfl (.cons rfl .nil)))) ?_
  refine ends_then ?_
  refine cw_seq ?_
  -- region 2
  refine cw_region ?_
  refine lw_v rfl rfl (ok_ldS rfl (.n rfl) rfl Try.isAgg29 Try.sizeOf29 hS rfl) ?_
  refine lw_v rfl rfl (ok_move rfl (.n rfl) rfl) ?_
  refine lw_call (f := 25) (xs := [_, _]) rfl rfl rfl Try.call25 rfl (Calls.mono (f25' (makeF (someN n)) q h A2 c2 _ hwf (hS.rd A2 hh.2.1) hrgh) ?_)
  rintro e w' ⟨AH, cH, rfl, hg, hfr, ho⟩
  replace hS := hS.new hg _ ho hfr; clear hg ho hfr
  replace hS := hS.freeze .here (by omega)
  refine ⟨_, rfl, ?_⟩
  refine lw_v rfl rfl (ok_assign rfl (.n rfl) rfl) ?_
  refine lw_nil ?_
  refine Ends.keep [(2, .eq _), (3, .eq _), (9, .eq _), (10, .eq _)] (.cons rfl (.cons rfl (.cons rfl (.cons rfl .nil)))) ?_
  refine ends_then ?_
  refine cw_seq ?_
  -- region 3
  refine cw_region ?_
  refine lw_mkmap rfl rfl rfl hS ?_
  clear hS; intro m35 w4 _ _ hS
  refine lw_v rfl rfl (ok_assign rfl (.n rfl) rfl) ?_
  refine lw_nil ?_
  refine Ends.keep [(2, .eq _), (3, .eq _), (9, .eq _), (10, .eq _), (11, .eq _)] (.cons rfl (.cons rfl (.cons rfl (.cons rfl (.cons rfl .nil))))) ?_
  refine ends_then ?_
  refine cw_seq ?_
  -- region 4
  refine cw_region ?_
  refine lw_v rfl rfl (ok_ldS rfl (.n rfl) rfl Try.isAgg29 Try.sizeOf29 hS rfl) ?_
  refine lw_v rfl rfl (ok_move rfl (.n rfl) rfl) ?_
  refine lw_v rfl rfl (ok_move rfl (.n rfl) rfl) ?_
  refine lw_call (f := 31) (xs := [_, _, _]) rfl rfl rfl Try.call31 rfl (Calls.mono (f31 (makeF (someN n)) q (resL (someN n) l) (heightsF (makeF (someN n)) h) A6 c6 AH cH _ hwf (hS.cs q) (hS.rd A6 (by omega)) (hS.rd AH (by omega))) ?_)
  rintro e w' ⟨A39, c39, rfl, hg, hfr, ho⟩
  replace hS := hS.new hg _ ho hfr; clear hg ho hfr
  replace hS := hS.freeze .here (by omega)
  refine ⟨_, rfl, ?_⟩
  refine lw_v rfl rfl (ok_assign rfl (.n rfl) rfl) ?_
  refine lw_nil ?_
  refine Ends.keep [(2, .eq _), (3, .eq _), (9, .eq _), (10, .eq _), (11, .eq _), (12, .eq _)] (.cons rfl (.cons rfl (.cons rfl (.cons rfl (.cons rfl (.cons rfl .nil)))))) ?_
  refine ends_then ?_
  refine cw_seq ?_
  refine cw_seq ?_
  -- region 5
  refine cw_region ?_
  refine lw_v rfl rfl (ok_move rfl (.n rfl) rfl) ?_
  refine lw_v rfl rfl (ok_len rfl (.n rfl) Try.underlying26 rfl) ?_
  refine lw_v rfl rfl (ok_move rfl (.n rfl) rfl) ?_
  refine lw_nil ?_
  refine Ends.keep [(2, .eq _), (3, .eq _), (9, .eq _), (10, .eq _), (11, .eq _), (12, .eq _), (40, .eq _), (41, .eq _), (42, .eq _)] (.cons rfl (.cons rfl (.cons rfl (.cons rfl (.cons rfl (.cons rfl (.cons rfl (.cons rfl (.cons rfl .nil))))))))) ?_
  refine ends_then ?_
  refine cw_block ?_
  -- LOOP at region 6: changed live slots [42], kept [2, 3, 9, 10, 11, 12, 40, 41]
  refine cw_loop [(2, .eq _), (3, .eq _), (9, .eq _), (10, .eq _), (11, .eq _), (12, .eq _), (40, .eq _), (41, .eq _)] (fun j : Nat => [(42, .eq (.int .i64 j))]) (fun j w' => j ≤ (steepL (makeF (someN n)) (resL (someN n) l) (heightsF (makeF (someN n)) h)).length ∧ ∃ m f, m ≤ j ∧ (∀ x, f x = ((((steepL (makeF (someN n)) (resL (someN n) l) (heightsF (makeF (someN n)) h)).take j).count x : Nat) : Int)) ∧ St w.heap.size w w' [sl (eInt .i64) 1 A39 (steepL (makeF (someN n)) (resL (someN n) l) (heightsF (makeF (someN n)) h)).length c39 (steepL (makeF (someN n)) (resL (someN n) l) (heightsF (makeF (someN n)) h)), mp m35 m f, sl (eInt .i64) 1 AH (heightsF (makeF (someN n)) h).length cH (heightsF (makeF (someN n)) h), bx b9 (csV (makeF (someN n)) q).cells.toList 29, own (eInt .i64) 1 2 A6 (resL (someN n) l).length c6 (resL (someN n) l), sl (eInt .i64) 1 q.a0 (makeF (someN n)).First.length q.c0 (makeF (someN n)).First, sl (eInt .i64) 1 q.a1 (makeF (someN n)).Head.length q.c1 (makeF (someN n)).Head, sl (eInt .i64) 1 q.a2 (makeF (someN n)).Rev.length q.c2 (makeF (someN n)).Rev, sl (eInt .i64) 1 q.a3 (makeF (someN n)).Cap.length q.c3 (makeF (someN n)).Cap, sl (eInt .i64) 1 q.a4 (makeF (someN n)).Arc.length q.c4 (makeF (someN n)).Arc, sl eBool 1 q.a5 (makeF (someN n)).Back.length q.c5 (makeF (someN n)).Back, own eArc 3 82 AS (someN n).arcs.length cS (someN n).arcs, bx b4 (netV n A c).cells.toList 24, sl (eInt .i64) 1 A2 h.length c2 h, sl (eInt .i64) 1 A1 l.length c1 l, sl eArc 3 A n.arcs.length c n.arcs]) (fun j => (steepL (makeF (someN n)) (resL (someN n) l) (heightsF (makeF (someN n)) h)).length - j) 0 (.cons rfl (.cons rfl (.cons rfl (.cons rfl (.cons rfl (.cons rfl (.cons rfl (.cons rfl .nil)))))))) (.cons rfl (.cons rfl (.cons rfl (.cons rfl (.cons rfl (.cons rfl (.cons rfl (.cons rfl (.cons rfl .nil))))))))) ⟨Nat.zero_le _, 0, _, Nat.le_refl _, fun x => rfl, hS⟩ ?_
  clear hS
  rintro j wr ⟨hj, m, f, hmj, hf, hS⟩
  refine cw_seq ?_
  -- region 6
  refine cw_region ?_
  refine lw_v rfl rfl (ok_lss rfl (.n rfl) rfl rfl) ?_
  refine lw_nil ?_
  refine Ends.keep [(2, .eq _), (3, .eq _), (9, .eq _), (10, .eq _), (11, .eq _), (12, .eq _), (40, .eq _), (41, .eq _), (42, .eq _), (43, .eq _)] (.cons rfl (.cons rfl (.cons rfl (.cons rfl (.cons rfl (.cons rfl (.cons rfl (.cons rfl (.cons rfl (.cons rfl .nil)))))))))) ?_
  refine ends_then ?_
  refine cw_seq ?_
  refine cw_cond rfl (fun h43 => ?_) (fun h43 => ?_)
  ·
    have hlt' : j < (steepL (makeF (someN n)) (resL (someN n) l) (heightsF (makeF (someN n)) h)).length := by have := of_decide_eq_true h43; omega
    have hkr := downL_rng (getD_memI hlt')
    have hkr' : 0 ≤ (steepL (makeF (someN n)) (resL (someN n) l) (heightsF (makeF (someN n)) h)).getD (j : Int).toNat 0 ∧ (steepL (makeF (someN n)) (resL (someN n) l) (heightsF (makeF (someN n)) h)).getD (j : Int).toNat 0 < (makeF (someN n)).Head.length := hkr
    have hfv := hf ((steepL (makeF (someN n)) (resL (someN n) l) (heightsF (makeF (someN n)) h)).getD (j : Int).toNat 0)
    have hfc := List.count_le_length (a := (steepL (makeF (someN n)) (resL (someN n) l) (heightsF (makeF (someN n)) h)).getD (j : Int).toNat 0) (l := (steepL (makeF (someN n)) (resL (someN n) l) (heightsF (makeF (someN n)) h)).take j)
    rw [List.length_take] at hfc
    refine cw_skip ?_
    refine ends_then ?_
    refine cw_seq ?_
    refine cw_block ?_
    refine cw_seq ?_
    -- region 7
    refine cw_region ?_
    refine lw_v rfl rfl (ok_ix rfl (.n rfl) Try.underlying26 Try.sizeOf3 rfl rfl hS (fun _ => ⟨by omega, by omega⟩)) ?_
    refine lw_v rfl rfl (ok_ldx rfl (.n rfl) rfl Try.isAgg3 hS (fun _ => ⟨by omega, by omega⟩) (by rfl)) ?_
    refine lw_v rfl rfl (ok_assign rfl (.n rfl) rfl) ?_
    refine lw_nil ?_
    refine Ends.keep [(2, .eq _), (3, .eq _), (9, .eq _), (10, .eq _), (11, .eq _), (12, .eq _), (14, .eq _), (40, .eq _), (41, .eq _), (42, .eq _)] (.cons rfl (.cons rfl (.cons rfl (.cons rfl (.cons rfl (.cons rfl (.cons rfl (.cons rfl (.cons rfl (.cons rfl .nil)))))))))) ?_
    refine ends_then ?_
    -- region 8
    refine cw_region ?_
    refine lw_v rfl rfl (ok_move rfl (.n rfl) rfl) ?_
    refine lw_v rfl rfl (ok_move rfl (.n rfl) rfl) ?_
    refine lw_v rfl rfl (ok_lookup rfl (.n rfl) Try.underlying43 rfl rfl hS (fun _ => ⟨by omega, by omega⟩)) ?_
    refine lw_v rfl rfl (ok_addi rfl (.n rfl) rfl rfl (fun _ => ⟨by omega, by omega⟩)) ?_
    refine lw_mapup rfl rfl rfl Try.underlying43 rfl rfl rfl hS ⟨by omega, by omega⟩ ⟨by omega, by omega⟩ (by omega) ?_
    clear hS; intro w5 hS
    refine lw_nil ?_
    refine in_normal (?_)
    refine Ends.keep [(2, .eq _), (3, .eq _), (9, .eq _), (10, .eq _), (11, .eq _), (12, .eq _), (40, .eq _), (41, .eq _), (42, .eq _)] (.cons rfl (.cons rfl (.cons rfl (.cons rfl (.cons rfl (.cons rfl (.cons rfl (.cons rfl (.cons rfl .nil))))))))) ?_
    refine ends_then ?_
    -- region 9
    refine cw_region ?_
    refine lw_v rfl rfl (ok_addi rfl (.n rfl) rfl rfl (fun _ => ⟨by omega, by omega⟩)) ?_
    refine lw_v rfl rfl (ok_move rfl (.n rfl) rfl) ?_
    refine lw_nil ?_
    -- BACK
    refine ends_back (j + 1) (.cons rfl (.cons rfl (.cons rfl (.cons rfl (.cons rfl (.cons rfl (.cons rfl (.cons rfl (.cons rfl .nil))))))))) ⟨by omega, m + 1, _, by omega, cnt_step hf hlt', hS⟩ (by omega)
  ·
    have hjn : j = (steepL (makeF (someN n)) (resL (someN n) l) (heightsF (makeF (someN n)) h)).length := by have := of_decide_eq_false h43; omega
    refine cw_exit ?_
    refine then_exit (then_exit (in_exit (?_)))
    refine Ends.keep [(2, .eq _), (3, .eq _), (9, .eq _), (10, .eq _), (11, .eq _), (12, .eq _)] (.cons rfl (.cons rfl (.cons rfl (.cons rfl (.cons rfl (.cons rfl .nil)))))) ?_
    refine ends_then ?_
    refine cw_seq ?_
    refine cw_seq ?_
    -- region 10
    refine cw_region ?_
    refine lw_v rfl rfl (ok_ldS rfl (.n rfl) rfl Try.isAgg29 Try.sizeOf29 hS rfl) ?_
    refine lw_v rfl rfl (ok_move rfl (.n rfl) rfl) ?_
    refine lw_v rfl rfl (ok_move rfl (.n rfl) rfl) ?_
    refine lw_call (f := 33) (xs := [_, _, _]) rfl rfl rfl Try.call33 rfl (Calls.mono (f33 (makeF (someN n)) q (resL (someN n) l) (heightsF (makeF (someN n)) h) A6 c6 AH cH _ hwf (hS.cs q) (hS.rd A6 (by omega)) (hS.rd AH (by omega))) ?_)
    rintro e w' ⟨A54, c54, rfl, hg, hfr, ho⟩
    replace hS := hS.new hg _ ho hfr; clear hg ho hfr
    replace hS := hS.freeze .here (by omega)
    refine ⟨_, rfl, ?_⟩
    refine lw_v rfl rfl (ok_len rfl (.n rfl) Try.underlying26 rfl) ?_
    refine lw_v rfl rfl (ok_move rfl (.n rfl) rfl) ?_
    refine lw_nil ?_
    refine Ends.keep [(2, .eq _), (3, .eq _), (9, .eq _), (10, .eq _), (11, .eq _), (12, .eq _), (54, .eq _), (55, .eq _), (56, .eq _)] (.cons rfl (.cons rfl (.cons rfl (.cons rfl (.cons rfl (.cons rfl (.cons rfl (.cons rfl (.cons rfl .nil))))))))) ?_
    refine ends_then ?_
    refine cw_block ?_
    -- LOOP at region 11: changed live slots [56], kept [2, 3, 9, 10, 11, 12, 54, 55]
    refine cw_loop [(2, .eq _), (3, .eq _), (9, .eq _), (10, .eq _), (11, .eq _), (12, .eq _), (54, .eq _), (55, .eq _)] (fun j : Nat => [(56, .eq (.int .i64 j))]) (fun j w' => j ≤ (flatL (makeF (someN n)) (resL (someN n) l) (heightsF (makeF (someN n)) h)).length ∧ ∃ m f, m ≤ 1280 + j ∧ (∀ x, f x = (((steepL (makeF (someN n)) (resL (someN n) l) (heightsF (makeF (someN n)) h)).count x : Nat) : Int) + 2 * ((((flatL (makeF (someN n)) (resL (someN n) l) (heightsF (makeF (someN n)) h)).take j).count x : Nat) : Int)) ∧ St w.heap.size w w' [sl (eInt .i64) 1 A54 (flatL (makeF (someN n)) (resL (someN n) l) (heightsF (makeF (someN n)) h)).length c54 (flatL (makeF (someN n)) (resL (someN n) l) (heightsF (makeF (someN n)) h)), sl (eInt .i64) 1 A39 (steepL (makeF (someN n)) (resL (someN n) l) (heightsF (makeF (someN n)) h)).length c39 (steepL (makeF (someN n)) (resL (someN n) l) (heightsF (makeF (someN n)) h)), mp m35 m f, sl (eInt .i64) 1 AH (heightsF (makeF (someN n)) h).length cH (heightsF (makeF (someN n)) h), bx b9 (csV (makeF (someN n)) q).cells.toList 29, own (eInt .i64) 1 2 A6 (resL (someN n) l).length c6 (resL (someN n) l), sl (eInt .i64) 1 q.a0 (makeF (someN n)).First.length q.c0 (makeF (someN n)).First, sl (eInt .i64) 1 q.a1 (makeF (someN n)).Head.length q.c1 (makeF (someN n)).Head, sl (eInt .i64) 1 q.a2 (makeF (someN n)).Rev.length q.c2 (makeF (someN n)).Rev, sl (eInt .i64) 1 q.a3 (makeF (someN n)).Cap.length q.c3 (makeF (someN n)).Cap, sl (eInt .i64) 1 q.a4 (makeF (someN n)).Arc.length q.c4 (makeF (someN n)).Arc, sl eBool 1 q.a5 (makeF (someN n)).Back.length q.c5 (makeF (someN n)).Back, own eArc 3 82 AS (someN n).arcs.length cS (someN n).arcs, bx b4 (netV n A c).cells.toList 24, sl (eInt .i64) 1 A2 h.length c2 h, sl (eInt .i64) 1 A1 l.length c1 l, sl eArc 3 A n.arcs.length c n.arcs]) (fun j => (flatL (makeF (someN n)) (resL (someN n) l) (heightsF (makeF (someN n)) h)).length - j) 0 (.cons rfl (.cons rfl (.cons rfl (.cons rfl (.cons rfl (.cons rfl (.cons rfl (.cons rfl .nil)))))))) (.cons rfl (.cons rfl (.cons rfl (.cons rfl (.cons rfl (.cons rfl (.cons rfl (.cons rfl (.cons rfl .nil))))))))) ⟨Nat.zero_le _, m, f, by omega, fun x => by rw [hf x, hjn, List.take_length]; simp, hS⟩ ?_
    clear hS
    rintro j wr ⟨hj, m2, f2, hmj2, hf2, hS⟩
    refine cw_seq ?_
    -- region 11
    refine cw_region ?_
    refine lw_v rfl rfl (ok_lss rfl (.n rfl) rfl rfl) ?_
    refine lw_nil ?_
    refine Ends.keep [(2, .eq _), (3, .eq _), (9, .eq _), (10, .eq _), (11, .eq _), (12, .eq _), (54, .eq _), (55, .eq _), (56, .eq _), (57, .eq _)] (.cons rfl (.cons rfl (.cons rfl (.cons rfl (.cons rfl (.cons rfl (.cons rfl (.cons rfl (.cons rfl (.cons rfl .nil)))))))))) ?_
    refine ends_then ?_
    refine cw_seq ?_
    refine cw_cond rfl (fun h57 => ?_) (fun h57 => ?_)
    ·
      have hlt' : j < (flatL (makeF (someN n)) (resL (someN n) l) (heightsF (makeF (someN n)) h)).length := by have := of_decide_eq_true h57; omega
      have hkr := downL_rng (getD_memI hlt')
      have hkr' : 0 ≤ (flatL (makeF (someN n)) (resL (someN n) l) (heightsF (makeF (someN n)) h)).getD (j : Int).toNat 0 ∧ (flatL (makeF (someN n)) (resL (someN n) l) (heightsF (makeF (someN n)) h)).getD (j : Int).toNat 0 < (makeF (someN n)).Head.length := hkr
      have hfv := hf2 ((flatL (makeF (someN n)) (resL (someN n) l) (heightsF (makeF (someN n)) h)).getD (j : Int).toNat 0)
      have hfc := List.count_le_length (a := (flatL (makeF (someN n)) (resL (someN n) l) (heightsF (makeF (someN n)) h)).getD (j : Int).toNat 0) (l := (steepL (makeF (someN n)) (resL (someN n) l) (heightsF (makeF (someN n)) h)))
      have hfd := List.count_le_length (a := (flatL (makeF (someN n)) (resL (someN n) l) (heightsF (makeF (someN n)) h)).getD (j : Int).toNat 0) (l := (flatL (makeF (someN n)) (resL (someN n) l) (heightsF (makeF (someN n)) h)).take j)
      rw [List.length_take] at hfd
      refine cw_skip ?_
      refine ends_then ?_
      refine cw_seq ?_
      refine cw_block ?_
      refine cw_seq ?_
      -- region 12
      refine cw_region ?_
      refine lw_v rfl rfl (ok_ix rfl (.n rfl) Try.underlying26 Try.sizeOf3 rfl rfl hS (fun _ => ⟨by omega, by omega⟩)) ?_
      refine lw_v rfl rfl (ok_ldx rfl (.n rfl) rfl Try.isAgg3 hS (fun _ => ⟨by omega, by omega⟩) (by rfl)) ?_
      refine lw_v rfl rfl (ok_assign rfl (.n rfl) rfl) ?_
      refine lw_nil ?_
      refine Ends.keep [(2, .eq _), (3, .eq _), (9, .eq _), (10, .eq _), (11, .eq _), (12, .eq _), (16, .eq _), (54, .eq _), (55, .eq _), (56, .eq _)] (.cons rfl (.cons rfl (.cons rfl (.cons rfl (.cons rfl (.cons rfl (.cons rfl (.cons rfl (.cons rfl (.cons rfl .nil)))))))))) ?_
      refine ends_then ?_
      -- region 13
      refine cw_region ?_
      refine lw_v rfl rfl (ok_move rfl (.n rfl) rfl) ?_
      refine lw_v rfl rfl (ok_move rfl (.n rfl) rfl) ?_
      refine lw_v rfl rfl (ok_lookup rfl (.n rfl) Try.underlying43 rfl rfl hS (fun _ => ⟨by omega, by omega⟩)) ?_
      refine lw_v rfl rfl (ok_addi rfl (.n rfl) rfl rfl (fun _ => ⟨by omega, by omega⟩)) ?_
      refine lw_mapup rfl rfl rfl Try.underlying43 rfl rfl rfl hS ⟨by omega, by omega⟩ ⟨by omega, by omega⟩ (by omega) ?_
      clear hS; intro w6 hS
      refine lw_nil ?_
      refine in_normal (?_)
      refine Ends.keep [(2, .eq _), (3, .eq _), (9, .eq _), (10, .eq _), (11, .eq _), (12, .eq _), (54, .eq _), (55, .eq _), (56, .eq _)] (.cons rfl (.cons rfl (.cons rfl (.cons rfl (.cons rfl (.cons rfl (.cons rfl (.cons rfl (.cons rfl .nil))))))))) ?_
      refine ends_then ?_
      -- region 14
      refine cw_region ?_
      refine lw_v rfl rfl (ok_addi rfl (.n rfl) rfl rfl (fun _ => ⟨by omega, by omega⟩)) ?_
      refine lw_v rfl rfl (ok_move rfl (.n rfl) rfl) ?_
      refine lw_nil ?_
      -- BACK
      refine ends_back (j + 1) (.cons rfl (.cons rfl (.cons rfl (.cons rfl (.cons rfl (.cons rfl (.cons rfl (.cons rfl (.cons rfl .nil))))))))) ⟨by omega, m2 + 1, _, by omega, cnt_step2 hf2 hlt', hS⟩ (by omega)
    ·
      have hjn2 : j = (flatL (makeF (someN n)) (resL (someN n) l) (heightsF (makeF (someN n)) h)).length := by have := of_decide_eq_false h57; omega
      refine cw_exit ?_
      refine then_exit (then_exit (in_exit (?_)))
      refine Ends.keep [(2, .eq _), (3, .eq _), (9, .eq _), (10, .eq _), (11, .eq _), (12, .eq _)] (.cons rfl (.cons rfl (.cons rfl (.cons rfl (.cons rfl (.cons rfl .nil)))))) ?_
      refine ends_then ?_
      refine cw_seq ?_
      refine cw_seq ?_
      -- region 15
      refine cw_region ?_
      refine lw_v rfl rfl (ok_move rfl (.n rfl) rfl) ?_
      refine lw_v rfl rfl (ok_len rfl (.n rfl) Try.underlying25 rfl) ?_
      refine lw_v rfl rfl (ok_move rfl (.n rfl) rfl) ?_
      refine lw_nil ?_
      refine Ends.keep [(2, .eq _), (3, .eq _), (9, .eq _), (10, .eq _), (11, .eq _), (12, .eq _), (66, .eq _), (67, .eq _)] (.cons rfl (.cons rfl (.cons rfl (.cons rfl (.cons rfl (.cons rfl (.cons rfl (.cons rfl .nil)))))))) ?_
      refine ends_then ?_
      refine cw_block ?_
      -- LOOP at region 16: changed live slots [67], kept [2, 3, 9, 10, 11, 12, 66]
      refine cw_loop [(2, .eq _), (3, .eq _), (9, .eq _), (10, .eq _), (11, .eq _), (12, .eq _), (66, .eq _)] (fun k : Nat => [(67, .eq (.int .i64 k))]) (fun k w' => k ≤ (resL (someN n) l).length ∧ St w.heap.size w w' [sl (eInt .i64) 1 A54 (flatL (makeF (someN n)) (resL (someN n) l) (heightsF (makeF (someN n)) h)).length c54 (flatL (makeF (someN n)) (resL (someN n) l) (heightsF (makeF (someN n)) h)), sl (eInt .i64) 1 A39 (steepL (makeF (someN n)) (resL (someN n) l) (heightsF (makeF (someN n)) h)).length c39 (steepL (makeF (someN n)) (resL (someN n) l) (heightsF (makeF (someN n)) h)), mp m35 m2 f2, sl (eInt .i64) 1 AH (heightsF (makeF (someN n)) h).length cH (heightsF (makeF (someN n)) h), bx b9 (csV (makeF (someN n)) q).cells.toList 29, own (eInt .i64) 1 2 A6 (resL (someN n) l).length c6 (resL (someN n) l), sl (eInt .i64) 1 q.a0 (makeF (someN n)).First.length q.c0 (makeF (someN n)).First, sl (eInt .i64) 1 q.a1 (makeF (someN n)).Head.length q.c1 (makeF (someN n)).Head, sl (eInt .i64) 1 q.a2 (makeF (someN n)).Rev.length q.c2 (makeF (someN n)).Rev, sl (eInt .i64) 1 q.a3 (makeF (someN n)).Cap.length q.c3 (makeF (someN n)).Cap, sl (eInt .i64) 1 q.a4 (makeF (someN n)).Arc.length q.c4 (makeF (someN n)).Arc, sl eBool 1 q.a5 (makeF (someN n)).Back.length q.c5 (makeF (someN n)).Back, own eArc 3 82 AS (someN n).arcs.length cS (someN n).arcs, bx b4 (netV n A c).cells.toList 24, sl (eInt .i64) 1 A2 h.length c2 h, sl (eInt .i64) 1 A1 l.length c1 l, sl eArc 3 A n.arcs.length c n.arcs]) (fun k => (resL (someN n) l).length - k) 0 (.cons rfl (.cons rfl (.cons rfl (.cons rfl (.cons rfl (.cons rfl (.cons rfl .nil))))))) (.cons rfl (.cons rfl (.cons rfl (.cons rfl (.cons rfl (.cons rfl (.cons rfl (.cons rfl .nil)))))))) ⟨Nat.zero_le _, hS⟩ ?_
      clear hS
      rintro k wr ⟨hk, hS⟩
      refine cw_seq ?_
      -- region 16
      refine cw_region ?_
      refine lw_v rfl rfl (ok_lss rfl (.n rfl) rfl rfl) ?_
      refine lw_nil ?_
      refine Ends.keep [(2, .eq _), (3, .eq _), (9, .eq _), (10, .eq _), (11, .eq _), (12, .eq _), (66, .eq _), (67, .eq _), (68, .eq _)] (.cons rfl (.cons rfl (.cons rfl (.cons rfl (.cons rfl (.cons rfl (.cons rfl (.cons rfl (.cons rfl .nil))))))))) ?_
      refine ends_then ?_
      refine cw_seq ?_
      refine cw_cond rfl (fun h68 => ?_) (fun h68 => ?_)
      ·
        have hlt' : k < (resL (someN n) l).length := by have := of_decide_eq_true h68; omega
        have hka : k < (makeF (someN n)).Head.length := by omega
        obtain ⟨ht1, ht2, ht3⟩ := tail_at hwf hka
        obtain ⟨hd1, hd2⟩ := hwf.hd k hka
        have hx := hrh.rng (tailOf (makeF (someN n)) k) ht1
        have hy := hrh.rng ((makeF (someN n)).Head.getD k 0).toNat (by omega)
        have eH : (makeF (someN n)).Head.getD (k : Int).toNat 0 = (makeF (someN n)).Head.getD k 0 := rfl
        rw [← eH] at hd1 hd2 hy
        have eT : (heightsF (makeF (someN n)) h).getD (tailOf (makeF (someN n)) k : Int).toNat 0 = (heightsF (makeF (someN n)) h).getD (tailOf (makeF (someN n)) k) 0 := rfl
        rw [← eT] at hx
        have hcs := kind_count hm hka (fun x => decide (1 < x))
        have hcf := kind_count hm hka (fun x => decide (x = 1))
        have hf2' := hf2 k
        rw [hjn2, List.take_length] at hf2'
        refine cw_skip ?_
        refine ends_then ?_
        refine cw_seq ?_
        refine cw_block ?_
        refine cw_seq ?_
        -- region 17
        refine cw_region ?_
        refine lw_v rfl rfl (ok_move rfl (.n rfl) rfl) ?_
        refine lw_v rfl rfl (ok_assign rfl (.n rfl) rfl) ?_
        refine lw_nil ?_
        refine Ends.keep [(2, .eq _), (3, .eq _), (9, .eq _), (10, .eq _), (11, .eq _), (12, .eq _), (17, .eq _), (66, .eq _), (67, .eq _)] (.cons rfl (.cons rfl (.cons rfl (.cons rfl (.cons rfl (.cons rfl (.cons rfl (.cons rfl (.cons rfl .nil))))))))) ?_
        refine ends_then ?_
        refine cw_seq ?_
        -- region 18
        refine cw_region ?_
        refine lw_v rfl rfl (ok_ldS rfl (.n rfl) rfl Try.isAgg29 Try.sizeOf29 hS rfl) ?_
        refine lw_v rfl rfl (ok_move rfl (.n rfl) rfl) ?_
        refine lw_call (f := 40) (xs := [_, _]) rfl rfl rfl Try.call40 rfl (Calls.mono (f40 (makeF (someN n)) q k _ hwf (hS.cs q) (by omega)) ?_)
        rintro e w' ⟨rfl, hg⟩
        replace hS := hS.grow hg; clear hg
        refine ⟨_, rfl, ?_⟩
        refine lw_v rfl rfl (ok_move rfl (.n rfl) rfl) ?_
        refine lw_v rfl rfl (ok_extract rfl (.n rfl) rfl rfl) ?_
        refine lw_v rfl rfl (ok_extract rfl (.n rfl) rfl rfl) ?_
        refine lw_v rfl rfl (ok_assign rfl (.n rfl) rfl) ?_
        refine lw_v rfl rfl (ok_assign rfl (.n rfl) rfl) ?_
        refine lw_nil ?_
        refine Ends.keep [(2, .eq _), (3, .eq _), (9, .eq _), (10, .eq _), (11, .eq _), (12, .eq _), (17, .eq _), (18, .eq _), (19, .eq _), (66, .eq _), (67, .eq _)] (.cons rfl (.cons rfl (.cons rfl (.cons rfl (.cons rfl (.cons rfl (.cons rfl (.cons rfl (.cons rfl (.cons rfl (.cons rfl .nil))))))))))) ?_
        refine ends_then ?_
        refine cw_seq ?_
        refine cw_seq ?_
        -- region 19
        refine cw_region ?_
        refine lw_v rfl rfl (ok_move rfl (.n rfl) rfl) ?_
        refine lw_v rfl rfl (ok_not rfl (.n rfl) rfl) ?_
        refine lw_nil ?_
        refine Ends.keep [(2, .eq _), (3, .eq _), (9, .eq _), (10, .eq _), (11, .eq _), (12, .eq _), (17, .eq _), (18, .eq _), (66, .eq _), (67, .eq _), (77, .eq _)] (.cons rfl (.cons rfl (.cons rfl (.cons rfl (.cons rfl (.cons rfl (.cons rfl (.cons rfl (.cons rfl (.cons rfl (.cons rfl .nil))))))))))) ?_
        refine ends_then ?_
        refine cw_cond rfl (fun h77 => ?_) (fun h77 => ?_)
        ·
          cases h77
        ·
          refine cw_skip ?_
          refine ends_then ?_
          refine cw_seq ?_
          -- region 21
          refine cw_region ?_
          refine lw_v rfl rfl (ok_assign rfl (.n rfl) rfl) ?_
          refine lw_nil ?_
          refine Ends.keep [(2, .eq _), (3, .eq _), (9, .eq _), (10, .eq _), (11, .eq _), (12, .eq _), (17, .eq _), (18, .eq _), (20, .eq _), (66, .eq _), (67, .eq _)] (.cons rfl (.cons rfl (.cons rfl (.cons rfl (.cons rfl (.cons rfl (.cons rfl (.cons rfl (.cons rfl (.cons rfl (.cons rfl .nil))))))))))) ?_
          refine ends_then ?_
          refine cw_seq ?_
          refine cw_seq ?_
          -- region 22
          refine cw_draw (by kernel_rfl) (List.take 12 _) (List.drop 12 _) (List.take_append_drop 12 _).symm (by kernel_rfl) ?_
          refine free_v (ok_move rfl (.n rfl) rfl) ?_
          refine free_v (ok_move rfl (.n rfl) rfl) ?_
          refine free_v (ok_ix rfl (.n rfl) Try.underlying26 Try.sizeOf3 rfl rfl hS (fun _ => ⟨by omega, by omega⟩)) ?_
          refine free_v (ok_ldx rfl (.n rfl) rfl Try.isAgg3 hS (fun _ => ⟨by omega, by omega⟩) (by rfl)) ?_
          refine free_v (ok_move rfl (.n rfl) rfl) ?_
          refine free_v (ok_fb rfl (.n rfl) Try.underlying29 rfl Try.sizeOf26 (by decide) rfl) ?_
          refine free_v (ok_ldb rfl (.n rfl) rfl Try.isAgg26 hS (by rfl)) ?_
          refine free_v (ok_move rfl (.n rfl) rfl) ?_
          refine free_v (ok_ix rfl (.n rfl) Try.underlying26 Try.sizeOf3 rfl rfl hS (fun _ => ⟨by omega, by omega⟩)) ?_
          refine free_v (ok_ldx rfl (.n rfl) rfl Try.isAgg3 hS (fun _ => ⟨by omega, by omega⟩) (by rfl)) ?_
          refine free_v (ok_ix rfl (.n rfl) Try.underlying26 Try.sizeOf3 rfl rfl hS (fun _ => ⟨by omega, by omega⟩)) ?_
          refine free_v (ok_ldx rfl (.n rfl) rfl Try.isAgg3 hS (fun _ => ⟨by omega, by omega⟩) (by rfl)) ?_
          refine free_nil ?_
          intro w7 hg_; replace hS := hS.grow hg_; clear hg_
          refine lw_v rfl rfl (ok_subi rfl (.n rfl) rfl rfl (fun _ => ⟨by omega, by omega⟩)) ?_
          refine lw_v rfl rfl (ok_assign rfl (.n rfl) rfl) ?_
          refine lw_nil ?_
          refine Ends.keep [(2, .eq _), (3, .eq _), (9, .eq _), (10, .eq _), (11, .eq _), (12, .eq _), (17, .eq _), (18, .eq _), (20, .eq _), (21, .eq _), (66, .eq _), (67, .eq _)] (.cons rfl (.cons rfl (.cons rfl (.cons rfl (.cons rfl (.cons rfl (.cons rfl (.cons rfl (.cons rfl (.cons rfl (.cons rfl (.cons rfl .nil)))))))))))) ?_
          refine ends_then ?_
          refine cw_seq ?_
          -- region 23
          refine cw_region ?_
          refine lw_v rfl rfl (ok_move rfl (.n rfl) rfl) ?_
          refine lw_v rfl rfl (ok_move rfl (.n rfl) rfl) ?_
          refine lw_v rfl rfl (ok_ix rfl (.n rfl) Try.underlying25 Try.sizeOf2 rfl rfl hS (fun _ => ⟨by omega, by omega⟩)) ?_
          refine lw_v rfl rfl (ok_ldx rfl (.n rfl) rfl Try.isAgg2 hS (fun _ => ⟨by omega, by omega⟩) (by rfl)) ?_
          refine lw_v rfl rfl (ok_gtr rfl (.n rfl) rfl rfl) ?_
          refine lw_v rfl rfl (ok_move rfl (.n rfl) rfl) ?_
          refine lw_v rfl rfl (ok_move rfl (.s rfl rfl) rfl) ?_
          refine lw_v rfl rfl (ok_fb rfl (.s rfl rfl) Try.underlying29 rfl Try.sizeOf3 (by decide) rfl) ?_
          refine lw_v rfl rfl (ok_ldb rfl (.s rfl rfl) rfl Try.isAgg3 hS (by rfl)) ?_
          refine lw_v rfl rfl (ok_neq rfl (.s rfl rfl) rfl rfl) ?_
          refine lw_v rfl rfl (ok_and rfl rfl rfl rfl) ?_
          refine lw_v rfl rfl (ok_move rfl (.n rfl) rfl) ?_
          refine lw_v rfl rfl (ok_move rfl (.s rfl rfl) rfl) ?_
          refine lw_v rfl rfl (ok_gtr rfl (.s rfl rfl) rfl rfl) ?_
          refine lw_v rfl rfl (ok_and rfl rfl rfl rfl) ?_
          refine lw_nil ?_
          refine Ends.keep [(2, .eq _), (3, .eq _), (9, .eq _), (10, .eq _), (11, .eq _), (12, .eq _), (17, .eq _), (20, .eq _), (21, .eq _), (66, .eq _), (67, .eq _), (105, .eq _)] (.cons rfl (.cons rfl (.cons rfl (.cons rfl (.cons rfl (.cons rfl (.cons rfl (.cons rfl (.cons rfl (.cons rfl (.cons rfl (.cons rfl .nil)))))))))))) ?_
          refine ends_then ?_
          refine cw_cond rfl (fun h105 => ?_) (fun h105 => ?_)
          ·
            refine cw_seq ?_
            -- region 24
            refine cw_region ?_
            refine lw_v rfl rfl (ok_assign rfl (.n rfl) rfl) ?_
            refine lw_nil ?_
            refine Ends.keep [(2, .eq _), (3, .eq _), (9, .eq _), (10, .eq _), (11, .eq _), (12, .eq _), (17, .eq _), (20, .eq _), (21, .eq _), (66, .eq _), (67, .eq _)] (.cons rfl (.cons rfl (.cons rfl (.cons rfl (.cons rfl (.cons rfl (.cons rfl (.cons rfl (.cons rfl (.cons rfl (.cons rfl .nil))))))))))) ?_
            refine ends_then ?_
            refine cw_seq ?_
            -- region 25
            refine cw_region ?_
            refine lw_v rfl rfl (ok_move rfl (.n rfl) rfl) ?_
            refine lw_v rfl rfl (ok_gtr rfl (.n rfl) rfl rfl) ?_
            refine lw_nil ?_
            refine Ends.keep [(2, .eq _), (3, .eq _), (9, .eq _), (10, .eq _), (11, .eq _), (12, .eq _), (17, .eq _), (20, .eq _), (66, .eq _), (67, .eq _), (107, .eq _)] (.cons rfl (.cons rfl (.cons rfl (.cons rfl (.cons rfl (.cons rfl (.cons rfl (.cons rfl (.cons rfl (.cons rfl (.cons rfl .nil))))))))))) ?_
            refine ends_then ?_
            refine cw_cond rfl (fun h107 => ?_) (fun h107 => ?_)
            ·
              -- region 26
              refine cw_region ?_
              refine lw_v rfl rfl (ok_assign rfl (.n rfl) rfl) ?_
              refine lw_nil ?_
              refine Ends.keep [(2, .eq _), (3, .eq _), (9, .eq _), (10, .eq _), (11, .eq _), (12, .eq _), (17, .eq _), (20, .eq _), (66, .eq _), (67, .eq _)] (.cons rfl (.cons rfl (.cons rfl (.cons rfl (.cons rfl (.cons rfl (.cons rfl (.cons rfl (.cons rfl (.cons rfl .nil)))))))))) ?_
              refine ends_then ?_
              refine cw_seq ?_
              -- region 27
              refine cw_region ?_
              refine lw_v rfl rfl (ok_move rfl (.n rfl) rfl) ?_
              refine lw_v rfl rfl (ok_move rfl (.n rfl) rfl) ?_
              refine lw_v rfl rfl (ok_lookup rfl (.n rfl) Try.underlying43 rfl rfl hS (fun _ => ⟨by omega, by omega⟩)) ?_
              refine lw_v rfl rfl (ok_move rfl (.n rfl) rfl) ?_
              refine lw_v rfl rfl (ok_neq rfl (.n rfl) rfl rfl) ?_
              refine lw_nil ?_
              refine Ends.keep [(2, .eq _), (3, .eq _), (9, .eq _), (10, .eq _), (11, .eq _), (12, .eq _), (66, .eq _), (67, .eq _), (112, .eq _)] (.cons rfl (.cons rfl (.cons rfl (.cons rfl (.cons rfl (.cons rfl (.cons rfl (.cons rfl (.cons rfl .nil))))))))) ?_
              refine ends_then ?_
              refine cw_cond rfl (fun h112 => ?_) (fun h112 => ?_)
              ·
                exact (want_ok hf2' hcs hcf (kind_s h105 h107) h112).elim
              ·
                refine cw_skip ?_
                refine in_normal (?_)
                refine ends_then ?_
                -- region 29
                refine cw_region ?_
                refine lw_v rfl rfl (ok_addi rfl (.n rfl) rfl rfl (fun _ => ⟨by omega, by omega⟩)) ?_
                refine lw_v rfl rfl (ok_move rfl (.n rfl) rfl) ?_
                refine lw_nil ?_
                -- BACK
                refine ends_back (k + 1) (.cons rfl (.cons rfl (.cons rfl (.cons rfl (.cons rfl (.cons rfl (.cons rfl (.cons rfl .nil)))))))) ⟨by omega, hS⟩ (by omega)
            ·
              refine cw_skip ?_
              refine ends_then ?_
              refine cw_seq ?_
              -- region 27
              refine cw_region ?_
              refine lw_v rfl rfl (ok_move rfl (.n rfl) rfl) ?_
              refine lw_v rfl rfl (ok_move rfl (.n rfl) rfl) ?_
              refine lw_v rfl rfl (ok_lookup rfl (.n rfl) Try.underlying43 rfl rfl hS (fun _ => ⟨by omega, by omega⟩)) ?_
              refine lw_v rfl rfl (ok_move rfl (.n rfl) rfl) ?_
              refine lw_v rfl rfl (ok_neq rfl (.n rfl) rfl rfl) ?_
              refine lw_nil ?_
              refine Ends.keep [(2, .eq _), (3, .eq _), (9, .eq _), (10, .eq _), (11, .eq _), (12, .eq _), (66, .eq _), (67, .eq _), (112, .eq _)] (.cons rfl (.cons rfl (.cons rfl (.cons rfl (.cons rfl (.cons rfl (.cons rfl (.cons rfl (.cons rfl .nil))))))))) ?_
              refine ends_then ?_
              refine cw_cond rfl (fun h112 => ?_) (fun h112 => ?_)
              ·
                exact (want_ok hf2' hcs hcf (kind_f h105 h107) h112).elim
              ·
                refine cw_skip ?_
                refine in_normal (?_)
                refine ends_then ?_
                -- region 29
                refine cw_region ?_
                refine lw_v rfl rfl (ok_addi rfl (.n rfl) rfl rfl (fun _ => ⟨by omega, by omega⟩)) ?_
                refine lw_v rfl rfl (ok_move rfl (.n rfl) rfl) ?_
                refine lw_nil ?_
                -- BACK
                refine ends_back (k + 1) (.cons rfl (.cons rfl (.cons rfl (.cons rfl (.cons rfl (.cons rfl (.cons rfl (.cons rfl .nil)))))))) ⟨by omega, hS⟩ (by omega)
          ·
            refine cw_skip ?_
            refine ends_then ?_
            refine cw_seq ?_
            -- region 27
            refine cw_region ?_
            refine lw_v rfl rfl (ok_move rfl (.n rfl) rfl) ?_
            refine lw_v rfl rfl (ok_move rfl (.n rfl) rfl) ?_
            refine lw_v rfl rfl (ok_lookup rfl (.n rfl) Try.underlying43 rfl rfl hS (fun _ => ⟨by omega, by omega⟩)) ?_
            refine lw_v rfl rfl (ok_move rfl (.n rfl) rfl) ?_
            refine lw_v rfl rfl (ok_neq rfl (.n rfl) rfl rfl) ?_
            refine lw_nil ?_
            refine Ends.keep [(2, .eq _), (3, .eq _), (9, .eq _), (10, .eq _), (11, .eq _), (12, .eq _), (66, .eq _), (67, .eq _), (112, .eq _)] (.cons rfl (.cons rfl (.cons rfl (.cons rfl (.cons rfl (.cons rfl (.cons rfl (.cons rfl (.cons rfl .nil))))))))) ?_
            refine ends_then ?_
            refine cw_cond rfl (fun h112 => ?_) (fun h112 => ?_)
            ·
              exact (want_ok hf2' hcs hcf (kind_n h105) h112).elim
            ·
              refine cw_skip ?_
              refine in_normal (?_)
              refine ends_then ?_
              -- region 29
              refine cw_region ?_
              refine lw_v rfl rfl (ok_addi rfl (.n rfl) rfl rfl (fun _ => ⟨by omega, by omega⟩)) ?_
              refine lw_v rfl rfl (ok_move rfl (.n rfl) rfl) ?_
              refine lw_nil ?_
              -- BACK
              refine ends_back (k + 1) (.cons rfl (.cons rfl (.cons rfl (.cons rfl (.cons rfl (.cons rfl (.cons rfl (.cons rfl .nil)))))))) ⟨by omega, hS⟩ (by omega)
      ·
        refine cw_exit ?_
        refine then_exit (then_exit (in_exit (?_)))
        refine Ends.keep [(2, .eq _), (3, .eq _), (9, .eq _), (10, .eq _), (12, .eq _)] (.cons rfl (.cons rfl (.cons rfl (.cons rfl (.cons rfl .nil))))) ?_
        refine ends_then ?_
        refine cw_seq ?_
        refine cw_seq ?_
        -- region 30
        refine cw_region ?_
        refine lw_v rfl rfl (ok_move rfl (.n rfl) rfl) ?_
        refine lw_v rfl rfl (ok_len rfl (.n rfl) Try.underlying25 rfl) ?_
        refine lw_v rfl rfl (ok_gtr rfl (.n rfl) rfl rfl) ?_
        refine lw_nil ?_
        refine Ends.keep [(2, .eq _), (3, .eq _), (9, .eq _), (10, .eq _), (12, .eq _), (116, .eq _)] (.cons rfl (.cons rfl (.cons rfl (.cons rfl (.cons rfl (.cons rfl .nil)))))) ?_
        refine ends_then ?_
        refine cw_cond rfl (fun h116 => ?_) (fun h116 => ?_)
        ·
          have h116' := of_decide_eq_true h116
          have hk0 := Int.tmod_eq_emod_of_nonneg (a := at0) (b := ((resL (someN n) l).length : Int)) hat0.1
          have hk1 := Int.emod_nonneg at0 (by omega : ((resL (someN n) l).length : Int) ≠ 0)
          have hk2 := Int.emod_lt_of_pos at0 (by omega : (0 : Int) < ((resL (someN n) l).length : Int))
          rw [← hk0] at hk1 hk2
          have hst2 := steepL_len hwf ((resL (someN n) l).set (at0.tmod ((resL (someN n) l).length : Int)).toNat 0) (heightsF (makeF (someN n)) h)
          have hfl2 := flatL_len hwf ((resL (someN n) l).set (at0.tmod ((resL (someN n) l).length : Int)).toNat 0) (heightsF (makeF (someN n)) h)
          have hs12 : ((steepL (makeF (someN n)) ((resL (someN n) l).set (at0.tmod ((resL (someN n) l).length : Int)).toNat 0) (heightsF (makeF (someN n)) h)) ++ (flatL (makeF (someN n)) ((resL (someN n) l).set (at0.tmod ((resL (someN n) l).length : Int)).toNat 0) (heightsF (makeF (someN n)) h))).length = (steepL (makeF (someN n)) ((resL (someN n) l).set (at0.tmod ((resL (someN n) l).length : Int)).toNat 0) (heightsF (makeF (someN n)) h)).length + (flatL (makeF (someN n)) ((resL (someN n) l).set (at0.tmod ((resL (someN n) l).length : Int)).toNat 0) (heightsF (makeF (someN n)) h)).length := List.length_append
          refine cw_seq ?_
          -- region 31
          refine cw_region ?_
          refine lw_v rfl rfl (ok_move rfl (.n rfl) rfl) ?_
          refine lw_v rfl rfl (ok_eq (ok_conv rfl (.n rfl) Try.underlying5 Try.underlying3 rfl) (c' := .int .i64 at0) (fun _ => congrArg (Value.int .i64) (wrap_in ⟨by omega, by omega⟩))) ?_
          refine lw_v rfl rfl (ok_move rfl (.n rfl) rfl) ?_
          refine lw_v rfl rfl (ok_len rfl (.n rfl) Try.underlying25 rfl) ?_
          refine lw_v rfl rfl (ok_rem rfl (.n rfl) rfl rfl (fun _ => by omega)) ?_
          refine lw_v rfl rfl (ok_assign rfl (.n rfl) rfl) ?_
          refine lw_nil ?_
          refine Ends.keep [(2, .eq _), (9, .eq _), (10, .eq _), (12, .eq _), (22, .eq _)] (.cons rfl (.cons rfl (.cons rfl (.cons rfl (.cons rfl .nil))))) ?_
          refine ends_then ?_
          refine cw_seq ?_
          -- region 32
          refine cw_region ?_
          refine lw_v rfl rfl (ok_move rfl (.n rfl) rfl) ?_
          refine lw_v rfl rfl (ok_move rfl (.n rfl) rfl) ?_
          refine lw_v rfl rfl (ok_ix rfl (.n rfl) Try.underlying25 Try.sizeOf2 rfl rfl hS (fun _ => ⟨by omega, by omega⟩)) ?_
          refine lw_stx (enc := (eInt .i64)) (_) rfl rfl rfl rfl rfl rfl Try.sizeOf2 hS (⟨by omega, by omega⟩) ?_
          clear hS; intro w8 hS
          refine lw_nil ?_
          refine Ends.keep [(2, .eq _), (9, .eq _), (10, .eq _), (12, .eq _), (22, .eq _)] (.cons rfl (.cons rfl (.cons rfl (.cons rfl (.cons rfl .nil))))) ?_
          refine ends_then ?_
          refine cw_seq ?_
          refine cw_seq ?_
          -- region 33
          refine cw_draw2 (by kernel_rfl) (List.take 11 _) (List.drop 11 _) [false, false, false, true, false, false, false, true, true, true, false] (List.take_append_drop 11 _).symm (by kernel_rfl) (fun w' => St w.heap.size w w' [bx b9 (csV (makeF (someN n)) q).cells.toList 29]) (fun vs w' => match vs with
                | [] => St w.heap.size w w' [sl (eInt .i64) 1 A54 (flatL (makeF (someN n)) (resL (someN n) l) (heightsF (makeF (someN n)) h)).length c54 (flatL (makeF (someN n)) (resL (someN n) l) (heightsF (makeF (someN n)) h)), sl (eInt .i64) 1 A39 (steepL (makeF (someN n)) (resL (someN n) l) (heightsF (makeF (someN n)) h)).length c39 (steepL (makeF (someN n)) (resL (someN n) l) (heightsF (makeF (someN n)) h)), mp m35 m2 f2, sl (eInt .i64) 1 AH (heightsF (makeF (someN n)) h).length cH (heightsF (makeF (someN n)) h), bx b9 (csV (makeF (someN n)) q).cells.toList 29, own (eInt .i64) 1 2 A6 (resL (someN n) l).length c6 ((resL (someN n) l).set (at0.tmod ((resL (someN n) l).length : Int)).toNat 0), sl (eInt .i64) 1 q.a0 (makeF (someN n)).First.length q.c0 (makeF (someN n)).First, sl (eInt .i64) 1 q.a1 (makeF (someN n)).Head.length q.c1 (makeF (someN n)).Head, sl (eInt .i64) 1 q.a2 (makeF (someN n)).Rev.length q.c2 (makeF (someN n)).Rev, sl (eInt .i64) 1 q.a3 (makeF (someN n)).Cap.length q.c3 (makeF (someN n)).Cap, sl (eInt .i64) 1 q.a4 (makeF (someN n)).Arc.length q.c4 (makeF (someN n)).Arc, sl eBool 1 q.a5 (makeF (someN n)).Back.length q.c5 (makeF (someN n)).Back, own eArc 3 82 AS (someN n).arcs.length cS (someN n).arcs, bx b4 (netV n A c).cells.toList 24, sl (eInt .i64) 1 A2 h.length c2 h, sl (eInt .i64) 1 A1 l.length c1 l, sl eArc 3 A n.arcs.length c n.arcs]
                | [v1] => ∃ A1' c1', v1 = .slice A1' (steepL (makeF (someN n)) ((resL (someN n) l).set (at0.tmod ((resL (someN n) l).length : Int)).toNat 0) (heightsF (makeF (someN n)) h)).length c1' ∧ St w.heap.size w w' [own (eInt .i64) 1 3 A1' (steepL (makeF (someN n)) ((resL (someN n) l).set (at0.tmod ((resL (someN n) l).length : Int)).toNat 0) (heightsF (makeF (someN n)) h)).length c1' (steepL (makeF (someN n)) ((resL (someN n) l).set (at0.tmod ((resL (someN n) l).length : Int)).toNat 0) (heightsF (makeF (someN n)) h)), sl (eInt .i64) 1 A54 (flatL (makeF (someN n)) (resL (someN n) l) (heightsF (makeF (someN n)) h)).length c54 (flatL (makeF (someN n)) (resL (someN n) l) (heightsF (makeF (someN n)) h)), sl (eInt .i64) 1 A39 (steepL (makeF (someN n)) (resL (someN n) l) (heightsF (makeF (someN n)) h)).length c39 (steepL (makeF (someN n)) (resL (someN n) l) (heightsF (makeF (someN n)) h)), mp m35 m2 f2, sl (eInt .i64) 1 AH (heightsF (makeF (someN n)) h).length cH (heightsF (makeF (someN n)) h), bx b9 (csV (makeF (someN n)) q).cells.toList 29, own (eInt .i64) 1 2 A6 (resL (someN n) l).length c6 ((resL (someN n) l).set (at0.tmod ((resL (someN n) l).length : Int)).toNat 0), sl (eInt .i64) 1 q.a0 (makeF (someN n)).First.length q.c0 (makeF (someN n)).First, sl (eInt .i64) 1 q.a1 (makeF (someN n)).Head.length q.c1 (makeF (someN n)).Head, sl (eInt .i64) 1 q.a2 (makeF (someN n)).Rev.length q.c2 (makeF (someN n)).Rev, sl (eInt .i64) 1 q.a3 (makeF (someN n)).Cap.length q.c3 (makeF (someN n)).Cap, sl (eInt .i64) 1 q.a4 (makeF (someN n)).Arc.length q.c4 (makeF (someN n)).Arc, sl eBool 1 q.a5 (makeF (someN n)).Back.length q.c5 (makeF (someN n)).Back, own eArc 3 82 AS (someN n).arcs.length cS (someN n).arcs, bx b4 (netV n A c).cells.toList 24, sl (eInt .i64) 1 A2 h.length c2 h, sl (eInt .i64) 1 A1 l.length c1 l, sl eArc 3 A n.arcs.length c n.arcs]
                | [v1, v2] => ∃ A1' c1' A2' c2', v1 = .slice A1' (steepL (makeF (someN n)) ((resL (someN n) l).set (at0.tmod ((resL (someN n) l).length : Int)).toNat 0) (heightsF (makeF (someN n)) h)).length c1' ∧ v2 = .slice A2' (flatL (makeF (someN n)) ((resL (someN n) l).set (at0.tmod ((resL (someN n) l).length : Int)).toNat 0) (heightsF (makeF (someN n)) h)).length c2' ∧ St w.heap.size w w' [own (eInt .i64) 1 3 A2' (flatL (makeF (someN n)) ((resL (someN n) l).set (at0.tmod ((resL (someN n) l).length : Int)).toNat 0) (heightsF (makeF (someN n)) h)).length c2' (flatL (makeF (someN n)) ((resL (someN n) l).set (at0.tmod ((resL (someN n) l).length : Int)).toNat 0) (heightsF (makeF (someN n)) h)), own (eInt .i64) 1 3 A1' (steepL (makeF (someN n)) ((resL (someN n) l).set (at0.tmod ((resL (someN n) l).length : Int)).toNat 0) (heightsF (makeF (someN n)) h)).length c1' (steepL (makeF (someN n)) ((resL (someN n) l).set (at0.tmod ((resL (someN n) l).length : Int)).toNat 0) (heightsF (makeF (someN n)) h)), sl (eInt .i64) 1 A54 (flatL (makeF (someN n)) (resL (someN n) l) (heightsF (makeF (someN n)) h)).length c54 (flatL (makeF (someN n)) (resL (someN n) l) (heightsF (makeF (someN n)) h)), sl (eInt .i64) 1 A39 (steepL (makeF (someN n)) (resL (someN n) l) (heightsF (makeF (someN n)) h)).length c39 (steepL (makeF (someN n)) (resL (someN n) l) (heightsF (makeF (someN n)) h)), mp m35 m2 f2, sl (eInt .i64) 1 AH (heightsF (makeF (someN n)) h).length cH (heightsF (makeF (someN n)) h), bx b9 (csV (makeF (someN n)) q).cells.toList 29, own (eInt .i64) 1 2 A6 (resL (someN n) l).length c6 ((resL (someN n) l).set (at0.tmod ((resL (someN n) l).length : Int)).toNat 0), sl (eInt .i64) 1 q.a0 (makeF (someN n)).First.length q.c0 (makeF (someN n)).First, sl (eInt .i64) 1 q.a1 (makeF (someN n)).Head.length q.c1 (makeF (someN n)).Head, sl (eInt .i64) 1 q.a2 (makeF (someN n)).Rev.length q.c2 (makeF (someN n)).Rev, sl (eInt .i64) 1 q.a3 (makeF (someN n)).Cap.length q.c3 (makeF (someN n)).Cap, sl (eInt .i64) 1 q.a4 (makeF (someN n)).Arc.length q.c4 (makeF (someN n)).Arc, sl eBool 1 q.a5 (makeF (someN n)).Back.length q.c5 (makeF (someN n)).Back, own eArc 3 82 AS (someN n).arcs.length cS (someN n).arcs, bx b4 (netV n A c).cells.toList 24, sl (eInt .i64) 1 A2 h.length c2 h, sl (eInt .i64) 1 A1 l.length c1 l, sl eArc 3 A n.arcs.length c n.arcs]
                | [_, _, v3] => ∃ A2' c2' A3' c3', v3 = .slice A3' ((steepL (makeF (someN n)) ((resL (someN n) l).set (at0.tmod ((resL (someN n) l).length : Int)).toNat 0) (heightsF (makeF (someN n)) h)) ++ (flatL (makeF (someN n)) ((resL (someN n) l).set (at0.tmod ((resL (someN n) l).length : Int)).toNat 0) (heightsF (makeF (someN n)) h))).length c3' ∧ St w.heap.size w w' [own (eInt .i64) 1 3 A2' (flatL (makeF (someN n)) ((resL (someN n) l).set (at0.tmod ((resL (someN n) l).length : Int)).toNat 0) (heightsF (makeF (someN n)) h)).length c2' (flatL (makeF (someN n)) ((resL (someN n) l).set (at0.tmod ((resL (someN n) l).length : Int)).toNat 0) (heightsF (makeF (someN n)) h)), own (eInt .i64) 1 3 A3' ((steepL (makeF (someN n)) ((resL (someN n) l).set (at0.tmod ((resL (someN n) l).length : Int)).toNat 0) (heightsF (makeF (someN n)) h)) ++ (flatL (makeF (someN n)) ((resL (someN n) l).set (at0.tmod ((resL (someN n) l).length : Int)).toNat 0) (heightsF (makeF (someN n)) h))).length c3' ((steepL (makeF (someN n)) ((resL (someN n) l).set (at0.tmod ((resL (someN n) l).length : Int)).toNat 0) (heightsF (makeF (someN n)) h)) ++ (flatL (makeF (someN n)) ((resL (someN n) l).set (at0.tmod ((resL (someN n) l).length : Int)).toNat 0) (heightsF (makeF (someN n)) h))), sl (eInt .i64) 1 A54 (flatL (makeF (someN n)) (resL (someN n) l) (heightsF (makeF (someN n)) h)).length c54 (flatL (makeF (someN n)) (resL (someN n) l) (heightsF (makeF (someN n)) h)), sl (eInt .i64) 1 A39 (steepL (makeF (someN n)) (resL (someN n) l) (heightsF (makeF (someN n)) h)).length c39 (steepL (makeF (someN n)) (resL (someN n) l) (heightsF (makeF (someN n)) h)), mp m35 m2 f2, sl (eInt .i64) 1 AH (heightsF (makeF (someN n)) h).length cH (heightsF (makeF (someN n)) h), bx b9 (csV (makeF (someN n)) q).cells.toList 29, own (eInt .i64) 1 2 A6 (resL (someN n) l).length c6 ((resL (someN n) l).set (at0.tmod ((resL (someN n) l).length : Int)).toNat 0), sl (eInt .i64) 1 q.a0 (makeF (someN n)).First.length q.c0 (makeF (someN n)).First, sl (eInt .i64) 1 q.a1 (makeF (someN n)).Head.length q.c1 (makeF (someN n)).Head, sl (eInt .i64) 1 q.a2 (makeF (someN n)).Rev.length q.c2 (makeF (someN n)).Rev, sl (eInt .i64) 1 q.a3 (makeF (someN n)).Cap.length q.c3 (makeF (someN n)).Cap, sl (eInt .i64) 1 q.a4 (makeF (someN n)).Arc.length q.c4 (makeF (someN n)).Arc, sl eBool 1 q.a5 (makeF (someN n)).Back.length q.c5 (makeF (someN n)).Back, own eArc 3 82 AS (someN n).arcs.length cS (someN n).arcs, bx b4 (netV n A c).cells.toList 24, sl (eInt .i64) 1 A2 h.length c2 h, sl (eInt .i64) 1 A1 l.length c1 l, sl eArc 3 A n.arcs.length c n.arcs]
                | [_, _, v3, v4] => ∃ A2' c2' A3' c3', v3 = .slice A3' ((steepL (makeF (someN n)) ((resL (someN n) l).set (at0.tmod ((resL (someN n) l).length : Int)).toNat 0) (heightsF (makeF (someN n)) h)) ++ (flatL (makeF (someN n)) ((resL (someN n) l).set (at0.tmod ((resL (someN n) l).length : Int)).toNat 0) (heightsF (makeF (someN n)) h))).length c3' ∧ v4 = .int .i64 ((steepL (makeF (someN n)) ((resL (someN n) l).set (at0.tmod ((resL (someN n) l).length : Int)).toNat 0) (heightsF (makeF (someN n)) h)) ++ (flatL (makeF (someN n)) ((resL (someN n) l).set (at0.tmod ((resL (someN n) l).length : Int)).toNat 0) (heightsF (makeF (someN n)) h))).length ∧ St w.heap.size w w' [own (eInt .i64) 1 3 A2' (flatL (makeF (someN n)) ((resL (someN n) l).set (at0.tmod ((resL (someN n) l).length : Int)).toNat 0) (heightsF (makeF (someN n)) h)).length c2' (flatL (makeF (someN n)) ((resL (someN n) l).set (at0.tmod ((resL (someN n) l).length : Int)).toNat 0) (heightsF (makeF (someN n)) h)), own (eInt .i64) 1 3 A3' ((steepL (makeF (someN n)) ((resL (someN n) l).set (at0.tmod ((resL (someN n) l).length : Int)).toNat 0) (heightsF (makeF (someN n)) h)) ++ (flatL (makeF (someN n)) ((resL (someN n) l).set (at0.tmod ((resL (someN n) l).length : Int)).toNat 0) (heightsF (makeF (someN n)) h))).length c3' ((steepL (makeF (someN n)) ((resL (someN n) l).set (at0.tmod ((resL (someN n) l).length : Int)).toNat 0) (heightsF (makeF (someN n)) h)) ++ (flatL (makeF (someN n)) ((resL (someN n) l).set (at0.tmod ((resL (someN n) l).length : Int)).toNat 0) (heightsF (makeF (someN n)) h))), sl (eInt .i64) 1 A54 (flatL (makeF (someN n)) (resL (someN n) l) (heightsF (makeF (someN n)) h)).length c54 (flatL (makeF (someN n)) (resL (someN n) l) (heightsF (makeF (someN n)) h)), sl (eInt .i64) 1 A39 (steepL (makeF (someN n)) (resL (someN n) l) (heightsF (makeF (someN n)) h)).length c39 (steepL (makeF (someN n)) (resL (someN n) l) (heightsF (makeF (someN n)) h)), mp m35 m2 f2, sl (eInt .i64) 1 AH (heightsF (makeF (someN n)) h).length cH (heightsF (makeF (someN n)) h), bx b9 (csV (makeF (someN n)) q).cells.toList 29, own (eInt .i64) 1 2 A6 (resL (someN n) l).length c6 ((resL (someN n) l).set (at0.tmod ((resL (someN n) l).length : Int)).toNat 0), sl (eInt .i64) 1 q.a0 (makeF (someN n)).First.length q.c0 (makeF (someN n)).First, sl (eInt .i64) 1 q.a1 (makeF (someN n)).Head.length q.c1 (makeF (someN n)).Head, sl (eInt .i64) 1 q.a2 (makeF (someN n)).Rev.length q.c2 (makeF (someN n)).Rev, sl (eInt .i64) 1 q.a3 (makeF (someN n)).Cap.length q.c3 (makeF (someN n)).Cap, sl (eInt .i64) 1 q.a4 (makeF (someN n)).Arc.length q.c4 (makeF (someN n)).Arc, sl eBool 1 q.a5 (makeF (someN n)).Back.length q.c5 (makeF (someN n)).Back, own eArc 3 82 AS (someN n).arcs.length cS (someN n).arcs, bx b4 (netV n A c).cells.toList 24, sl (eInt .i64) 1 A2 h.length c2 h, sl (eInt .i64) 1 A1 l.length c1 l, sl eArc 3 A n.arcs.length c n.arcs]
                | _ => False) (fun vs w' h => by
                match vs, h with
                | [], h => exact h.one (.tail _ (.tail _ (.tail _ (.tail _ (.head _)))))
                | [_], ⟨_, _, _, h⟩ => exact h.tail.one (.tail _ (.tail _ (.tail _ (.tail _ (.head _)))))
                | [_, _], ⟨_, _, _, _, _, _, h⟩ => exact h.tail.tail.one (.tail _ (.tail _ (.tail _ (.tail _ (.head _)))))
                | [_, _, _], ⟨_, _, _, _, _, h⟩ => exact h.tail.tail.one (.tail _ (.tail _ (.tail _ (.tail _ (.head _)))))
                | [_, _, _, _], ⟨_, _, _, _, _, _, h⟩ => exact h.tail.tail.one (.tail _ (.tail _ (.tail _ (.tail _ (.head _)))))) hS.drew ?_
          refine free2_v (ok_each (hS.one (.tail _ (.tail _ (.tail _ (.tail _ (.head _)))))) (fun w_ hS => ok_ldS rfl (.n rfl) rfl Try.isAgg29 Try.sizeOf29 hS rfl)) rfl ?_
          refine free2_v (ok_each (hS.one (.tail _ (.tail _ (.tail _ (.tail _ (.head _)))))) (fun w_ hS => ok_move rfl (.n rfl) rfl)) rfl ?_
          refine free2_v (ok_each (hS.one (.tail _ (.tail _ (.tail _ (.tail _ (.head _)))))) (fun w_ hS => ok_move rfl (.n rfl) rfl)) rfl ?_
          refine free2_w ?_ ?_
          ·
            intro vs wq hv hP
            obtain rfl : vs = [] := List.eq_nil_of_length_eq_zero hv
            have hS : St w.heap.size w wq [sl (eInt .i64) 1 A54 (flatL (makeF (someN n)) (resL (someN n) l) (heightsF (makeF (someN n)) h)).length c54 (flatL (makeF (someN n)) (resL (someN n) l) (heightsF (makeF (someN n)) h)), sl (eInt .i64) 1 A39 (steepL (makeF (someN n)) (resL (someN n) l) (heightsF (makeF (someN n)) h)).length c39 (steepL (makeF (someN n)) (resL (someN n) l) (heightsF (makeF (someN n)) h)), mp m35 m2 f2, sl (eInt .i64) 1 AH (heightsF (makeF (someN n)) h).length cH (heightsF (makeF (someN n)) h), bx b9 (csV (makeF (someN n)) q).cells.toList 29, own (eInt .i64) 1 2 A6 (resL (someN n) l).length c6 ((resL (someN n) l).set (at0.tmod ((resL (someN n) l).length : Int)).toNat 0), sl (eInt .i64) 1 q.a0 (makeF (someN n)).First.length q.c0 (makeF (someN n)).First, sl (eInt .i64) 1 q.a1 (makeF (someN n)).Head.length q.c1 (makeF (someN n)).Head, sl (eInt .i64) 1 q.a2 (makeF (someN n)).Rev.length q.c2 (makeF (someN n)).Rev, sl (eInt .i64) 1 q.a3 (makeF (someN n)).Cap.length q.c3 (makeF (someN n)).Cap, sl (eInt .i64) 1 q.a4 (makeF (someN n)).Arc.length q.c4 (makeF (someN n)).Arc, sl eBool 1 q.a5 (makeF (someN n)).Back.length q.c5 (makeF (someN n)).Back, own eArc 3 82 AS (someN n).arcs.length cS (someN n).arcs, bx b4 (netV n A c).cells.toList 24, sl (eInt .i64) 1 A2 h.length c2 h, sl (eInt .i64) 1 A1 l.length c1 l, sl eArc 3 A n.arcs.length c n.arcs] := hP
            refine lw_call (f := 31) (xs := [_, _, _]) rfl rfl rfl Try.call31 rfl (Calls.mono (f31m (makeF (someN n)) q ((resL (someN n) l).set (at0.tmod ((resL (someN n) l).length : Int)).toNat 0) (heightsF (makeF (someN n)) h) (resL (someN n) l).length List.length_set A6 c6 AH cH _ hwf (hS.cs q) (hS.rd A6 (by omega)) (hS.rd AH (by omega))) ?_)
            rintro e w' ⟨A128, c128, rfl, hg, hfr, ho⟩
            refine ⟨_, rfl, lw_nil fun a ha _ hs => ⟨rfl, ha, ?_⟩⟩
            have e1 : tm a 128 = _ := hs 128 _ rfl
            exact ⟨A128, c128, e1, hS.new hg _ ho hfr⟩
          refine free2_v (ok_each (hS.one (.tail _ (.tail _ (.tail _ (.tail _ (.head _)))))) (fun w_ hS => ok_ldS rfl (.n rfl) rfl Try.isAgg29 Try.sizeOf29 hS rfl)) rfl ?_
          refine free2_v (ok_each (hS.one (.tail _ (.tail _ (.tail _ (.tail _ (.head _)))))) (fun w_ hS => ok_move rfl (.n rfl) rfl)) rfl ?_
          refine free2_v (ok_each (hS.one (.tail _ (.tail _ (.tail _ (.tail _ (.head _)))))) (fun w_ hS => ok_move rfl (.n rfl) rfl)) rfl ?_
          refine free2_w ?_ ?_
          ·
            intro vs wq hv hP
            obtain ⟨v1, rfl⟩ := List.length_eq_one_iff.1 hv
            obtain ⟨A128, c128, rfl, hS⟩ := hP
            refine lw_call (f := 33) (xs := [_, _, _]) rfl rfl rfl Try.call33 rfl (Calls.mono (f33m (makeF (someN n)) q ((resL (someN n) l).set (at0.tmod ((resL (someN n) l).length : Int)).toNat 0) (heightsF (makeF (someN n)) h) (resL (someN n) l).length List.length_set A6 c6 AH cH _ hwf (hS.cs q) (hS.rd A6 (by omega)) (hS.rd AH (by omega))) ?_)
            rintro e w' ⟨A132, c132, rfl, hg, hfr, ho⟩
            refine ⟨_, rfl, lw_nil fun a ha _ hs => ⟨rfl, ha, ?_⟩⟩
            have e1 : tm a 132 = _ := hs 132 _ rfl
            exact ⟨A128, c128, A132, c132, rfl, e1, hS.new hg _ ho hfr⟩
          refine free2_w ?_ ?_
          ·
            intro vs wq hv hP
            obtain ⟨v1, v2, rfl⟩ : ∃ a b, vs = [a, b] := by
              match vs, hv with
              | [a, b], _ => exact ⟨a, b, rfl⟩
            obtain ⟨A128, c128, A132, c132, rfl, rfl, hS⟩ := hP
            refine lw_append0 (enc := (eInt .i64)) rfl rfl rfl Try.underlying26 info3 rfl rfl rfl hS (by omega) (by omega) ?_
            intro A133 c133 w' hS1
            refine lw_nil fun a ha _ hs => ⟨rfl, ha, ?_⟩
            have e1 : tm a 133 = _ := hs 133 _ rfl
            exact ⟨A132, c132, A133, c133, e1, hS1 _ Rep.r⟩
          refine free2_w ?_ ?_
          ·
            intro vs wq hv hP
            obtain ⟨v1, v2, v3, rfl⟩ : ∃ a b d, vs = [a, b, d] := by
              match vs, hv with
              | [a, b, d], _ => exact ⟨a, b, d, rfl⟩
            obtain ⟨A132, c132, A133, c133, rfl, hS⟩ := hP
            refine lw_v rfl rfl (ok_len rfl (.n rfl) Try.underlying26 rfl) ?_
            refine lw_nil fun a ha _ hs => ⟨rfl, ha, ?_⟩
            have e1 : tm a 134 = _ := hs 134 _ rfl
            exact ⟨A132, c132, A133, c133, rfl, e1, hS⟩
          refine free2_v (ok_each (hS.one (.tail _ (.tail _ (.tail _ (.tail _ (.head _)))))) (fun w_ hS => ok_move rfl (.n rfl) rfl)) rfl ?_
          refine free2_nil ?_
          clear hS
          intro vs wq hv hP
          obtain ⟨v1, v2, v3, v4, rfl⟩ : ∃ a b c d, vs = [a, b, c, d] := by
            match vs, hv with
            | [a, b, c, d], _ => exact ⟨a, b, c, d, rfl⟩
          obtain ⟨A132, c132, A133, c133, rfl, rfl, hS⟩ := hP
          refine lw_nil ?_
          refine Ends.keep [(2, .eq _), (9, .eq _), (10, .eq _), (12, .eq _), (22, .eq _), (133, .eq _), (134, .eq _), (135, .eq _)] (.cons rfl (.cons rfl (.cons rfl (.cons rfl (.cons rfl (.cons rfl (.cons rfl (.cons rfl .nil)))))))) ?_
          refine ends_then ?_
          refine cw_block ?_
          -- LOOP at region 34: changed live slots [135], kept [2, 9, 10, 12, 22, 133, 134]
          refine cw_loop [(2, .eq _), (9, .eq _), (10, .eq _), (12, .eq _), (22, .eq _), (133, .eq _), (134, .eq _)] (fun j : Nat => [(135, .eq (.int .i64 j))]) (fun j w' => j ≤ ((steepL (makeF (someN n)) ((resL (someN n) l).set (at0.tmod ((resL (someN n) l).length : Int)).toNat 0) (heightsF (makeF (someN n)) h)) ++ (flatL (makeF (someN n)) ((resL (someN n) l).set (at0.tmod ((resL (someN n) l).length : Int)).toNat 0) (heightsF (makeF (someN n)) h))).length ∧ St w.heap.size w w' [own (eInt .i64) 1 3 A132 (flatL (makeF (someN n)) ((resL (someN n) l).set (at0.tmod ((resL (someN n) l).length : Int)).toNat 0) (heightsF (makeF (someN n)) h)).length c132 (flatL (makeF (someN n)) ((resL (someN n) l).set (at0.tmod ((resL (someN n) l).length : Int)).toNat 0) (heightsF (makeF (someN n)) h)), own (eInt .i64) 1 3 A133 ((steepL (makeF (someN n)) ((resL (someN n) l).set (at0.tmod ((resL (someN n) l).length : Int)).toNat 0) (heightsF (makeF (someN n)) h)) ++ (flatL (makeF (someN n)) ((resL (someN n) l).set (at0.tmod ((resL (someN n) l).length : Int)).toNat 0) (heightsF (makeF (someN n)) h))).length c133 ((steepL (makeF (someN n)) ((resL (someN n) l).set (at0.tmod ((resL (someN n) l).length : Int)).toNat 0) (heightsF (makeF (someN n)) h)) ++ (flatL (makeF (someN n)) ((resL (someN n) l).set (at0.tmod ((resL (someN n) l).length : Int)).toNat 0) (heightsF (makeF (someN n)) h))), sl (eInt .i64) 1 A54 (flatL (makeF (someN n)) (resL (someN n) l) (heightsF (makeF (someN n)) h)).length c54 (flatL (makeF (someN n)) (resL (someN n) l) (heightsF (makeF (someN n)) h)), sl (eInt .i64) 1 A39 (steepL (makeF (someN n)) (resL (someN n) l) (heightsF (makeF (someN n)) h)).length c39 (steepL (makeF (someN n)) (resL (someN n) l) (heightsF (makeF (someN n)) h)), mp m35 m2 f2, sl (eInt .i64) 1 AH (heightsF (makeF (someN n)) h).length cH (heightsF (makeF (someN n)) h), bx b9 (csV (makeF (someN n)) q).cells.toList 29, own (eInt .i64) 1 2 A6 (resL (someN n) l).length c6 ((resL (someN n) l).set (at0.tmod ((resL (someN n) l).length : Int)).toNat 0), sl (eInt .i64) 1 q.a0 (makeF (someN n)).First.length q.c0 (makeF (someN n)).First, sl (eInt .i64) 1 q.a1 (makeF (someN n)).Head.length q.c1 (makeF (someN n)).Head, sl (eInt .i64) 1 q.a2 (makeF (someN n)).Rev.length q.c2 (makeF (someN n)).Rev, sl (eInt .i64) 1 q.a3 (makeF (someN n)).Cap.length q.c3 (makeF (someN n)).Cap, sl (eInt .i64) 1 q.a4 (makeF (someN n)).Arc.length q.c4 (makeF (someN n)).Arc, sl eBool 1 q.a5 (makeF (someN n)).Back.length q.c5 (makeF (someN n)).Back, own eArc 3 82 AS (someN n).arcs.length cS (someN n).arcs, bx b4 (netV n A c).cells.toList 24, sl (eInt .i64) 1 A2 h.length c2 h, sl (eInt .i64) 1 A1 l.length c1 l, sl eArc 3 A n.arcs.length c n.arcs]) (fun j => ((steepL (makeF (someN n)) ((resL (someN n) l).set (at0.tmod ((resL (someN n) l).length : Int)).toNat 0) (heightsF (makeF (someN n)) h)) ++ (flatL (makeF (someN n)) ((resL (someN n) l).set (at0.tmod ((resL (someN n) l).length : Int)).toNat 0) (heightsF (makeF (someN n)) h))).length - j) 0 (.cons rfl (.cons rfl (.cons rfl (.cons rfl (.cons rfl (.cons rfl (.cons rfl .nil))))))) (.cons rfl (.cons rfl (.cons rfl (.cons rfl (.cons rfl (.cons rfl (.cons rfl (.cons rfl .nil)))))))) ⟨Nat.zero_le _, hS⟩ ?_
          clear hS
          rintro j wr ⟨hj, hS⟩
          refine cw_seq ?_
          -- region 34
          refine cw_region ?_
          refine lw_v rfl rfl (ok_lss rfl (.n rfl) rfl rfl) ?_
          refine lw_nil ?_
          refine Ends.keep [(2, .eq _), (9, .eq _), (10, .eq _), (12, .eq _), (22, .eq _), (133, .eq _), (134, .eq _), (135, .eq _), (136, .eq _)] (.cons rfl (.cons rfl (.cons rfl (.cons rfl (.cons rfl (.cons rfl (.cons rfl (.cons rfl (.cons rfl .nil))))))))) ?_
          refine ends_then ?_
          refine cw_seq ?_
          refine cw_cond rfl (fun h136 => ?_) (fun h136 => ?_)
          ·
            have hlt3 : j < ((steepL (makeF (someN n)) ((resL (someN n) l).set (at0.tmod ((resL (someN n) l).length : Int)).toNat 0) (heightsF (makeF (someN n)) h)) ++ (flatL (makeF (someN n)) ((resL (someN n) l).set (at0.tmod ((resL (someN n) l).length : Int)).toNat 0) (heightsF (makeF (someN n)) h))).length := by have := of_decide_eq_true h136; omega
            refine cw_skip ?_
            refine ends_then ?_
            refine cw_seq ?_
            refine cw_block ?_
            refine cw_seq ?_
            -- region 35
            refine cw_region ?_
            refine lw_v rfl rfl (ok_ix rfl (.n rfl) Try.underlying26 Try.sizeOf3 rfl rfl hS (fun _ => ⟨by omega, by omega⟩)) ?_
            refine lw_v rfl rfl (ok_ldx rfl (.n rfl) rfl Try.isAgg3 hS (fun _ => ⟨by omega, by omega⟩) (by rfl)) ?_
            refine lw_v rfl rfl (ok_assign rfl (.n rfl) rfl) ?_
            refine lw_nil ?_
            refine Ends.keep [(2, .eq _), (9, .eq _), (10, .eq _), (12, .eq _), (22, .eq _), (24, .eq _), (133, .eq _), (134, .eq _), (135, .eq _)] (.cons rfl (.cons rfl (.cons rfl (.cons rfl (.cons rfl (.cons rfl (.cons rfl (.cons rfl (.cons rfl .nil))))))))) ?_
            refine ends_then ?_
            refine cw_seq ?_
            -- region 36
            refine cw_region ?_
            refine lw_v rfl rfl (ok_move rfl (.n rfl) rfl) ?_
            refine lw_v rfl rfl (ok_move rfl (.n rfl) rfl) ?_
            refine lw_v rfl rfl (ok_eql rfl (.n rfl) rfl rfl) ?_
            refine lw_nil ?_
            refine Ends.keep [(2, .eq _), (9, .eq _), (10, .eq _), (12, .eq _), (22, .eq _), (133, .eq _), (134, .eq _), (135, .eq _), (141, .eq _)] (.cons rfl (.cons rfl (.cons rfl (.cons rfl (.cons rfl (.cons rfl (.cons rfl (.cons rfl (.cons rfl .nil))))))))) ?_
            refine ends_then ?_
            refine cw_cond rfl (fun h141 => ?_) (fun h141 => ?_)
            ·
              exact absurd (of_decide_eq_true h141) (not_shut hm hlt3 (by omega) (by omega))
            ·
              refine cw_skip ?_
              refine in_normal (?_)
              refine ends_then ?_
              -- region 38
              refine cw_region ?_
              refine lw_v rfl rfl (ok_addi rfl (.n rfl) rfl rfl (fun _ => ⟨by omega, by omega⟩)) ?_
              refine lw_v rfl rfl (ok_move rfl (.n rfl) rfl) ?_
              refine lw_nil ?_
              -- BACK
              refine ends_back (j + 1) (.cons rfl (.cons rfl (.cons rfl (.cons rfl (.cons rfl (.cons rfl (.cons rfl (.cons rfl .nil)))))))) ⟨by omega, hS⟩ (by omega)
          ·
            refine cw_exit ?_
            refine then_exit (then_exit (in_exit (?_)))
            refine Ends.keep [(2, .eq _), (9, .eq _), (10, .eq _), (12, .eq _), (22, .eq _)] (.cons rfl (.cons rfl (.cons rfl (.cons rfl (.cons rfl .nil))))) ?_
            refine ends_then ?_
            refine cw_seq ?_
            -- region 39
            refine cw_region ?_
            refine lw_v rfl rfl (ok_ldS rfl (.n rfl) rfl Try.isAgg29 Try.sizeOf29 hS rfl) ?_
            refine lw_v rfl rfl (ok_move rfl (.n rfl) rfl) ?_
            refine lw_v rfl rfl (ok_move rfl (.n rfl) rfl) ?_
            refine lw_call (f := 35) (xs := [_, _, _]) rfl rfl rfl Try.call35 rfl (Calls.mono (f35m (makeF (someN n)) q ((resL (someN n) l).set (at0.tmod ((resL (someN n) l).length : Int)).toNat 0) (heightsF (makeF (someN n)) h) (resL (someN n) l).length List.length_set A6 c6 AH cH _ hwf (hS.cs q) (hS.rd A6 (by omega)) (hS.rd AH (by omega))) ?_)
            rintro e w' ⟨rfl, hg⟩
            replace hS := hS.grow hg; clear hg
            refine ⟨_, rfl, ?_⟩
            refine lw_v rfl rfl (ok_move rfl (.n rfl) rfl) ?_
            refine lw_v rfl rfl (ok_len rfl (.n rfl) Try.underlying26 rfl) ?_
            refine lw_v rfl rfl (ok_eql rfl (.n rfl) rfl rfl) ?_
            refine lw_v rfl rfl (ok_move rfl (.n rfl) rfl) ?_
            refine lw_v rfl rfl (ok_move rfl (.s rfl rfl) rfl) ?_
            refine lw_v rfl rfl (ok_len rfl (.s rfl rfl) Try.underlying26 rfl) ?_
            refine lw_v rfl rfl (ok_eql rfl (.s rfl rfl) rfl rfl) ?_
            refine lw_v rfl rfl (ok_move rfl (.s rfl rfl) rfl) ?_
            refine lw_v rfl rfl (ok_move rfl (.s rfl rfl) rfl) ?_
            refine lw_v rfl rfl (ok_ix rfl (.s rfl rfl) Try.underlying26 Try.sizeOf3 rfl rfl hS (fun hg => ⟨by omega, by have h9 : decide (((steepL (makeF (someN n)) (resL (someN n) l) (heightsF (makeF (someN n)) h)).length : Int) = 1) = true := hg; have := of_decide_eq_true h9; omega⟩)) ?_
            refine lw_v rfl rfl (ok_ldx rfl (.s rfl rfl) rfl Try.isAgg3 hS (fun hg => ⟨by omega, by have h9 : decide (((steepL (makeF (someN n)) (resL (someN n) l) (heightsF (makeF (someN n)) h)).length : Int) = 1) = true := hg; have := of_decide_eq_true h9; omega⟩) (by rfl)) ?_
            refine lw_v rfl rfl (ok_move rfl (.s rfl rfl) rfl) ?_
            refine lw_v rfl rfl (ok_eql rfl (.s rfl rfl) rfl rfl) ?_
            refine lw_v rfl rfl (ok_andg rfl (.s rfl rfl) rfl rfl) ?_
            refine lw_v rfl rfl (ok_or rfl rfl rfl rfl) ?_
            refine lw_v rfl rfl (ok_eq (g := none) (ok_eqb rfl (.n rfl) Try.underlying4 rfl rfl) (c' := .bool true) (fun _ => congrArg Value.bool (valid_shut hm (by omega) (by omega)))) ?_
            refine lw_v rfl rfl (ok_move rfl (.n rfl) rfl) ?_
            refine lw_on (.s rfl rfl) rfl ?_
            refine lw_call (f := 39) (xs := []) rfl rfl rfl Try.call39 rfl (Calls.mono (f39 _) ?_)
            rintro e w' ⟨rfl, hg⟩
            replace hS := hS.grow hg; clear hg
            refine ⟨_, rfl, ?_⟩
            refine lw_v rfl rfl (ok_pick rfl rfl rfl rfl rfl) ?_
            refine lw_v rfl rfl (ok_assign rfl (.n rfl) rfl) ?_
            refine lw_nil ?_
            refine Ends.keep [(8, .eq _)] (.cons rfl .nil) ?_
            refine ends_then ?_
            refine cw_ret ?_
            refine then_ret (?_)
            exact end_ret (res1 Try.results5 rfl) ⟨rfl, hS.below⟩
        ·
          refine cw_skip ?_
          refine ends_then ?_
          refine cw_seq ?_
          -- region 40
          refine cw_region ?_
          refine lw_v rfl rfl (ok_ldS rfl (.n rfl) rfl Try.isAgg29 Try.sizeOf29 hS rfl) ?_
          refine lw_v rfl rfl (ok_move rfl (.n rfl) rfl) ?_
          refine lw_v rfl rfl (ok_move rfl (.n rfl) rfl) ?_
          refine lw_call (f := 35) (xs := [_, _, _]) rfl rfl rfl Try.call35 rfl (Calls.mono (f35 (makeF (someN n)) q (resL (someN n) l) (heightsF (makeF (someN n)) h) A6 c6 AH cH _ hwf (hS.cs q) (hS.rd A6 (by omega)) (hS.rd AH (by omega))) ?_)
          rintro e w' ⟨rfl, hg⟩
          replace hS := hS.grow hg; clear hg
          rw [valid_none hm (by have := of_decide_eq_false h116; omega)]
          refine ⟨_, rfl, ?_⟩
          refine lw_v rfl rfl (ok_move rfl (.n rfl) rfl) ?_
          refine lw_on (.s rfl rfl) rfl ?_
          refine lw_call (f := 39) (xs := []) rfl rfl rfl Try.call39 rfl (Calls.mono (f39 _) ?_)
          rintro e w' ⟨rfl, hg⟩
          replace hS := hS.grow hg; clear hg
          refine ⟨_, rfl, ?_⟩
          refine lw_v rfl rfl (ok_pick rfl rfl rfl rfl rfl) ?_
          refine lw_v rfl rfl (ok_assign rfl (.n rfl) rfl) ?_
          refine lw_nil ?_
          refine Ends.keep [(8, .eq _)] (.cons rfl .nil) ?_
          refine ends_then ?_
          refine cw_ret ?_
          exact end_ret (res1 Try.results5 rfl) ⟨rfl, hS.below⟩

end Go.Proofs.Ytnpgeohkmdcbkaa.Aq
