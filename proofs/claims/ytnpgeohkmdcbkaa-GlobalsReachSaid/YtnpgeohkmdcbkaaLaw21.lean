/- The walk of the law GlobalsReach. -/
import Derived.Test.YtnpgeohkmdcbkaaLaw22
namespace Go.Proofs.Ytnpgeohkmdcbkaa.Aq
open Go Go.RowKit

/-! From whom T is reached -/
theorem reach_len {c : Cs} (hw : WF c) {res : List Int} (hl : res.length = c.Head.length) : (reachL c res).length = c.N := by
  unfold reachL
  rw [List.length_map]
  exact (exactF_right hw (exOk_iff.2 ⟨hl, by omega, by omega⟩)).len
theorem reach_get {c : Cs} (hw : WF c) {res : List Int} (hl : res.length = c.Head.length) {v : Nat} (hv : v < c.N) : (reachL c res).getD v false = decide ((exactL c res).getD v 0 < (c.N : Int)) := by
  unfold reachL
  rw [exactF_yes (exOk_iff.2 ⟨hl, by omega, by omega⟩)]
  have h1 : v < (exactL c res).length := by rw [(exactL_low c res).len]; exact hv
  simp [List.getD_eq_getElem?_getD, h1]
/-- Along the way each number is met. -/
theorem low_met {N t : Nat} {E : Nat → Nat → Prop} {D : List Int} (L : Low N E (hTo N t) D) : ∀ (m : Nat) (v : Nat), v < N → D.getD v 0 = (m : Int) → m < N → ∀ k : Nat, k ≤ m → ∃ u, u < N ∧ D.getD u 0 = (k : Int)
  | 0, v, hv, h, _, k, hk => ⟨v, hv, by rw [h]; omega⟩
  | m + 1, v, hv, h, hm, k, hk => by
    by_cases he : k = m + 1
    · exact ⟨v, hv, by rw [h, he]⟩
    · rcases L.why v hv with e | ⟨w, hw, _, e⟩
      · unfold hTo at e
        split at e <;> omega
      · exact low_met L m w hw (by omega) (by omega) k (by omega)
theorem low_gap {N s t : Nat} {E : Nat → Nat → Prop} {D : List Int} (L : Low N E (hTo N t) D) (hs : s < N) (h : D.getD s 0 = N) {v : Nat} (hv : v < N) (hlt : D.getD v 0 < N) : D.getD v 0 + 1 < N := by
  have h0 := L.nn v hv
  rcases Int.lt_or_le (D.getD v 0 + 1) N with h1 | h1
  · exact h1
  exfalso
  have met : ∀ k : Nat, k < N + 1 → ∃ u, u < N ∧ D.getD u 0 = (k : Int) := fun k hk => by
    by_cases he : k = N
    · exact ⟨s, hs, by rw [h, he]⟩
    · exact low_met L (N - 1) v hv (by omega) (by omega) k (by omega)
  let f : Nat → Nat := fun k => if hk : k < N + 1 then (met k hk).choose else 0
  have hf : ∀ k, k < N + 1 → f k < N ∧ D.getD (f k) 0 = (k : Int) := fun k hk => by
    show (if hk : k < N + 1 then (met k hk).choose else 0) < N ∧ _
    simp only [f, dif_pos hk]
    exact (met k hk).choose_spec
  have hn : ((List.range (N + 1)).map fun k => (f k : Int)).Nodup := by
    rw [List.nodup_iff_pairwise_ne, List.pairwise_map]
    refine (List.nodup_range (n := N + 1)).imp_of_mem fun {a b} ha hb hab he => hab ?_
    have h3 := (hf a (List.mem_range.1 ha)).2
    have h4 := (hf b (List.mem_range.1 hb)).2
    have : f a = f b := by omega
    rw [this] at h3
    omega
  have := nodup_le (N := N) hn fun x hx => by
    obtain ⟨k, hk, rfl⟩ := List.mem_map.1 hx
    have := (hf k (List.mem_range.1 hk)).1
    omega
  simp at this
  omega
/-- Is v T, or does an open arc among the first a lead from v to one from whom T is reached? -/
noncomputable def someTo (c : Cs) (res : List Int) (v a : Nat) : Bool := decide ((v : Int) = (c.T : Int)) || (List.range a).any fun j => decide (c.First.getD v 0 ≤ (j : Int)) && (decide (0 < res.getD j 0) && decide ((exactL c res).getD (c.Head.getD j 0).toNat 0 < (c.N : Int)))
theorem some_start {c : Cs} {res : List Int} {v : Nat} (h0 : 0 ≤ c.First.getD v 0) : decide ((v : Int) = (c.T : Int)) = someTo c res v (c.First.getD v 0).toNat := by
  unfold someTo
  have : ((List.range (c.First.getD v 0).toNat).any fun j => decide (c.First.getD v 0 ≤ (j : Int)) && (decide (0 < res.getD j 0) && decide ((exactL c res).getD (c.Head.getD j 0).toNat 0 < (c.N : Int)))) = false := by
    rw [List.any_eq_false]
    intro j hj
    have := List.mem_range.1 hj
    rw [decide_eq_false (by omega), Bool.false_and]
    decide
  rw [this, Bool.or_false]
theorem someTo_step {c : Cs} {res : List Int} {v a : Nat} (h0 : c.First.getD v 0 ≤ (a : Int)) {x : Bool} (hx : x = decide ((exactL c res).getD (c.Head.getD a 0).toNat 0 < (c.N : Int))) : (someTo c res v a || (decide (0 < res.getD (a : Int).toNat 0) && x)) = someTo c res v (a + 1) := by
  unfold someTo
  rw [List.range_succ, List.any_append, hx]
  simp only [List.any_cons, List.any_nil, Bool.or_false, decide_eq_true h0, Bool.true_and, Bool.or_assoc]
  rfl
theorem some_eq {c : Cs} (hw : WF c) {res : List Int} {v a : Nat} (hv : v < c.N) (hs : v ≠ c.S) (ha : (a : Int) = c.First.getD (v + 1) 0) : someTo c res v a = decide ((exactL c res).getD v 0 < (c.N : Int)) := by
  have L := exactL_low c res
  have R := exact_right hw L
  have hlo := hw.lo
  rw [Bool.eq_iff_iff, decide_eq_true_eq]
  unfold someTo
  rw [Bool.or_eq_true, decide_eq_true_eq, List.any_eq_true]
  constructor
  · rintro (h | ⟨j, hj, h⟩)
    · obtain rfl : v = c.T := by omega
      rw [R.t]; omega
    · rw [Bool.and_eq_true, Bool.and_eq_true, decide_eq_true_eq, decide_eq_true_eq, decide_eq_true_eq] at h
      obtain ⟨h1, h2, h3⟩ := h
      have hj := List.mem_range.1 hj
      obtain ⟨_, _, hf2⟩ := seg_rng hw hv
      have hd := hw.hd j (by omega)
      have he : EdgeS c res v (c.Head.getD j 0).toNat := ⟨hs, (edge_seg hw hv).2 ⟨j, h1, by omega, rfl, h2⟩⟩
      have h4 := low_gap L hw.s R.s (by omega : (c.Head.getD j 0).toNat < c.N) h3
      have h5 := L.ok _ _ hv (by omega) he
      omega
  · intro h
    rcases L.why v hv with e | ⟨w, hww, ⟨_, he⟩, e⟩
    · unfold hTo at e
      split at e
      · left; omega
      · omega
    · right
      obtain ⟨j, h1, h2, h3, h4⟩ := (edge_seg hw hv).1 he
      refine ⟨j, List.mem_range.2 (by omega), ?_⟩
      rw [Bool.and_eq_true, Bool.and_eq_true, decide_eq_true_eq, decide_eq_true_eq, decide_eq_true_eq, h3]
      exact ⟨h1, h4, by omega⟩
theorem rows_right {c : Cs} (hw : WF c) {res : List Int} (hl : res.length = c.Head.length) (h : (((!decide ((c.N : Int) = (c.N : Int)) || !decide ((c.N : Int) = (c.N : Int))) || !(reachL c res).getD (c.T : Int).toNat false) || (reachL c res).getD (c.S : Int).toNat false) = true) : False := by
  have R := exact_right hw (exactL_low c res)
  have hlo := hw.lo
  rw [show (c.T : Int).toNat = c.T from rfl, show (c.S : Int).toNat = c.S from rfl, reach_get hw hl hw.t, reach_get hw hl hw.s, R.t, R.s, decide_eq_true rfl, decide_eq_true (by omega : (0 : Int) < (c.N : Int)), decide_eq_false (Int.lt_irrefl _)] at h
  cases h
theorem some_right {c : Cs} (hw : WF c) {res : List Int} (hl : res.length = c.Head.length) {v a : Nat} (hv : v < c.N) (ha : (a : Int) = c.First.getD (v + 1) 0) {b : Bool} (hb : b = someTo c res v a)
    (h : (!decide ((v : Int) = (c.S : Int)) && ((!(reachL c res).getD (v : Int).toNat false == b) || (!(reachL c res).getD (v : Int).toNat false == decide ((exactF c res 3).getD (v : Int).toNat 0 < (c.N : Int))))) = true) : False := by
  rw [Bool.and_eq_true, Bool.not_eq_true', decide_eq_false_iff_not] at h
  obtain ⟨h1, h2⟩ := h
  have e := some_eq hw (res := res) hv (fun e => h1 (by rw [e])) ha
  rw [show (v : Int).toNat = v from rfl, reach_get hw hl hv, hb, e, exactF_yes (exOk_iff.2 ⟨hl, by omega, by omega⟩)] at h2
  cases hd : decide ((exactL c res).getD v 0 < (c.N : Int)) <;> rw [hd] at h2 <;> cases h2
theorem exact_same {c : Cs} {res res' : List Int} {wk wk' : Int} (hl : res.length = c.Head.length) (hl' : res'.length = c.Head.length) (h : ∀ a, a < c.Head.length → (0 < res.getD a 0 ↔ 0 < res'.getD a 0)) (h1 : 1 ≤ wk ∧ wk ≤ 64) (h2 : 1 ≤ wk' ∧ wk' ≤ 64) : exactF c res' wk = exactF c res wk' := by
  rw [exactF_yes (exOk_iff.2 ⟨hl', h1.1, h1.2⟩), exactF_yes (exOk_iff.2 ⟨hl, h2.1, h2.2⟩)]
  exact (exactL_low c res').unique (exactL_low c res) (fun _ _ => rfl) fun u w _ _ =>
    ⟨fun ⟨e1, e2⟩ => ⟨e1, edge_more (fun a ha h3 => (h a ha).2 h3) e2⟩, fun ⟨e1, e2⟩ => ⟨e1, edge_more (fun a ha h3 => (h a ha).1 h3) e2⟩⟩
theorem reach_same {c : Cs} (hw : WF c) {res res' : List Int} (hl : res.length = c.Head.length) (hl' : res'.length = c.Head.length) (h : ∀ a, a < c.Head.length → (0 < res.getD a 0 ↔ 0 < res'.getD a 0)) : reachL c res' = reachL c res := by
  unfold reachL
  rw [exact_same hl hl' h (wk := 1) (wk' := 1) ⟨by omega, by omega⟩ ⟨by omega, by omega⟩]
theorem St.twoB {B : Nat} {we w w' : World} {L : List Asn} (h : St B we w L) (hg : Gr w w') {A A2 : Option Addr} {m c m2 c2 : Nat} {xs : List Int} {ys : List Bool} (h1 : (own (eInt .i64) 1 3 A m c xs).p w') (f1 : ∀ b, (own (eInt .i64) 1 3 A m c xs).fp b → w.heap.size ≤ b) (b1 : m ≤ 140737488351232)
    (h2 : (own eBool 1 4 A2 m2 c2 ys).p w') (f2 : ∀ b, (own eBool 1 4 A2 m2 c2 ys).fp b → w.heap.size ≤ b) (b2 : m2 ≤ 140737488351232) : St B we w' (sl (eInt .i64) 1 A m c xs :: sl eBool 1 A2 m2 c2 ys :: L) := h.newl [sl (eInt .i64) 1 A m c xs, sl eBool 1 A2 m2 c2 ys] hg fun a ha => by
  simp only [List.mem_cons, List.not_mem_nil, or_false] at ha
  rcases ha with rfl | rfl
  · exact ⟨rfl, own_sl h1 b1, own_fp f1⟩
  · exact ⟨rfl, own_sl h2 b2, own_fp f2⟩

set_option maxHeartbeats 2000000 in
set_option maxRecDepth 10000 in
/-- acequialaw20.GlobalsReach. -/
theorem f21 (n : Nt) (A : Option Addr) (c : Nat) (l : List Int) (A1 : Option Addr) (c1 : Nat) (more : List Int) (A2 : Option Addr) (c2 : Nat) (w : World) (ha : (sl eArc 3 A n.arcs.length c n.arcs).p w) (hrgn : (-9223372036854775808 ≤ n.N ∧ n.N ≤ 9223372036854775807) ∧ (-9223372036854775808 ≤ n.S ∧ n.S ≤ 9223372036854775807) ∧ (-9223372036854775808 ≤ n.T ∧ n.T ≤ 9223372036854775807) ∧ ∀ a ∈ n.arcs, -9223372036854775808 ≤ a.1 ∧ a.1 ≤ 9223372036854775807 ∧ -9223372036854775808 ≤ a.2.1 ∧ a.2.1 ≤ 9223372036854775807 ∧ -9223372036854775808 ≤ a.2.2 ∧ a.2.2 ≤ 9223372036854775807) (hl : (sl (eInt .i64) 1 A1 l.length c1 l).p w) (hrgl : ∀ x ∈ l, -9223372036854775808 ≤ x ∧ x ≤ 9223372036854775807) (hm : (sl (eInt .u8) 1 A2 more.length c2 more).p w) (hrgm : ∀ x ∈ more, 0 ≤ x ∧ x ≤ 255) :
    Calls Try.prog 21 #[netV n A c, .slice A1 l.length c1, .slice A2 more.length c2] w fun e w' => e = .returned (.bool true) ∧ Gr w w' := by
  refine calls_cw Try.func21 rfl Try.ntmps21 rfl ?_
  have hS := (((St.start w).args (Nat.le_refl _) _ ha rfl).args (Nat.le_refl _) _ hl rfl).args (Nat.le_refl _) _ hm rfl
  have hml := hm.2.1
  refine cw_seq ?_
  -- region 0
  refine cw_region ?_
  refine lw_box rfl rfl rfl rfl hS ?_
  clear hS; intro b3 w1 _ _ hS
  refine lw_v rfl rfl (ok_assign rfl (.n rfl) rfl) ?_
  refine lw_nil ?_
  refine Ends.keep [(1, .eq _), (2, .eq _), (3, .eq _)] (.cons rfl (.cons rfl (.cons rfl .nil))) ?_
  refine ends_then ?_
  refine cw_seq ?_
  -- region 1
  refine cw_region ?_
  refine lw_v rfl rfl (ok_ldS rfl (.n rfl) rfl Try.isAgg24 Try.sizeOf24 hS rfl) ?_
  refine lw_call (f := 24) (xs := [_, _, _]) rfl rfl rfl Try.call24 rfl (Calls.mono (f24a n A c _ (hS.rd A (by have := ha.2.1; omega)) hrgn) ?_)
  rintro e w' ⟨n1, AS, cS, hok, rfl, hg, hfr, ho⟩
  replace hS := hS.new hg _ ho hfr; clear hg ho hfr
  refine ⟨_, rfl, ?_⟩
  refine lw_v rfl rfl (ok_move rfl (.n rfl) rfl) ?_
  refine lw_call (f := 23) (xs := [_, _]) rfl rfl rfl Try.call23 rfl (Calls.mono (f23a n1 AS cS l A1 c1 _ hok (hS.rd AS (by have := hok.len; omega)) (hS.rd A1 hl.2.1) hl.2.1 hrgl) ?_)
  rintro e w' ⟨C, R, q, A6, c6, ⟨hwf, hro⟩, rfl, hg, hnew, hat, hfr, hap, ho⟩
  replace hS := hS.left hg hat hnew ho hfr hap; clear hg hnew hat hfr hap ho
  replace hS := hS.sub (.cons_cons _ (.cons_cons _ (.cons_cons _ (.cons_cons _ (.cons_cons _ (.cons_cons _ (.cons_cons _ (.cons _ (List.Sublist.refl _)))))))))
  have hM := hwf.m
  have hrlen := hro.len
  have hN := hwf.hi
  have hlo := hwf.lo
  have hyes : exOk C R 3 = true := exOk_iff.2 ⟨hrlen, by omega, by omega⟩
  have hrl : (reachL C R).length = C.N := reach_len hwf hrlen
  have hxl : (exactF C R 3).length = C.N := (exactF_right hwf hyes).len
  have htN := hwf.t
  have hsN := hwf.s
  have hfl := hwf.fl
  refine ⟨_, rfl, ?_⟩
  refine lw_v rfl rfl (ok_move rfl (.n rfl) rfl) ?_
  refine lw_v rfl rfl (ok_extract rfl (.n rfl) rfl rfl) ?_
  refine lw_v rfl rfl (ok_extract rfl (.n rfl) rfl rfl) ?_
  refine lw_alloc rfl rfl rfl Try.zeroValue29 hS ?_
  clear hS; intro b7 w2 _ _ hS
  refine lw_stS rfl rfl rfl rfl rfl (by kernel_rfl) hS rfl (by rfl) (by rfl) ?_
  clear hS; intro w3 hS
  refine lw_v rfl rfl (ok_assign rfl (.n rfl) rfl) ?_
  refine lw_nil ?_
  refine Ends.keep [(2, .eq _), (7, .eq _), (8, .eq _)] (.cons rfl (.cons rfl (.cons rfl .nil))) ?_
  refine ends_then ?_
  refine cw_seq ?_
  -- region 2
  refine cw_draw (by kernel_rfl) (List.take 5 _) (List.drop 5 _) (List.take_append_drop 5 _).symm (by kernel_rfl) ?_
  refine free_v (ok_ldS rfl (.n rfl) rfl Try.isAgg29 Try.sizeOf29 hS rfl) ?_
  refine free_v (ok_move rfl (.n rfl) rfl) ?_
  refine free_cons (ok_callB rfl rfl Try.call60 rfl (fun w' hg => f60 C q R A6 c6 w' hwf ((hS.grow hg).cs q) ((hS.grow hg).rd A6 (by omega)))) ?_
  refine free_v (ok_ldS rfl (.n rfl) rfl Try.isAgg29 Try.sizeOf29 hS rfl) ?_
  refine free_v (ok_move rfl (.n rfl) rfl) ?_
  refine free_nil ?_
  intro wz hg_
  refine LW.opened (s := 24) rfl ?_
  rintro _ ⟨A24, c24, rfl, ho24, hf24⟩
  rw [hrl] at ho24 hf24
  replace hS := (hS.new hg_ _ ho24 hf24).freeze .here (by omega); clear hg_ ho24 hf24
  rw [hrl]
  refine lw_call (f := 44) (xs := [_, _, _]) rfl rfl rfl Try.call44 rfl (Calls.mono (f44 C q R A6 c6 3 _ hwf (hS.cs q) (hS.rd A6 (by omega))) ?_)
  rintro e w' ⟨A27, c27, rfl, hg, hfr, ho, _⟩
  rw [hxl] at hfr ho
  replace hS := hS.new hg _ ho hfr; clear hg ho hfr
  replace hS := hS.freeze .here (by omega)
  rw [hxl]
  refine ⟨_, rfl, ?_⟩
  refine lw_v rfl rfl (ok_assign rfl (.n rfl) rfl) ?_
  refine lw_v rfl rfl (ok_assign rfl (.n rfl) rfl) ?_
  refine lw_nil ?_
  refine Ends.keep [(2, .eq _), (7, .eq _), (8, .eq _), (9, .eq _), (10, .eq _)] (.cons rfl (.cons rfl (.cons rfl (.cons rfl (.cons rfl .nil))))) ?_
  refine ends_then ?_
  refine cw_seq ?_
  refine cw_seq ?_
  -- region 3
  refine cw_region ?_
  refine lw_v rfl rfl (ok_move rfl (.n rfl) rfl) ?_
  refine lw_v rfl rfl (ok_len rfl (.n rfl) Try.underlying27 rfl) ?_
  refine lw_v rfl rfl (ok_fb rfl (.n rfl) Try.underlying29 rfl Try.sizeOf3 (by decide) rfl) ?_
  refine lw_v rfl rfl (ok_eq (ok_ldb rfl (.n rfl) rfl Try.isAgg3 hS (by rfl)) (c' := .int .i64 (C.N : Int)) (fun _ => rfl)) ?_
  refine lw_v rfl rfl (ok_neq rfl (.n rfl) rfl rfl) ?_
  refine lw_v rfl rfl (ok_move rfl (.n rfl) rfl) ?_
  refine lw_v rfl rfl (ok_move rfl (.s rfl rfl) rfl) ?_
  refine lw_v rfl rfl (ok_len rfl (.s rfl rfl) Try.underlying26 rfl) ?_
  refine lw_v rfl rfl (ok_fb rfl (.s rfl rfl) Try.underlying29 rfl Try.sizeOf3 (by decide) rfl) ?_
  refine lw_v rfl rfl (ok_eq (ok_ldb rfl (.s rfl rfl) rfl Try.isAgg3 hS (by rfl)) (c' := .int .i64 (C.N : Int)) (fun _ => rfl)) ?_
  refine lw_v rfl rfl (ok_neq rfl (.s rfl rfl) rfl rfl) ?_
  refine lw_v rfl rfl (ok_or rfl rfl rfl rfl) ?_
  refine lw_v rfl rfl (ok_move rfl (.n rfl) rfl) ?_
  refine lw_v rfl rfl (ok_move rfl (.s rfl rfl) rfl) ?_
  refine lw_v rfl rfl (ok_fb rfl (.s rfl rfl) Try.underlying29 rfl Try.sizeOf3 (by decide) rfl) ?_
  refine lw_v rfl rfl (ok_eq (ok_ldb rfl (.s rfl rfl) rfl Try.isAgg3 hS (by rfl)) (c' := .int .i64 (C.T : Int)) (fun _ => rfl)) ?_
  refine lw_v rfl rfl (ok_ix rfl (.s rfl rfl) Try.underlying27 Try.sizeOf4 rfl rfl hS (fun _ => ⟨by omega, by omega⟩)) ?_
  refine lw_v rfl rfl (ok_ldx rfl (.s rfl rfl) rfl Try.isAgg4 hS (fun _ => ⟨by omega, by omega⟩) (by rfl)) ?_
  refine lw_v rfl rfl (ok_not rfl (.s rfl rfl) rfl) ?_
  refine lw_v rfl rfl (ok_or rfl rfl rfl rfl) ?_
  refine lw_v rfl rfl (ok_move rfl (.n rfl) rfl) ?_
  refine lw_v rfl rfl (ok_move rfl (.s rfl rfl) rfl) ?_
  refine lw_v rfl rfl (ok_fb rfl (.s rfl rfl) Try.underlying29 rfl Try.sizeOf3 (by decide) rfl) ?_
  refine lw_v rfl rfl (ok_eq (ok_ldb rfl (.s rfl rfl) rfl Try.isAgg3 hS (by rfl)) (c' := .int .i64 (C.S : Int)) (fun _ => rfl)) ?_
  refine lw_v rfl rfl (ok_ix rfl (.s rfl rfl) Try.underlying27 Try.sizeOf4 rfl rfl hS (fun _ => ⟨by omega, by omega⟩)) ?_
  refine lw_v rfl rfl (ok_ldx rfl (.s rfl rfl) rfl Try.isAgg4 hS (fun _ => ⟨by omega, by omega⟩) (by rfl)) ?_
  refine lw_v rfl rfl (ok_or rfl rfl rfl rfl) ?_
  refine lw_nil ?_
  refine Ends.keep [(2, .eq _), (7, .eq _), (8, .eq _), (9, .eq _), (10, .eq _), (54, .eq _)] (.cons rfl (.cons rfl (.cons rfl (.cons rfl (.cons rfl (.cons rfl .nil)))))) ?_
  refine ends_then ?_
  refine cw_cond rfl (fun h54 => ?_) (fun h54 => ?_)
  ·
    exact (rows_right hwf hrlen h54).elim
  ·
    refine cw_skip ?_
    refine ends_then ?_
    refine cw_seq ?_
    refine cw_seq ?_
    -- region 5
    refine cw_region ?_
    refine lw_v rfl rfl (ok_move rfl (.n rfl) rfl) ?_
    refine lw_v rfl rfl (ok_len rfl (.n rfl) Try.underlying27 rfl) ?_
    refine lw_v rfl rfl (ok_move rfl (.n rfl) rfl) ?_
    refine lw_nil ?_
    refine Ends.keep [(2, .eq _), (7, .eq _), (8, .eq _), (9, .eq _), (10, .eq _), (56, .eq _), (57, .eq _)] (.cons rfl (.cons rfl (.cons rfl (.cons rfl (.cons rfl (.cons rfl (.cons rfl .nil))))))) ?_
    refine ends_then ?_
    refine cw_block ?_
    -- LOOP at region 6: changed live slots [57], kept [2, 7, 8, 9, 10, 56]
    refine cw_loop [(2, .eq _), (7, .eq _), (8, .eq _), (9, .eq _), (10, .eq _), (56, .eq _)] (fun v : Nat => [(57, .eq (.int .i64 v))]) (fun v w' => v ≤ C.N ∧ St w.heap.size w w' [sl (eInt .i64) 1 A27 C.N c27 (exactF C R 3), sl eBool 1 A24 C.N c24 (reachL C R), bx b7 (csV C q).cells.toList 29, own (eInt .i64) 1 2 A6 R.length c6 R, sl (eInt .i64) 1 q.a0 C.First.length q.c0 C.First, sl (eInt .i64) 1 q.a1 C.Head.length q.c1 C.Head, sl (eInt .i64) 1 q.a2 C.Rev.length q.c2 C.Rev, sl (eInt .i64) 1 q.a3 C.Cap.length q.c3 C.Cap, sl (eInt .i64) 1 q.a4 C.Arc.length q.c4 C.Arc, sl eBool 1 q.a5 C.Back.length q.c5 C.Back, bx b3 (netV n A c).cells.toList 24, sl (eInt .u8) 1 A2 more.length c2 more, sl (eInt .i64) 1 A1 l.length c1 l, sl eArc 3 A n.arcs.length c n.arcs]) (fun v => C.N - v) 0 (.cons rfl (.cons rfl (.cons rfl (.cons rfl (.cons rfl (.cons rfl .nil)))))) (.cons rfl (.cons rfl (.cons rfl (.cons rfl (.cons rfl (.cons rfl (.cons rfl .nil))))))) ⟨Nat.zero_le _, hS⟩ ?_
    clear hS
    rintro v wr ⟨hv, hS⟩
    refine cw_seq ?_
    -- region 6
    refine cw_region ?_
    refine lw_v rfl rfl (ok_lss rfl (.n rfl) rfl rfl) ?_
    refine lw_nil ?_
    refine Ends.keep [(2, .eq _), (7, .eq _), (8, .eq _), (9, .eq _), (10, .eq _), (56, .eq _), (57, .eq _), (58, .eq _)] (.cons rfl (.cons rfl (.cons rfl (.cons rfl (.cons rfl (.cons rfl (.cons rfl (.cons rfl .nil)))))))) ?_
    refine ends_then ?_
    refine cw_seq ?_
    refine cw_cond rfl (fun h58 => ?_) (fun h58 => ?_)
    ·
      have hvN : v < C.N := by have := of_decide_eq_true h58; omega
      obtain ⟨hf0, hf1, hf2⟩ := seg_rng hwf hvN
      refine cw_skip ?_
      refine ends_then ?_
      refine cw_seq ?_
      refine cw_block ?_
      refine cw_seq ?_
      -- region 7
      refine cw_region ?_
      refine lw_v rfl rfl (ok_move rfl (.n rfl) rfl) ?_
      refine lw_v rfl rfl (ok_assign rfl (.n rfl) rfl) ?_
      refine lw_nil ?_
      refine Ends.keep [(2, .eq _), (7, .eq _), (8, .eq _), (9, .eq _), (10, .eq _), (11, .eq _), (56, .eq _), (57, .eq _)] (.cons rfl (.cons rfl (.cons rfl (.cons rfl (.cons rfl (.cons rfl (.cons rfl (.cons rfl .nil)))))))) ?_
      refine ends_then ?_
      refine cw_seq ?_
      -- region 8
      refine cw_region ?_
      refine lw_v rfl rfl (ok_move rfl (.n rfl) rfl) ?_
      refine lw_v rfl rfl (ok_fb rfl (.n rfl) Try.underlying29 rfl Try.sizeOf3 (by decide) rfl) ?_
      refine lw_v rfl rfl (ok_eq (ok_ldb rfl (.n rfl) rfl Try.isAgg3 hS (by rfl)) (c' := .int .i64 (C.T : Int)) (fun _ => rfl)) ?_
      refine lw_v rfl rfl (ok_eql rfl (.n rfl) rfl rfl) ?_
      refine lw_v rfl rfl (ok_assign rfl (.n rfl) rfl) ?_
      refine lw_nil ?_
      refine Ends.keep [(2, .eq _), (7, .eq _), (8, .eq _), (9, .eq _), (10, .eq _), (11, .eq _), (12, .eq _), (56, .eq _), (57, .eq _)] (.cons rfl (.cons rfl (.cons rfl (.cons rfl (.cons rfl (.cons rfl (.cons rfl (.cons rfl (.cons rfl .nil))))))))) ?_
      refine ends_then ?_
      refine cw_seq ?_
      refine cw_seq ?_
      -- region 9
      refine cw_region ?_
      refine lw_v rfl rfl (ok_fb rfl (.n rfl) Try.underlying29 rfl Try.sizeOf26 (by decide) rfl) ?_
      refine lw_v rfl rfl (ok_ldb rfl (.n rfl) rfl Try.isAgg26 hS (by rfl)) ?_
      refine lw_v rfl rfl (ok_move rfl (.n rfl) rfl) ?_
      refine lw_v rfl rfl (ok_ix rfl (.n rfl) Try.underlying26 Try.sizeOf3 rfl rfl hS (fun _ => ⟨by omega, by omega⟩)) ?_
      refine lw_v rfl rfl (ok_eq (ok_ldx rfl (.n rfl) rfl Try.isAgg3 hS (fun _ => ⟨by omega, by omega⟩) (by rfl)) (c' := .int .i64 (((C.First.getD v 0).toNat : Nat) : Int)) (fun _ => congrArg (Value.int .i64) (Int.toNat_of_nonneg hf0).symm)) ?_
      refine lw_v rfl rfl (ok_assign rfl (.n rfl) rfl) ?_
      refine lw_nil ?_
      refine Ends.keep [(2, .eq _), (7, .eq _), (8, .eq _), (9, .eq _), (10, .eq _), (11, .eq _), (12, .eq _), (13, .eq _), (56, .eq _), (57, .eq _)] (.cons rfl (.cons rfl (.cons rfl (.cons rfl (.cons rfl (.cons rfl (.cons rfl (.cons rfl (.cons rfl (.cons rfl .nil)))))))))) ?_
      refine ends_then ?_
      refine cw_block ?_
      -- LOOP at region 10: changed live slots [12, 13], kept [2, 7, 8, 9, 10, 11, 56, 57]
      refine cw_loop2 [(2, .eq _), (7, .eq _), (8, .eq _), (9, .eq _), (10, .eq _), (11, .eq _), (56, .eq _), (57, .eq _)] (fun (a : Nat) (b : Bool) => [(12, .eq (.bool b)), (13, .eq (.int .i64 a))]) (fun a b w' => (b = someTo C R v a ∧ C.First.getD v 0 ≤ a ∧ a ≤ C.First.getD (v + 1) 0) ∧ St w.heap.size w w' [sl (eInt .i64) 1 A27 C.N c27 (exactF C R 3), sl eBool 1 A24 C.N c24 (reachL C R), bx b7 (csV C q).cells.toList 29, own (eInt .i64) 1 2 A6 R.length c6 R, sl (eInt .i64) 1 q.a0 C.First.length q.c0 C.First, sl (eInt .i64) 1 q.a1 C.Head.length q.c1 C.Head, sl (eInt .i64) 1 q.a2 C.Rev.length q.c2 C.Rev, sl (eInt .i64) 1 q.a3 C.Cap.length q.c3 C.Cap, sl (eInt .i64) 1 q.a4 C.Arc.length q.c4 C.Arc, sl eBool 1 q.a5 C.Back.length q.c5 C.Back, bx b3 (netV n A c).cells.toList 24, sl (eInt .u8) 1 A2 more.length c2 more, sl (eInt .i64) 1 A1 l.length c1 l, sl eArc 3 A n.arcs.length c n.arcs]) (fun a _ => (C.First.getD (v + 1) 0 - a).toNat) (C.First.getD v 0).toNat (decide ((v : Int) = (C.T : Int))) (.cons rfl (.cons rfl (.cons rfl (.cons rfl (.cons rfl (.cons rfl (.cons rfl (.cons rfl .nil)))))))) (.cons rfl (.cons rfl (.cons rfl (.cons rfl (.cons rfl (.cons rfl (.cons rfl (.cons rfl (.cons rfl (.cons rfl .nil)))))))))) ⟨⟨some_start hf0, by omega, by omega⟩, hS⟩ ?_
      clear hS
      rintro a b wr2 ⟨⟨hb, ha0, ha1⟩, hS⟩
      refine cw_seq ?_
      refine cw_seq ?_
      -- region 10
      refine cw_region ?_
      refine lw_v rfl rfl (ok_move rfl (.n rfl) rfl) ?_
      refine lw_v rfl rfl (ok_fb rfl (.n rfl) Try.underlying29 rfl Try.sizeOf26 (by decide) rfl) ?_
      refine lw_v rfl rfl (ok_ldb rfl (.n rfl) rfl Try.isAgg26 hS (by rfl)) ?_
      refine lw_v rfl rfl (ok_move rfl (.n rfl) rfl) ?_
      refine lw_v rfl rfl (ok_addi rfl (.n rfl) rfl rfl (fun _ => ⟨by omega, by omega⟩)) ?_
      refine lw_v rfl rfl (ok_ix rfl (.n rfl) Try.underlying26 Try.sizeOf3 rfl rfl hS (fun _ => ⟨by omega, by omega⟩)) ?_
      refine lw_v rfl rfl (ok_eq (ok_ldx rfl (.n rfl) rfl Try.isAgg3 hS (fun _ => ⟨by omega, by omega⟩) (by rfl)) (c' := .int .i64 (C.First.getD (v + 1) 0)) (fun _ => rfl)) ?_
      refine lw_v rfl rfl (ok_lss rfl (.n rfl) rfl rfl) ?_
      refine lw_nil ?_
      refine Ends.keep [(2, .eq _), (7, .eq _), (8, .eq _), (9, .eq _), (10, .eq _), (11, .eq _), (12, .eq _), (13, .eq _), (56, .eq _), (57, .eq _), (76, .eq _)] (.cons rfl (.cons rfl (.cons rfl (.cons rfl (.cons rfl (.cons rfl (.cons rfl (.cons rfl (.cons rfl (.cons rfl (.cons rfl .nil))))))))))) ?_
      refine ends_then ?_
      refine cw_cond rfl (fun h76 => ?_) (fun h76 => ?_)
      ·
        have haE : (a : Int) < C.First.getD (v + 1) 0 := of_decide_eq_true h76
        have haM : a < C.Head.length := by omega
        obtain ⟨hd1, hd2⟩ := hwf.hd a haM
        have eH : C.Head.getD (a : Int).toNat 0 = C.Head.getD a 0 := rfl
        rw [← eH] at hd1 hd2
        have hrchead : (reachL C R).getD (C.Head.getD a 0).toNat false = decide ((exactL C R).getD (C.Head.getD a 0).toNat 0 < (C.N : Int)) := reach_get hwf hrlen (by omega)
        refine cw_skip ?_
        refine ends_then ?_
        refine cw_seq ?_
        refine cw_block ?_
        -- region 12
        refine cw_region ?_
        refine lw_v rfl rfl (ok_move rfl (.n rfl) rfl) ?_
        refine lw_v rfl rfl (ok_move rfl (.n rfl) rfl) ?_
        refine lw_v rfl rfl (ok_move rfl (.s rfl rfl) rfl) ?_
        refine lw_v rfl rfl (ok_move rfl (.s rfl rfl) rfl) ?_
        refine lw_v rfl rfl (ok_ix rfl (.s rfl rfl) Try.underlying25 Try.sizeOf2 rfl rfl hS (fun _ => ⟨by omega, by omega⟩)) ?_
        refine lw_v rfl rfl (ok_ldx rfl (.s rfl rfl) rfl Try.isAgg2 hS (fun _ => ⟨by omega, by omega⟩) (by rfl)) ?_
        refine lw_v rfl rfl (ok_gtr rfl (.s rfl rfl) rfl rfl) ?_
        refine lw_v rfl rfl (ok_move rfl (.s rfl rfl) rfl) ?_
        refine lw_v rfl rfl (ok_move rfl (.s rfl rfl) rfl) ?_
        refine lw_v rfl rfl (ok_fb rfl (.s rfl rfl) Try.underlying29 rfl Try.sizeOf26 (by decide) rfl) ?_
        refine lw_v rfl rfl (ok_ldb rfl (.s rfl rfl) rfl Try.isAgg26 hS (by rfl)) ?_
        refine lw_v rfl rfl (ok_move rfl (.s rfl rfl) rfl) ?_
        refine lw_v rfl rfl (ok_ix rfl (.s rfl rfl) Try.underlying26 Try.sizeOf3 rfl rfl hS (fun _ => ⟨by omega, by omega⟩)) ?_
        refine lw_v rfl rfl (ok_ldx rfl (.s rfl rfl) rfl Try.isAgg3 hS (fun _ => ⟨by omega, by omega⟩) (by rfl)) ?_
        refine lw_v rfl rfl (ok_ix rfl (.s rfl rfl) Try.underlying27 Try.sizeOf4 rfl rfl hS (fun _ => ⟨by omega, by omega⟩)) ?_
        refine lw_v rfl rfl (ok_ldx rfl (.s rfl rfl) rfl Try.isAgg4 hS (fun _ => ⟨by omega, by omega⟩) (by rfl)) ?_
        refine lw_v rfl rfl (ok_andg rfl (.s rfl rfl) rfl rfl) ?_
        refine lw_v rfl rfl (ok_or rfl rfl rfl rfl) ?_
        refine lw_v rfl rfl (ok_assign rfl (.n rfl) rfl) ?_
        refine lw_nil ?_
        refine in_normal (?_)
        refine Ends.keep [(2, .eq _), (7, .eq _), (8, .eq _), (9, .eq _), (10, .eq _), (11, .eq _), (12, .eq _), (13, .eq _), (56, .eq _), (57, .eq _)] (.cons rfl (.cons rfl (.cons rfl (.cons rfl (.cons rfl (.cons rfl (.cons rfl (.cons rfl (.cons rfl (.cons rfl .nil)))))))))) ?_
        refine ends_then ?_
        -- region 11
        refine cw_region ?_
        refine lw_v rfl rfl (ok_move rfl (.n rfl) rfl) ?_
        refine lw_v rfl rfl (ok_addi rfl (.n rfl) rfl rfl (fun _ => ⟨by omega, by omega⟩)) ?_
        refine lw_v rfl rfl (ok_assign rfl (.n rfl) rfl) ?_
        refine lw_nil ?_
        -- BACK
        refine ends_back2 (a + 1) _ (.cons rfl (.cons rfl (.cons rfl (.cons rfl (.cons rfl (.cons rfl (.cons rfl (.cons rfl (.cons rfl (.cons rfl .nil)))))))))) ⟨⟨?_, by omega, by omega⟩, hS⟩ (by omega)
        rw [hb]
        exact someTo_step ha0 hrchead
      ·
        have haE : (a : Int) = C.First.getD (v + 1) 0 := by have := of_decide_eq_false h76; omega
        refine cw_exit ?_
        refine then_exit (then_exit (in_exit (?_)))
        refine Ends.keep [(2, .eq _), (7, .eq _), (8, .eq _), (9, .eq _), (10, .eq _), (11, .eq _), (12, .eq _), (56, .eq _), (57, .eq _)] (.cons rfl (.cons rfl (.cons rfl (.cons rfl (.cons rfl (.cons rfl (.cons rfl (.cons rfl (.cons rfl .nil))))))))) ?_
        refine ends_then ?_
        refine cw_seq ?_
        -- region 13
        refine cw_draw (by kernel_rfl) (List.take 23 _) (List.drop 23 _) (List.take_append_drop 23 _).symm (by kernel_rfl) ?_
        refine free_v (ok_move rfl (.n rfl) rfl) ?_
        refine free_v (ok_fb rfl (.n rfl) Try.underlying29 rfl Try.sizeOf3 (by decide) rfl) ?_
        refine free_v (ok_eq (ok_ldb rfl (.n rfl) rfl Try.isAgg3 hS (by rfl)) (c' := .int .i64 (C.S : Int)) (fun _ => rfl)) ?_
        refine free_v (ok_neq rfl (.n rfl) rfl rfl) ?_
        refine free_v (ok_move rfl (.n rfl) rfl) ?_
        refine free_v (ok_move rfl (.s rfl rfl) rfl) ?_
        refine free_v (ok_move rfl (.s rfl rfl) rfl) ?_
        refine free_v (ok_ix rfl (.s rfl rfl) Try.underlying27 Try.sizeOf4 rfl rfl hS (fun _ => ⟨by omega, by omega⟩)) ?_
        refine free_v (ok_ldx rfl (.s rfl rfl) rfl Try.isAgg4 hS (fun _ => ⟨by omega, by omega⟩) (by rfl)) ?_
        refine free_v (ok_move rfl (.s rfl rfl) rfl) ?_
        refine free_v (ok_neb rfl (.s rfl rfl) Try.underlying4 rfl rfl) ?_
        refine free_v (ok_move rfl (.s rfl rfl) rfl) ?_
        refine free_v (ok_move rfl (.s rfl rfl) rfl) ?_
        refine free_v (ok_move rfl (.s rfl rfl) rfl) ?_
        refine free_v (ok_ix rfl (.s rfl rfl) Try.underlying27 Try.sizeOf4 rfl rfl hS (fun _ => ⟨by omega, by omega⟩)) ?_
        refine free_v (ok_ldx rfl (.s rfl rfl) rfl Try.isAgg4 hS (fun _ => ⟨by omega, by omega⟩) (by rfl)) ?_
        refine free_v (ok_move rfl (.s rfl rfl) rfl) ?_
        refine free_v (ok_move rfl (.s rfl rfl) rfl) ?_
        refine free_v (ok_ix rfl (.s rfl rfl) Try.underlying26 Try.sizeOf3 rfl rfl hS (fun _ => ⟨by omega, by omega⟩)) ?_
        refine free_v (ok_ldx rfl (.s rfl rfl) rfl Try.isAgg3 hS (fun _ => ⟨by omega, by omega⟩) (by rfl)) ?_
        refine free_v (ok_fb rfl (.s rfl rfl) Try.underlying29 rfl Try.sizeOf3 (by decide) rfl) ?_
        refine free_v (ok_eq (ok_ldb rfl (.s rfl rfl) rfl Try.isAgg3 hS (by rfl)) (c' := .int .i64 (C.N : Int)) (fun _ => rfl)) ?_
        refine free_v (ok_lss rfl (.s rfl rfl) rfl rfl) ?_
        refine free_nil ?_
        intro w4 hg_; replace hS := hS.grow hg_; clear hg_
        refine lw_v rfl rfl (ok_neb rfl (.s rfl rfl) Try.underlying4 rfl rfl) ?_
        refine lw_v rfl rfl (ok_org rfl (.s rfl rfl) rfl rfl) ?_
        refine lw_v rfl rfl (ok_and rfl rfl rfl rfl) ?_
        refine lw_nil ?_
        refine Ends.keep [(2, .eq _), (7, .eq _), (8, .eq _), (9, .eq _), (10, .eq _), (56, .eq _), (57, .eq _), (122, .eq _)] (.cons rfl (.cons rfl (.cons rfl (.cons rfl (.cons rfl (.cons rfl (.cons rfl (.cons rfl .nil)))))))) ?_
        refine ends_then ?_
        refine cw_cond rfl (fun h122 => ?_) (fun h122 => ?_)
        ·
          exact (some_right hwf hrlen hvN haE hb h122).elim
        ·
          refine cw_skip ?_
          refine in_normal (?_)
          refine ends_then ?_
          -- region 15
          refine cw_region ?_
          refine lw_v rfl rfl (ok_addi rfl (.n rfl) rfl rfl (fun _ => ⟨by omega, by omega⟩)) ?_
          refine lw_v rfl rfl (ok_move rfl (.n rfl) rfl) ?_
          refine lw_nil ?_
          -- BACK
          refine ends_back (v + 1) (.cons rfl (.cons rfl (.cons rfl (.cons rfl (.cons rfl (.cons rfl (.cons rfl .nil))))))) ⟨by omega, hS⟩ (by omega)
    ·
      refine cw_exit ?_
      refine then_exit (then_exit (in_exit (?_)))
      refine Ends.keep [(2, .eq _), (7, .eq _), (8, .eq _), (9, .eq _), (10, .eq _)] (.cons rfl (.cons rfl (.cons rfl (.cons rfl (.cons rfl .nil))))) ?_
      refine ends_then ?_
      refine cw_seq ?_
      refine cw_seq ?_
      -- region 16
      refine cw_region ?_
      refine lw_v rfl rfl (ok_move rfl (.n rfl) rfl) ?_
      refine lw_v rfl rfl (ok_len rfl (.n rfl) Try.underlying25 rfl) ?_
      refine lw_v rfl rfl (ok_move rfl (.n rfl) rfl) ?_
      refine lw_nil ?_
      refine Ends.keep [(2, .eq _), (7, .eq _), (8, .eq _), (9, .eq _), (10, .eq _), (125, .eq _), (126, .eq _)] (.cons rfl (.cons rfl (.cons rfl (.cons rfl (.cons rfl (.cons rfl (.cons rfl .nil))))))) ?_
      refine ends_then ?_
      refine cw_block ?_
      -- LOOP at region 17: changed live slots [126], kept [2, 7, 8, 9, 10, 125]
      refine cw_loop [(2, .eq _), (7, .eq _), (8, .eq _), (9, .eq _), (10, .eq _), (125, .eq _)] (fun k : Nat => [(126, .eq (.int .i64 k))]) (fun k w' => ∃ Y, (k ≤ R.length ∧ YI R Y k) ∧ St w.heap.size w w' [sl (eInt .i64) 1 A27 C.N c27 (exactF C R 3), sl eBool 1 A24 C.N c24 (reachL C R), bx b7 (csV C q).cells.toList 29, own (eInt .i64) 1 2 A6 R.length c6 Y, sl (eInt .i64) 1 q.a0 C.First.length q.c0 C.First, sl (eInt .i64) 1 q.a1 C.Head.length q.c1 C.Head, sl (eInt .i64) 1 q.a2 C.Rev.length q.c2 C.Rev, sl (eInt .i64) 1 q.a3 C.Cap.length q.c3 C.Cap, sl (eInt .i64) 1 q.a4 C.Arc.length q.c4 C.Arc, sl eBool 1 q.a5 C.Back.length q.c5 C.Back, bx b3 (netV n A c).cells.toList 24, sl (eInt .u8) 1 A2 more.length c2 more, sl (eInt .i64) 1 A1 l.length c1 l, sl eArc 3 A n.arcs.length c n.arcs]) (fun k => R.length - k) 0 (.cons rfl (.cons rfl (.cons rfl (.cons rfl (.cons rfl (.cons rfl .nil)))))) (.cons rfl (.cons rfl (.cons rfl (.cons rfl (.cons rfl (.cons rfl (.cons rfl .nil))))))) ⟨R, ⟨Nat.zero_le _, YI.start R⟩, hS⟩ ?_
      clear hS
      rintro k wr ⟨Y, ⟨hk, hY⟩, hS⟩
      have hYl := hY.len
      refine cw_seq ?_
      -- region 17
      refine cw_region ?_
      refine lw_v rfl rfl (ok_lss rfl (.n rfl) rfl rfl) ?_
      refine lw_nil ?_
      refine Ends.keep [(2, .eq _), (7, .eq _), (8, .eq _), (9, .eq _), (10, .eq _), (125, .eq _), (126, .eq _), (127, .eq _)] (.cons rfl (.cons rfl (.cons rfl (.cons rfl (.cons rfl (.cons rfl (.cons rfl (.cons rfl .nil)))))))) ?_
      refine ends_then ?_
      refine cw_seq ?_
      refine cw_cond rfl (fun h127 => ?_) (fun h127 => ?_)
      ·
        have hkR : k < R.length := by have := of_decide_eq_true h127; omega
        have hYk := hY.rng k
        have hYk2 : Y.getD (k : Int).toNat 0 ≤ R.getD k 0 + 300 := hYk.2
        have hRk := hro.rng k (by omega)
        refine cw_skip ?_
        refine ends_then ?_
        refine cw_seq ?_
        refine cw_block ?_
        refine cw_seq ?_
        -- region 18
        refine cw_region ?_
        refine lw_v rfl rfl (ok_move rfl (.n rfl) rfl) ?_
        refine lw_v rfl rfl (ok_assign rfl (.n rfl) rfl) ?_
        refine lw_nil ?_
        refine Ends.keep [(2, .eq _), (7, .eq _), (8, .eq _), (9, .eq _), (10, .eq _), (14, .eq _), (125, .eq _), (126, .eq _)] (.cons rfl (.cons rfl (.cons rfl (.cons rfl (.cons rfl (.cons rfl (.cons rfl (.cons rfl .nil)))))))) ?_
        refine ends_then ?_
        refine cw_seq ?_
        -- region 19
        refine cw_region ?_
        refine lw_v rfl rfl (ok_move rfl (.n rfl) rfl) ?_
        refine lw_v rfl rfl (ok_move rfl (.n rfl) rfl) ?_
        refine lw_v rfl rfl (ok_ix rfl (.n rfl) Try.underlying25 Try.sizeOf2 rfl rfl hS (fun _ => ⟨by omega, by omega⟩)) ?_
        refine lw_v rfl rfl (ok_ldx rfl (.n rfl) rfl Try.isAgg2 hS (fun _ => ⟨by omega, by omega⟩) (by rfl)) ?_
        refine lw_v rfl rfl (ok_gtr rfl (.n rfl) rfl rfl) ?_
        refine lw_v rfl rfl (ok_move rfl (.n rfl) rfl) ?_
        refine lw_v rfl rfl (ok_move rfl (.s rfl rfl) rfl) ?_
        refine lw_v rfl rfl (ok_move rfl (.s rfl rfl) rfl) ?_
        refine lw_v rfl rfl (ok_len rfl (.s rfl rfl) Try.underlying51 rfl) ?_
        refine lw_v rfl rfl (ok_lss rfl (.s rfl rfl) rfl rfl) ?_
        refine lw_v rfl rfl (ok_and rfl rfl rfl rfl) ?_
        refine lw_nil ?_
        refine Ends.keep [(2, .eq _), (7, .eq _), (8, .eq _), (9, .eq _), (10, .eq _), (14, .eq _), (125, .eq _), (126, .eq _), (139, .eq _)] (.cons rfl (.cons rfl (.cons rfl (.cons rfl (.cons rfl (.cons rfl (.cons rfl (.cons rfl (.cons rfl .nil))))))))) ?_
        refine ends_then ?_
        refine cw_cond rfl (fun h139 => ?_) (fun h139 => ?_)
        ·
          rw [Bool.and_eq_true, decide_eq_true_eq, decide_eq_true_eq] at h139
          obtain ⟨hpos0, hkm⟩ := h139
          have hpos : 0 < Y.getD k 0 := hpos0
          have hmk : 0 ≤ more.getD (k : Int).toNat 0 ∧ more.getD (k : Int).toNat 0 ≤ 255 := hrgm _ (getD_memI (by omega))
          -- region 20
          refine cw_draw (by kernel_rfl) (List.take 9 _) (List.drop 9 _) (List.take_append_drop 9 _).symm (by kernel_rfl) ?_
          refine free_v (ok_move rfl (.n rfl) rfl) ?_
          refine free_v (ok_move rfl (.n rfl) rfl) ?_
          refine free_v (ok_ix rfl (.n rfl) Try.underlying25 Try.sizeOf2 rfl rfl hS (fun _ => ⟨by omega, by omega⟩)) ?_
          refine free_v (ok_ldx rfl (.n rfl) rfl Try.isAgg2 hS (fun _ => ⟨by omega, by omega⟩) (by rfl)) ?_
          refine free_v (ok_move rfl (.n rfl) rfl) ?_
          refine free_v (ok_move rfl (.n rfl) rfl) ?_
          refine free_v (ok_ix rfl (.n rfl) Try.underlying51 Try.sizeOf5 rfl rfl hS (fun _ => ⟨by omega, by omega⟩)) ?_
          refine free_v (ok_ldx rfl (.n rfl) rfl Try.isAgg5 hS (fun _ => ⟨by omega, by omega⟩) (by rfl)) ?_
          refine free_v (ok_eq (ok_conv rfl (.n rfl) Try.underlying5 Try.underlying2 rfl) (c' := .int .i64 (more.getD (k : Int).toNat 0)) (fun _ => congrArg (Value.int .i64) (wrap_in ⟨by omega, by omega⟩))) ?_
          refine free_nil ?_
          intro w5 hg_; replace hS := hS.grow hg_; clear hg_
          refine lw_v rfl rfl (ok_addi rfl (.n rfl) rfl rfl (fun _ => ⟨by omega, by omega⟩)) ?_
          refine lw_v rfl rfl (ok_ix rfl (.n rfl) Try.underlying25 Try.sizeOf2 rfl rfl hS (fun _ => ⟨by omega, by omega⟩)) ?_
          refine lw_stx (enc := (eInt .i64)) (_) rfl rfl rfl rfl rfl rfl Try.sizeOf2 hS (⟨by omega, by omega⟩) ?_
          clear hS; intro w6 hS
          refine lw_nil ?_
          refine in_normal (?_)
          refine Ends.keep [(2, .eq _), (7, .eq _), (8, .eq _), (9, .eq _), (10, .eq _), (125, .eq _), (126, .eq _)] (.cons rfl (.cons rfl (.cons rfl (.cons rfl (.cons rfl (.cons rfl (.cons rfl .nil))))))) ?_
          refine ends_then ?_
          -- region 21
          refine cw_region ?_
          refine lw_v rfl rfl (ok_addi rfl (.n rfl) rfl rfl (fun _ => ⟨by omega, by omega⟩)) ?_
          refine lw_v rfl rfl (ok_move rfl (.n rfl) rfl) ?_
          refine lw_nil ?_
          -- BACK
          refine ends_back (k + 1) (.cons rfl (.cons rfl (.cons rfl (.cons rfl (.cons rfl (.cons rfl (.cons rfl .nil))))))) ⟨_, ⟨by omega, hY.inc hkR hpos (by omega) (by omega)⟩, hS⟩ (by omega)
        ·
          refine cw_skip ?_
          refine in_normal (?_)
          refine ends_then ?_
          -- region 21
          refine cw_region ?_
          refine lw_v rfl rfl (ok_addi rfl (.n rfl) rfl rfl (fun _ => ⟨by omega, by omega⟩)) ?_
          refine lw_v rfl rfl (ok_move rfl (.n rfl) rfl) ?_
          refine lw_nil ?_
          -- BACK
          refine ends_back (k + 1) (.cons rfl (.cons rfl (.cons rfl (.cons rfl (.cons rfl (.cons rfl (.cons rfl .nil))))))) ⟨_, ⟨by omega, hY.skip⟩, hS⟩ (by omega)
      ·
        have hed : ∀ a, a < C.Head.length → (0 < R.getD a 0 ↔ 0 < Y.getD a 0) := fun a _ => (hY.rng a).1
        have hsame1 := reach_same hwf hrlen (by omega : Y.length = C.Head.length) hed
        have hsame2 := exact_same (wk := 1) (wk' := 3) hrlen (by omega : Y.length = C.Head.length) hed ⟨by omega, by omega⟩ ⟨by omega, by omega⟩
        refine cw_exit ?_
        refine then_exit (then_exit (in_exit (?_)))
        refine Ends.keep [(7, .eq _), (8, .eq _), (9, .eq _), (10, .eq _)] (.cons rfl (.cons rfl (.cons rfl (.cons rfl .nil)))) ?_
        refine ends_then ?_
        refine cw_seq ?_
        -- region 22
        refine cw_region ?_
        refine lw_v rfl rfl (ok_ldS rfl (.n rfl) rfl Try.isAgg29 Try.sizeOf29 hS rfl) ?_
        refine lw_v rfl rfl (ok_move rfl (.n rfl) rfl) ?_
        refine lw_call (f := 60) (xs := [_, _]) rfl rfl rfl Try.call60 rfl (Calls.mono (f60 C q Y A6 c6 _ hwf (hS.cs q) (hS.rd A6 (by omega))) ?_)
        rintro e w' ⟨A154, c154, rfl, hg, hfr, ho⟩
        rw [hsame1, hrl] at hfr ho
        replace hS := hS.new hg _ ho hfr; clear hg ho hfr
        replace hS := hS.freeze .here (by omega)
        rw [hsame1, hrl]
        refine ⟨_, rfl, ?_⟩
        refine lw_v rfl rfl (ok_move rfl (.n rfl) rfl) ?_
        refine lw_call (f := 61) (xs := [_, _]) rfl rfl rfl Try.call61 rfl (Calls.mono (f61s A154 c154 A24 c24 (reachL C R) _ (hS.rd A154 (by omega)) (hS.rd A24 (by omega))) ?_)
        rintro e w' ⟨rfl, hg⟩
        replace hS := hS.grow hg; clear hg
        refine ⟨_, rfl, ?_⟩
        refine lw_v rfl rfl (ok_move rfl (.n rfl) rfl) ?_
        refine lw_on (.s rfl rfl) rfl ?_
        refine lw_v rfl rfl (ok_ldS rfl (.n rfl) rfl Try.isAgg29 Try.sizeOf29 hS rfl) ?_
        refine lw_on (.s rfl rfl) rfl ?_
        refine lw_v rfl rfl (ok_move rfl (.n rfl) rfl) ?_
        refine lw_on (.s rfl rfl) rfl ?_
        refine lw_call (f := 44) (xs := [_, _, _]) rfl rfl rfl Try.call44 rfl (Calls.mono (f44 C q Y A6 c6 1 _ hwf (hS.cs q) (hS.rd A6 (by omega))) ?_)
        rintro e w' ⟨A160, c160, rfl, hg, hfr, ho, _⟩
        rw [hsame2, hxl] at hfr ho
        replace hS := hS.new hg _ ho hfr; clear hg ho hfr
        replace hS := hS.freeze .here (by omega)
        rw [hsame2, hxl]
        refine ⟨_, rfl, ?_⟩
        refine lw_on (.s rfl rfl) rfl ?_
        refine lw_v rfl rfl (ok_move rfl (.n rfl) rfl) ?_
        refine lw_on (.s rfl rfl) rfl ?_
        refine lw_call (f := 30) (xs := [_, _]) rfl rfl rfl Try.call30 rfl (Calls.mono (f30s A160 c160 A27 c27 (exactF C R 3) _ (hS.rd A160 (by omega)) (hS.rd A27 (by omega))) ?_)
        rintro e w' ⟨rfl, hg⟩
        replace hS := hS.grow hg; clear hg
        refine ⟨_, rfl, ?_⟩
        refine lw_v rfl rfl (ok_pick rfl rfl rfl rfl rfl) ?_
        refine lw_v rfl rfl (ok_move rfl (.n rfl) rfl) ?_
        refine lw_on (.s rfl rfl) rfl ?_
        refine lw_call (f := 47) (xs := []) rfl rfl rfl Try.call47 rfl (Calls.mono (f47 _) ?_)
        rintro e w' ⟨rfl, hg⟩
        replace hS := hS.grow hg; clear hg
        refine ⟨_, rfl, ?_⟩
        refine lw_v rfl rfl (ok_pick rfl rfl rfl rfl rfl) ?_
        refine lw_v rfl rfl (ok_assign rfl (.n rfl) rfl) ?_
        refine lw_nil ?_
        refine Ends.keep [(6, .eq _)] (.cons rfl .nil) ?_
        refine ends_then ?_
        refine cw_ret ?_
        exact end_ret (res1 Try.results21 rfl) ⟨rfl, hS.below⟩

end Go.Proofs.Ytnpgeohkmdcbkaa.Aq
