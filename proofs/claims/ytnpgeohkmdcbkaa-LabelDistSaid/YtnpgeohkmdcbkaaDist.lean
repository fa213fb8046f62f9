/- The walks of the package dist: To and From. -/
import Derived.Test.YtnpgeohkmdcbkaaRep
import Derived.Test.YtnpgeohkmdcbkaaEng15
namespace Go.Proofs.Ytnpgeohkmdcbkaa.Aq
open Go Go.RowKit

theorem pl91 : ∀ w, (#[({ name := "c", type := 29, offset := 0, embedded := false, tag := "", pkgPath := "acequia/dist", byteOffset := 0 } : Field), { name := "goes", type := 83, offset := 9, embedded := false, tag := "", pkgPath := "acequia/dist", byteOffset := 168 }].mapM fun (f : Field) => do pure (f.offset, ← sizeOf f.type)).run Try.prog w = .ok #[(0, 9), (9, 1)] w := by
  intro w
  simp [Try.sizeOf29, Try.sizeOf83]
set_option maxRecDepth 10000 in
/-- dist.right. -/
theorem f79 (c : Cs) (q : Q6) (res : List Int) (v : Int) {m : Nat} (A1 : Option Addr) (c1 : Nat) (w : World) (hwf : WF c) (hc : CsAt c q w) (hr : (sl (eInt .i64) 1 A1 m c1 res).p w) : RetV 79 [csV c q, .slice A1 m c1, .int .i64 v] w (.bool (inB c res v)) := by
  refine calls_cw Try.func79 rfl Try.ntmps79 rfl ?_
  have hS := (St.ofc hc).args (Nat.le_refl _) _ hr rfl
  have hM := hwf.m
  have hN := hwf.hi
  have hlo := hwf.lo
  have hfl := hwf.fl
  have hrr := hr.2.1
  have hrl := hr.1.1
  have hrvl := hwf.rl
  refine cw_seq ?_
  -- region 0
  refine cw_region ?_
  refine lw_box rfl rfl rfl rfl hS ?_
  clear hS; intro b3 w1 _ _ hS
  refine lw_v rfl rfl (ok_assign rfl (.n rfl) rfl) ?_
  refine lw_nil ?_
  refine Ends.keep [(1, .eq _), (2, .eq _), (3, .eq _)] (.cons rfl (.cons rfl (.cons rfl .nil))) ?_
  refine ends_then ?_
  refine cw_seq ?_
  -- region 1
  refine cw_region ?_
  refine lw_v rfl rfl (ok_move rfl (.n rfl) rfl) ?_
  refine lw_v rfl rfl (ok_len rfl (.n rfl) Try.underlying25 rfl) ?_
  refine lw_v rfl rfl (ok_ldS rfl (.n rfl) rfl Try.isAgg29 Try.sizeOf29 hS rfl) ?_
  refine lw_call (f := 77) (xs := [_]) rfl rfl rfl Try.call77 rfl (Calls.mono (f77 c q _) ?_)
  rintro e w' ⟨rfl, hg⟩
  replace hS := hS.grow hg; clear hg
  refine ⟨_, rfl, ?_⟩
  refine lw_v rfl rfl (ok_eql rfl (.n rfl) rfl rfl) ?_
  refine lw_v rfl rfl (ok_move rfl (.n rfl) rfl) ?_
  refine lw_v rfl rfl (ok_move rfl (.s rfl rfl) rfl) ?_
  refine lw_v rfl rfl (ok_geq rfl (.s rfl rfl) rfl rfl) ?_
  refine lw_v rfl rfl (ok_and rfl rfl rfl rfl) ?_
  refine lw_v rfl rfl (ok_move rfl (.n rfl) rfl) ?_
  refine lw_v rfl rfl (ok_move rfl (.s rfl rfl) rfl) ?_
  refine lw_v rfl rfl (ok_fb rfl (.s rfl rfl) Try.underlying29 rfl Try.sizeOf3 (by decide) rfl) ?_
  refine lw_v rfl rfl (ok_ldb rfl (.s rfl rfl) rfl Try.isAgg3 hS (by rfl)) ?_
  refine lw_v rfl rfl (ok_lss rfl (.s rfl rfl) rfl rfl) ?_
  refine lw_v rfl rfl (ok_and rfl rfl rfl rfl) ?_
  refine lw_v rfl rfl (ok_assign rfl (.n rfl) rfl) ?_
  refine lw_nil ?_
  refine Ends.keep [(6, .eq _)] (.cons rfl .nil) ?_
  refine ends_then ?_
  refine cw_ret ?_
  exact end_ret (res1 Try.results79 rfl) ⟨by unfold inB; rw [hrl], hS.below⟩

set_option maxRecDepth 10000 in
/-- dist.To's closure. -/
theorem f80 (c : Cs) (q : Q6) (res : List Int) (a m b1 b2 : Nat) (A1 : Option Addr) (c1 : Nat) (w : World) (hwf : WF c) (hc : CsAt c q w) (hr : (sl (eInt .i64) 1 A1 m c1 res).p w) (hb1 : (rbx b1 [.slice A1 m c1] 25).p w) (hb2 : (rbx b2 (csV c q).cells.toList 29).p w) (hm : res.length = c.Head.length) (ha : a < c.Head.length) :
    RetV 80 [.int .i64 a, .pointer (some ⟨b1, 0, none⟩), .pointer (some ⟨b2, 0, none⟩)] w (.bool (decide (0 < res.getD (c.Rev.getD a 0).toNat 0))) := by
  refine calls_cw Try.func80 rfl Try.ntmps80 rfl ?_
  have hS := (((St.ofc hc).args (Nat.le_refl _) _ hr rfl).args (Nat.le_refl _) (rbx b1 [.slice A1 m c1] 25) hb1 rfl).args (Nat.le_refl _) (rbx b2 (csV c q).cells.toList 29) hb2 rfl
  have hrv : 0 ≤ c.Rev.getD (a : Int).toNat 0 ∧ c.Rev.getD (a : Int).toNat 0 < c.Head.length := hwf.rv a ha
  have hrvl := hwf.rl
  have hrl := hr.1.1
  refine cw_seq ?_
  -- region 0
  refine cw_region ?_
  refine lw_v rfl rfl (ok_assign rfl (.n rfl) rfl) ?_
  refine lw_nil ?_
  refine Ends.keep [(0, .eq _), (1, .eq _), (2, .eq _)] (.cons rfl (.cons rfl (.cons rfl .nil))) ?_
  refine ends_then ?_
  refine cw_seq ?_
  -- region 1
  refine cw_draw (by kernel_rfl) (List.take 6 _) (List.drop 6 _) (List.take_append_drop 6 _).symm (by kernel_rfl) ?_
  refine free_v (ok_ldb rfl (.n rfl) rfl Try.isAgg25 hS (by rfl)) ?_
  refine free_v (ok_fb rfl (.n rfl) Try.underlying29 rfl Try.sizeOf26 (by decide) rfl) ?_
  refine free_v (ok_ldb rfl (.n rfl) rfl Try.isAgg26 hS (by rfl)) ?_
  refine free_v (ok_move rfl (.n rfl) rfl) ?_
  refine free_v (ok_ix rfl (.n rfl) Try.underlying26 Try.sizeOf3 rfl rfl hS (fun _ => ⟨by omega, by omega⟩)) ?_
  refine free_v (ok_ldx rfl (.n rfl) rfl Try.isAgg3 hS (fun _ => ⟨by omega, by omega⟩) (by rfl)) ?_
  refine free_nil ?_
  intro w1 hg_; replace hS := hS.grow hg_; clear hg_
  refine lw_v rfl rfl (ok_ix rfl (.n rfl) Try.underlying25 Try.sizeOf2 rfl rfl hS (fun _ => ⟨by omega, by omega⟩)) ?_
  refine lw_v rfl rfl (ok_ldx rfl (.n rfl) rfl Try.isAgg2 hS (fun _ => ⟨by omega, by omega⟩) (by rfl)) ?_
  refine lw_v rfl rfl (ok_gtr rfl (.n rfl) rfl rfl) ?_
  refine lw_v rfl rfl (ok_assign rfl (.n rfl) rfl) ?_
  refine lw_nil ?_
  refine Ends.keep [(4, .eq _)] (.cons rfl .nil) ?_
  refine ends_then ?_
  refine cw_ret ?_
  exact end_ret (res1 Try.results80 rfl) ⟨rfl, hS.below⟩

set_option maxRecDepth 10000 in
/-- dist.From's closure. -/
theorem f82 (c : Cs) (res : List Int) (a m b1 : Nat) (A1 : Option Addr) (c1 : Nat) (w : World) (hr : (sl (eInt .i64) 1 A1 m c1 res).p w) (hb1 : (rbx b1 [.slice A1 m c1] 25).p w) (hm : res.length = c.Head.length) (ha : a < c.Head.length) :
    RetV 82 [.int .i64 a, .pointer (some ⟨b1, 0, none⟩)] w (.bool (decide (0 < res.getD a 0))) := by
  refine calls_cw Try.func82 rfl Try.ntmps82 rfl ?_
  have hS := ((St.start w).args (Nat.le_refl _) _ hr rfl).args (Nat.le_refl _) (rbx b1 [.slice A1 m c1] 25) hb1 rfl
  have hrl := hr.1.1
  refine cw_seq ?_
  -- region 0
  refine cw_region ?_
  refine lw_v rfl rfl (ok_assign rfl (.n rfl) rfl) ?_
  refine lw_nil ?_
  refine Ends.keep [(0, .eq _), (1, .eq _)] (.cons rfl (.cons rfl .nil)) ?_
  refine ends_then ?_
  refine cw_seq ?_
  -- region 1
  refine cw_region ?_
  refine lw_v rfl rfl (ok_ldb rfl (.n rfl) rfl Try.isAgg25 hS (by rfl)) ?_
  refine lw_v rfl rfl (ok_move rfl (.n rfl) rfl) ?_
  refine lw_v rfl rfl (ok_ix rfl (.n rfl) Try.underlying25 Try.sizeOf2 rfl rfl hS (fun _ => ⟨by omega, by omega⟩)) ?_
  refine lw_v rfl rfl (ok_ldx rfl (.n rfl) rfl Try.isAgg2 hS (fun _ => ⟨by omega, by omega⟩) (by rfl)) ?_
  refine lw_v rfl rfl (ok_gtr rfl (.n rfl) rfl rfl) ?_
  refine lw_v rfl rfl (ok_assign rfl (.n rfl) rfl) ?_
  refine lw_nil ?_
  refine Ends.keep [(3, .eq _)] (.cons rfl .nil) ?_
  refine ends_then ?_
  refine cw_ret ?_
  exact end_ret (res1 Try.results82 rfl) ⟨rfl, hS.below⟩

def searchV (c : Cs) (q : Q6) (fv : Value) : Value := .agg #[.int .i64 c.N, .int .i64 c.S, .int .i64 c.T, .slice q.a0 c.First.length q.c0, .slice q.a1 c.Head.length q.c1, .slice q.a2 c.Rev.length q.c2, .slice q.a3 c.Cap.length q.c3, .slice q.a4 c.Arc.length q.c4, .slice q.a5 c.Back.length q.c5, fv]
/-- An arc of u that is gone along leads to w. -/
def GoE (c : Cs) (goes : Nat → Bool) (u w : Nat) : Prop := ∃ a : Nat, c.First.getD u 0 ≤ a ∧ (a : Int) < c.First.getD (u + 1) 0 ∧ (c.Head.getD a 0).toNat = w ∧ goes a = true
/-- The same, of the arcs ahead of a. -/
def PA (c : Cs) (goes : Nat → Bool) (u a w : Nat) : Prop := ∃ b : Nat, c.First.getD u 0 ≤ b ∧ b < a ∧ (c.Head.getD b 0).toNat = w ∧ goes b = true
theorem row_at {N : Nat} {G : Nat → Nat → Prop} {s : Nat} {D row : List Int} {i : Nat} {P : Nat → Prop} (b : Bfs N G s D row i P) (hi : i < row.length) : ∃ u : Nat, row.getD i 0 = (u : Int) ∧ u < N := by
  have := b.mem (row.getD i 0) (getD_memI hi)
  exact ⟨(row.getD i 0).toNat, by omega, by omega⟩
theorem head_at {c : Cs} (hw : WF c) {a : Nat} (ha : a < c.Head.length) : ∃ x : Nat, c.Head.getD a 0 = (x : Int) ∧ x < c.N := by
  have := hw.hd a ha
  exact ⟨(c.Head.getD a 0).toNat, by omega, by omega⟩
theorem pa_step {c : Cs} {goes : Nat → Bool} {u a x y : Nat} (hp : PA c goes u (a + 1) y) (hx : c.Head.getD a 0 = (x : Int)) : PA c goes u a y ∨ y = x := by
  obtain ⟨b, h1, h2, h3, h4⟩ := hp
  rcases Nat.lt_or_ge b a with h | h
  · exact .inl ⟨b, h1, h, h3, h4⟩
  · have : b = a := by omega
    subst this
    right; rw [← h3, hx]; rfl
theorem pa_old {c : Cs} {goes : Nat → Bool} {N s u a x y i : Nat} {G : Nat → Nat → Prop} {D row : List Int} {P : Nat → Prop} (b : Bfs N G s D row i P) (hi : i < row.length) (hy : y < N) (hp : PA c goes u (a + 1) y) (hx : c.Head.getD a 0 = (x : Int)) (hxN : x < N)
    (h : (decide (D.getD (x : Int).toNat 0 < (N : Int)) || !goes a) = true) (hP : P = PA c goes u a := by rfl) : P y ∨ D.getD y 0 ≤ D.getD (row.getD i 0).toNat 0 + 1 := by
  obtain ⟨e, h1, h2, h3, h4⟩ := hp
  rcases Nat.lt_or_ge e a with h5 | h5
  · left; rw [hP]; exact ⟨e, h1, h5, h3, h4⟩
  · have : e = a := by omega
    subst this
    rw [h4, Bool.not_true, Bool.or_false, decide_eq_true_eq] at h
    have hyx : y = x := by rw [← h3, hx]; rfl
    subst hyx
    exact .inr (b.old hi hy h)
theorem pa_new {g : Bool} {x y : Int} (h : (decide (x < y) || !g) = false) : ¬ x < y ∧ g = true := by
  rw [Bool.or_eq_false_iff, decide_eq_false_iff_not] at h
  exact ⟨h.1, by simpa using h.2⟩
set_option maxRecDepth 10000 in
/-- dist.search.from. -/
theorem f81 (c : Cs) (q : Q6) (f : FuncId) (caps : Array Value) (goes : Nat → Bool) (v : Nat) (w : World) (hwf : WF c) (hc : CsAt c q w) (hv : v < c.N) (hcall : ∀ args w, (callFunc f args).run Try.prog w = .ok (.enter f args) w)
    (hgo : ∀ (a : Nat) w', Gr w w' → a < c.Head.length → Calls Try.prog f (([.int .i64 (a : Int)] : List Value) ++ caps.toList).toArray w' fun e w2 => e = .returned (.bool (goes a)) ∧ Gr w' w2) :
    RetL 81 [searchV c q (.func (.func f) #[] caps), .int .i64 v] w (lowL c.N (fun u w => GoE c goes w u) (hTo c.N v)) := by
  refine calls_cw Try.func81 rfl Try.ntmps81 rfl ?_
  have hS := St.ofc hc
  have hN := hwf.hi
  have hlo := hwf.lo
  have hfl := hwf.fl
  have hM := hwf.m
  obtain ⟨fv, hfv⟩ : ∃ fv : Value, fv = .func (.func f) #[] caps := ⟨_, rfl⟩
  rw [← hfv]
  refine cw_seq ?_
  -- region 0
  refine cw_region ?_
  refine lw_box rfl rfl rfl rfl hS ?_
  clear hS; intro b2 w1 _ _ hS
  refine lw_v rfl rfl (ok_assign rfl (.n rfl) rfl) ?_
  refine lw_nil ?_
  refine Ends.keep [(1, .eq _), (2, .eq _)] (.cons rfl (.cons rfl .nil)) ?_
  refine ends_then ?_
  refine cw_scope ?_
  refine cw_seq ?_
  -- region 1
  refine cw_region ?_
  refine lw_v rfl rfl (ok_fb rfl (.n rfl) Try.underlying91 rfl Try.sizeOf29 (by decide) rfl) ?_
  refine lw_v rfl rfl (ok_fb rfl (.n rfl) Try.underlying29 rfl Try.sizeOf3 (by decide) rfl) ?_
  refine lw_v rfl rfl (ok_eq (ok_ldb rfl (.n rfl) rfl Try.isAgg3 hS (by rfl)) (c' := .int .i64 (c.N : Int)) (fun _ => rfl)) ?_
  refine lw_ls (enc := (eInt .i64)) [(c.N : Int)] rfl rfl rfl Try.underlying26 Try.sizeOf3 Try.zeroValue3 rfl (by kernel_rfl) rfl (by decide) (by decide) hS ?_
  clear hS; intro A14 c14 w2 _ hS
  refine lw_v rfl rfl (ok_fb rfl (.n rfl) Try.underlying91 rfl Try.sizeOf29 (by decide) rfl) ?_
  refine lw_v rfl rfl (ok_fb rfl (.n rfl) Try.underlying29 rfl Try.sizeOf3 (by decide) rfl) ?_
  refine lw_v rfl rfl (ok_ldb rfl (.n rfl) rfl Try.isAgg3 hS (by rfl)) ?_
  refine lw_call (f := 83) (xs := [_, _]) rfl rfl rfl Try.call83 rfl (Calls.mono (f83 (c.N : Int) A14 c14 c.N (by omega) (by omega) _ (hS.rd A14 (by omega))) ?_)
  rintro e w' ⟨A5, c5, rfl, hg, hfr, ho⟩
  replace hS := hS.new hg _ ho hfr; clear hg ho hfr
  rw [List.length_replicate] at hS ⊢
  refine ⟨_, rfl, ?_⟩
  refine lw_v rfl rfl (ok_assign rfl (.n rfl) rfl) ?_
  refine lw_nil ?_
  refine Ends.keep [(1, .eq _), (2, .eq _), (5, .eq _)] (.cons rfl (.cons rfl (.cons rfl .nil))) ?_
  refine ends_then ?_
  refine cw_seq ?_
  -- region 2
  refine cw_region ?_
  refine lw_v rfl rfl (ok_move rfl (.n rfl) rfl) ?_
  refine lw_v rfl rfl (ok_move rfl (.n rfl) rfl) ?_
  refine lw_v rfl rfl (ok_ix rfl (.n rfl) Try.underlying26 Try.sizeOf3 rfl rfl hS (fun _ => ⟨by omega, by omega⟩)) ?_
  refine lw_stx (enc := (eInt .i64)) (_) rfl rfl rfl rfl rfl rfl Try.sizeOf3 hS (⟨by omega, by omega⟩) ?_
  clear hS; intro w3 hS
  refine lw_nil ?_
  refine Ends.keep [(1, .eq _), (2, .eq _), (5, .eq _)] (.cons rfl (.cons rfl (.cons rfl .nil))) ?_
  refine ends_then ?_
  refine cw_seq ?_
  -- region 3
  refine cw_region ?_
  refine lw_v rfl rfl (ok_move rfl (.n rfl) rfl) ?_
  refine lw_ls (enc := (eInt .i64)) [(v : Int)] rfl rfl rfl Try.underlying26 Try.sizeOf3 Try.zeroValue3 rfl (by kernel_rfl) rfl (by decide) (by decide) hS ?_
  clear hS; intro A23 c23 w4 _ hS
  refine lw_v rfl rfl (ok_assign rfl (.n rfl) rfl) ?_
  refine lw_nil ?_
  refine Ends.keep [(2, .eq _), (5, .eq _), (6, .eq _)] (.cons rfl (.cons rfl (.cons rfl .nil))) ?_
  refine ends_then ?_
  refine cw_seq ?_
  refine cw_label ?_
  refine ends_then ?_
  refine cw_seq ?_
  refine cw_seq ?_
  -- region 4
  refine cw_region ?_
  refine lw_v rfl rfl (ok_assign rfl (.n rfl) rfl) ?_
  refine lw_nil ?_
  refine Ends.keep [(2, .eq _), (5, .eq _), (6, .eq _), (7, .eq _)] (.cons rfl (.cons rfl (.cons rfl (.cons rfl .nil)))) ?_
  refine ends_then ?_
  refine cw_block ?_
  -- LOOP at region 6: changed live slots [6, 7], kept [2, 5]
  refine cw_loop4 [(2, .eq _), (5, .eq _)] (fun (i : Nat) (A' : Option Addr) (c' : Nat) (row : List Int) => [(6, .eq (.slice A' row.length c')), (7, .eq (.int .i64 i))]) (fun i A' c' row w' => ∃ D, Bfs c.N (GoE c goes) v D row i (fun _ => False) ∧ St w.heap.size w w' [own (eInt .i64) 1 3 A' row.length c' row, own (eInt .i64) 1 3 A5 c.N c5 D, own (eInt .i64) 1 3 A14 1 c14 [(c.N : Int)], bx b2 (searchV c q fv).cells.toList 91, sl (eInt .i64) 1 q.a0 c.First.length q.c0 c.First, sl (eInt .i64) 1 q.a1 c.Head.length q.c1 c.Head, sl (eInt .i64) 1 q.a2 c.Rev.length q.c2 c.Rev, sl (eInt .i64) 1 q.a3 c.Cap.length q.c3 c.Cap, sl (eInt .i64) 1 q.a4 c.Arc.length q.c4 c.Arc, sl eBool 1 q.a5 c.Back.length q.c5 c.Back]) (fun i _ _ _ => c.N - i) 0 A23 c23 [(v : Int)] (.cons rfl (.cons rfl .nil)) (.cons rfl (.cons rfl (.cons rfl (.cons rfl .nil)))) ⟨_, Bfs.start (by omega) hv (by simp) (fun u hu => by rw [set_get (by simpa using hv)]; unfold hTo; simp [hu]), hS⟩ ?_
  clear hS
  rintro i A' c' row wr ⟨D, hb, hS⟩
  have hbl := hb.le
  have hbs := hb.size
  refine cw_seq ?_
  refine cw_block ?_
  refine cw_seq ?_
  refine cw_seq ?_
  -- region 6
  refine cw_region ?_
  refine lw_v rfl rfl (ok_move rfl (.n rfl) rfl) ?_
  refine lw_v rfl rfl (ok_move rfl (.n rfl) rfl) ?_
  refine lw_v rfl rfl (ok_len rfl (.n rfl) Try.underlying26 rfl) ?_
  refine lw_v rfl rfl (ok_eql rfl (.n rfl) rfl rfl) ?_
  refine lw_nil ?_
  refine Ends.keep [(2, .eq _), (5, .eq _), (6, .eq _), (7, .eq _), (29, .eq _)] (.cons rfl (.cons rfl (.cons rfl (.cons rfl (.cons rfl .nil))))) ?_
  refine ends_then ?_
  refine cw_cond rfl (fun h29 => ?_) (fun h29 => ?_)
  ·
    refine cw_exit ?_
    refine then_exit (in_other rfl (then_exit (then_exit (in_exit (?_)))))
    refine Ends.keep [(5, .eq _)] (.cons rfl .nil) ?_
    refine ends_then ?_
    refine cw_seq ?_
    -- region 15
    refine cw_region ?_
    refine lw_v rfl rfl (ok_move rfl (.n rfl) rfl) ?_
    refine lw_v rfl rfl (ok_assign rfl (.n rfl) rfl) ?_
    refine lw_nil ?_
    refine Ends.keep [(4, .eq _)] (.cons rfl .nil) ?_
    refine ends_then ?_
    refine cw_ret ?_
    refine sc_ret (?_)
    have hie : i = row.length := by have := of_decide_eq_true h29; omega
    rw [lowL_eq (hb.low hie)]
    have hDl := hb.len
    refine end_ret (res1 Try.results81 rfl) ⟨A5, c5, by rw [hDl], hS.below, ?_, ?_⟩
    · rw [hDl]; exact fun b hb => hS.ge _ (.tail _ (.head _)) rfl b hb
    · rw [hDl]; exact hS.ok _ (.tail _ (.head _))
  ·
    have hi : i < row.length := by have := of_decide_eq_false h29; omega
    obtain ⟨u, hru, huN⟩ := row_at hb hi
    have hru' : row.getD (i : Int).toNat 0 = (u : Int) := hru
    obtain ⟨hf0, hf1, hf2⟩ := seg_rng hwf huN
    refine cw_skip ?_
    refine ends_then ?_
    refine cw_seq ?_
    -- region 7
    refine cw_region ?_
    refine lw_v rfl rfl (ok_move rfl (.n rfl) rfl) ?_
    refine lw_v rfl rfl (ok_move rfl (.n rfl) rfl) ?_
    refine lw_v rfl rfl (ok_ix rfl (.n rfl) Try.underlying26 Try.sizeOf3 rfl rfl hS (fun _ => ⟨by omega, by omega⟩)) ?_
    refine lw_v rfl rfl (ok_eq (ok_ldx rfl (.n rfl) rfl Try.isAgg3 hS (fun _ => ⟨by omega, by omega⟩) (by rfl)) (c' := .int .i64 (u : Int)) (fun _ => congrArg (Value.int .i64) hru)) ?_
    refine lw_v rfl rfl (ok_assign rfl (.n rfl) rfl) ?_
    refine lw_nil ?_
    refine Ends.keep [(2, .eq _), (5, .eq _), (6, .eq _), (7, .eq _), (8, .eq _)] (.cons rfl (.cons rfl (.cons rfl (.cons rfl (.cons rfl .nil))))) ?_
    refine ends_then ?_
    refine cw_seq ?_
    -- region 8
    refine cw_region ?_
    refine lw_v rfl rfl (ok_fb rfl (.n rfl) Try.underlying91 rfl Try.sizeOf29 (by decide) rfl) ?_
    refine lw_v rfl rfl (ok_fb rfl (.n rfl) Try.underlying29 rfl Try.sizeOf26 (by decide) rfl) ?_
    refine lw_v rfl rfl (ok_ldb rfl (.n rfl) rfl Try.isAgg26 hS (by rfl)) ?_
    refine lw_v rfl rfl (ok_move rfl (.n rfl) rfl) ?_
    refine lw_v rfl rfl (ok_ix rfl (.n rfl) Try.underlying26 Try.sizeOf3 rfl rfl hS (fun _ => ⟨by omega, by omega⟩)) ?_
    refine lw_v rfl rfl (ok_eq (ok_ldx rfl (.n rfl) rfl Try.isAgg3 hS (fun _ => ⟨by omega, by omega⟩) (by rfl)) (c' := .int .i64 (((c.First.getD u 0).toNat : Nat) : Int)) (fun _ => congrArg (Value.int .i64) (Int.toNat_of_nonneg hf0).symm)) ?_
    refine lw_v rfl rfl (ok_assign rfl (.n rfl) rfl) ?_
    refine lw_nil ?_
    refine Ends.keep [(2, .eq _), (5, .eq _), (6, .eq _), (7, .eq _), (8, .eq _), (9, .eq _)] (.cons rfl (.cons rfl (.cons rfl (.cons rfl (.cons rfl (.cons rfl .nil)))))) ?_
    refine ends_then ?_
    refine cw_block ?_
    -- LOOP at region 9: changed live slots [6, 9], kept [2, 5, 7, 8]
    refine cw_loop4 [(2, .eq _), (5, .eq _), (7, .eq _), (8, .eq _)] (fun (a : Nat) (A' : Option Addr) (c' : Nat) (row : List Int) => [(6, .eq (.slice A' row.length c')), (9, .eq (.int .i64 a))]) (fun a A' c' row w' => (c.First.getD u 0 ≤ a ∧ a ≤ c.First.getD (u + 1) 0) ∧ (i < row.length ∧ row.getD i 0 = (u : Int)) ∧ ∃ D, Bfs c.N (GoE c goes) v D row i (PA c goes u a) ∧ St w.heap.size w w' [own (eInt .i64) 1 3 A' row.length c' row, own (eInt .i64) 1 3 A5 c.N c5 D, own (eInt .i64) 1 3 A14 1 c14 [(c.N : Int)], bx b2 (searchV c q fv).cells.toList 91, sl (eInt .i64) 1 q.a0 c.First.length q.c0 c.First, sl (eInt .i64) 1 q.a1 c.Head.length q.c1 c.Head, sl (eInt .i64) 1 q.a2 c.Rev.length q.c2 c.Rev, sl (eInt .i64) 1 q.a3 c.Cap.length q.c3 c.Cap, sl (eInt .i64) 1 q.a4 c.Arc.length q.c4 c.Arc, sl eBool 1 q.a5 c.Back.length q.c5 c.Back]) (fun a _ _ _ => (c.First.getD (u + 1) 0 - a).toNat) (c.First.getD u 0).toNat A' c' row (.cons rfl (.cons rfl (.cons rfl (.cons rfl .nil)))) (.cons rfl (.cons rfl (.cons rfl (.cons rfl (.cons rfl (.cons rfl .nil)))))) ⟨⟨by omega, by omega⟩, ⟨hi, hru⟩, D, hb.pass (fun _ x _ ⟨b, h1, h2, _⟩ => absurd h1 (by omega)), hS⟩ ?_
    clear hS
    clear hb hbl hbs hi hru D
    rintro a A' c' row wr ⟨⟨ha0, ha1⟩, ⟨hi, hru⟩, D, hb, hS⟩
    have hbs := hb.size
    have hDu : 0 ≤ D.getD (u : Int).toNat 0 ∧ D.getD (u : Int).toNat 0 ≤ c.N := hb.rng u huN
    refine cw_seq ?_
    refine cw_seq ?_
    -- region 9
    refine cw_region ?_
    refine lw_v rfl rfl (ok_move rfl (.n rfl) rfl) ?_
    refine lw_v rfl rfl (ok_fb rfl (.n rfl) Try.underlying91 rfl Try.sizeOf29 (by decide) rfl) ?_
    refine lw_v rfl rfl (ok_fb rfl (.n rfl) Try.underlying29 rfl Try.sizeOf26 (by decide) rfl) ?_
    refine lw_v rfl rfl (ok_ldb rfl (.n rfl) rfl Try.isAgg26 hS (by rfl)) ?_
    refine lw_v rfl rfl (ok_move rfl (.n rfl) rfl) ?_
    refine lw_v rfl rfl (ok_addi rfl (.n rfl) rfl rfl (fun _ => ⟨by omega, by omega⟩)) ?_
    refine lw_v rfl rfl (ok_ix rfl (.n rfl) Try.underlying26 Try.sizeOf3 rfl rfl hS (fun _ => ⟨by omega, by omega⟩)) ?_
    refine lw_v rfl rfl (ok_ldx rfl (.n rfl) rfl Try.isAgg3 hS (fun _ => ⟨by omega, by omega⟩) (by rfl)) ?_
    refine lw_v rfl rfl (ok_lss rfl (.n rfl) rfl rfl) ?_
    refine lw_nil ?_
    refine Ends.keep [(2, .eq _), (5, .eq _), (6, .eq _), (7, .eq _), (8, .eq _), (9, .eq _), (48, .eq _)] (.cons rfl (.cons rfl (.cons rfl (.cons rfl (.cons rfl (.cons rfl (.cons rfl .nil))))))) ?_
    refine ends_then ?_
    refine cw_cond rfl (fun h48 => ?_) (fun h48 => ?_)
    ·
      have hlt : (a : Int) < c.First.getD (u + 1) 0 := of_decide_eq_true h48
      have haM : a < c.Head.length := by omega
      obtain ⟨x, hx, hxN⟩ := head_at hwf haM
      have hx' : c.Head.getD (a : Int).toNat 0 = (x : Int) := hx
      refine cw_skip ?_
      refine ends_then ?_
      refine cw_seq ?_
      refine cw_block ?_
      refine cw_seq ?_
      -- region 11
      refine cw_region ?_
      refine lw_v rfl rfl (ok_fb rfl (.n rfl) Try.underlying91 rfl Try.sizeOf29 (by decide) rfl) ?_
      refine lw_v rfl rfl (ok_fb rfl (.n rfl) Try.underlying29 rfl Try.sizeOf26 (by decide) rfl) ?_
      refine lw_v rfl rfl (ok_ldb rfl (.n rfl) rfl Try.isAgg26 hS (by rfl)) ?_
      refine lw_v rfl rfl (ok_move rfl (.n rfl) rfl) ?_
      refine lw_v rfl rfl (ok_ix rfl (.n rfl) Try.underlying26 Try.sizeOf3 rfl rfl hS (fun _ => ⟨by omega, by omega⟩)) ?_
      refine lw_v rfl rfl (ok_eq (ok_ldx rfl (.n rfl) rfl Try.isAgg3 hS (fun _ => ⟨by omega, by omega⟩) (by rfl)) (c' := .int .i64 (x : Int)) (fun _ => congrArg (Value.int .i64) hx)) ?_
      refine lw_v rfl rfl (ok_assign rfl (.n rfl) rfl) ?_
      refine lw_nil ?_
      refine Ends.keep [(2, .eq _), (5, .eq _), (6, .eq _), (7, .eq _), (8, .eq _), (9, .eq _), (10, .eq _)] (.cons rfl (.cons rfl (.cons rfl (.cons rfl (.cons rfl (.cons rfl (.cons rfl .nil))))))) ?_
      refine ends_then ?_
      refine cw_seq ?_
      refine cw_seq ?_
      -- region 12
      refine cw_draw (by kernel_rfl) (List.take 12 _) (List.drop 12 _) (List.take_append_drop 12 _).symm (by kernel_rfl) ?_
      refine free_v (ok_move rfl (.n rfl) rfl) ?_
      refine free_v (ok_move rfl (.n rfl) rfl) ?_
      refine free_v (ok_ix rfl (.n rfl) Try.underlying26 Try.sizeOf3 rfl rfl hS (fun _ => ⟨by omega, by omega⟩)) ?_
      refine free_v (ok_ldx rfl (.n rfl) rfl Try.isAgg3 hS (fun _ => ⟨by omega, by omega⟩) (by rfl)) ?_
      refine free_v (ok_fb rfl (.n rfl) Try.underlying91 rfl Try.sizeOf29 (by decide) rfl) ?_
      refine free_v (ok_fb rfl (.n rfl) Try.underlying29 rfl Try.sizeOf3 (by decide) rfl) ?_
      refine free_v (ok_ldb rfl (.n rfl) rfl Try.isAgg3 hS (by rfl)) ?_
      refine free_v (ok_lss rfl (.n rfl) rfl rfl) ?_
      refine free_v (ok_move rfl (.n rfl) rfl) ?_
      refine free_v (ok_fb rfl (.s rfl rfl) Try.underlying91 rfl Try.sizeOf83 (by decide) rfl) ?_
      refine free_v (ok_ldb rfl (.s rfl rfl) rfl Try.isAgg83 hS (by rfl)) ?_
      refine free_v (ok_move rfl (.s rfl rfl) rfl) ?_
      refine free_nil ?_
      intro w5 hg_; replace hS := hS.grow hg_; clear hg_
      refine lw_o rfl rfl (ok_callg (.bool (goes a)) rfl (.s rfl rfl) hcall (congrArg some hfv) rfl (fun _ w' hg => hgo a w' (Gr.trans hS.below hg) haM)) ?_
      intro w6 hg_; replace hS := hS.grow hg_; clear hg_
      refine lw_v rfl rfl (ok_not rfl (.s rfl rfl) rfl) ?_
      refine lw_v rfl rfl (ok_or rfl rfl rfl rfl) ?_
      refine lw_nil ?_
      refine Ends.keep [(2, .eq _), (5, .eq _), (6, .eq _), (7, .eq _), (8, .eq _), (9, .eq _), (10, .eq _), (71, .eq _)] (.cons rfl (.cons rfl (.cons rfl (.cons rfl (.cons rfl (.cons rfl (.cons rfl (.cons rfl .nil)))))))) ?_
      refine ends_then ?_
      refine cw_cond rfl (fun h71 => ?_) (fun h71 => ?_)
      ·
        refine cw_exit ?_
        refine then_exit (in_exit (?_))
        refine Ends.keep [(2, .eq _), (5, .eq _), (6, .eq _), (7, .eq _), (8, .eq _), (9, .eq _)] (.cons rfl (.cons rfl (.cons rfl (.cons rfl (.cons rfl (.cons rfl .nil)))))) ?_
        refine ends_then ?_
        -- region 10
        refine cw_region ?_
        refine lw_v rfl rfl (ok_move rfl (.n rfl) rfl) ?_
        refine lw_v rfl rfl (ok_addi rfl (.n rfl) rfl rfl (fun _ => ⟨by omega, by omega⟩)) ?_
        refine lw_v rfl rfl (ok_assign rfl (.n rfl) rfl) ?_
        refine lw_nil ?_
        -- BACK
        refine ends_back4 (a + 1) A' c' row (.cons rfl (.cons rfl (.cons rfl (.cons rfl (.cons rfl (.cons rfl .nil)))))) ⟨⟨by omega, by omega⟩, ⟨hi, hru⟩, D, hb.pass (fun _ y hy hp => ?_), hS⟩ (by omega)
        exact pa_old hb hi hy hp hx hxN h71
      ·
        refine cw_skip ?_
        refine ends_then ?_
        refine cw_seq ?_
        -- region 13
        refine cw_region ?_
        refine lw_v rfl rfl (ok_move rfl (.n rfl) rfl) ?_
        refine lw_v rfl rfl (ok_move rfl (.n rfl) rfl) ?_
        refine lw_v rfl rfl (ok_move rfl (.n rfl) rfl) ?_
        refine lw_v rfl rfl (ok_move rfl (.n rfl) rfl) ?_
        refine lw_v rfl rfl (ok_ix rfl (.n rfl) Try.underlying26 Try.sizeOf3 rfl rfl hS (fun _ => ⟨by omega, by omega⟩)) ?_
        refine lw_v rfl rfl (ok_ldx rfl (.n rfl) rfl Try.isAgg3 hS (fun _ => ⟨by omega, by omega⟩) (by rfl)) ?_
        refine lw_v rfl rfl (ok_addi rfl (.n rfl) rfl rfl (fun _ => ⟨by omega, by omega⟩)) ?_
        refine lw_v rfl rfl (ok_ix rfl (.n rfl) Try.underlying26 Try.sizeOf3 rfl rfl hS (fun _ => ⟨by omega, by omega⟩)) ?_
        refine lw_stx (enc := (eInt .i64)) (_) rfl rfl rfl rfl rfl rfl Try.sizeOf3 hS (⟨by omega, by omega⟩) ?_
        clear hS; intro w7 hS
        refine lw_nil ?_
        refine Ends.keep [(2, .eq _), (5, .eq _), (6, .eq _), (7, .eq _), (8, .eq _), (9, .eq _), (10, .eq _)] (.cons rfl (.cons rfl (.cons rfl (.cons rfl (.cons rfl (.cons rfl (.cons rfl .nil))))))) ?_
        refine ends_then ?_
        -- region 14
        refine cw_region ?_
        refine lw_v rfl rfl (ok_move rfl (.n rfl) rfl) ?_
        refine lw_v rfl rfl (ok_move rfl (.n rfl) rfl) ?_
        refine lw_ls (enc := (eInt .i64)) [(x : Int)] rfl rfl rfl Try.underlying26 Try.sizeOf3 Try.zeroValue3 rfl (by kernel_rfl) rfl (by decide) (by decide) hS ?_
        clear hS; intro A82 c82 w8 _ hS
        refine lw_append (enc := (eInt .i64)) rfl rfl rfl Try.underlying26 info3 rfl rfl rfl hS (by decide) (by omega) (by omega) ?_
        intro A83 c83 w9 hS1; replace hS := hS1 _ (Rep.r); clear hS1
        refine lw_v rfl rfl (ok_assign rfl (.n rfl) rfl) ?_
        refine lw_nil ?_
        refine in_normal (?_)
        refine Ends.keep [(2, .eq _), (5, .eq _), (6, .eq _), (7, .eq _), (8, .eq _), (9, .eq _)] (.cons rfl (.cons rfl (.cons rfl (.cons rfl (.cons rfl (.cons rfl .nil)))))) ?_
        refine ends_then ?_
        -- region 10
        refine cw_region ?_
        refine lw_v rfl rfl (ok_move rfl (.n rfl) rfl) ?_
        refine lw_v rfl rfl (ok_addi rfl (.n rfl) rfl rfl (fun _ => ⟨by omega, by omega⟩)) ?_
        refine lw_v rfl rfl (ok_assign rfl (.n rfl) rfl) ?_
        refine lw_nil ?_
        -- BACK
        obtain ⟨hno, hgo1⟩ := pa_new h71
        obtain ⟨hb2, hz⟩ := hb.add hi hxN (w := x) ⟨a, by rw [hru]; exact ha0, by rw [hru]; exact hlt, by rw [show c.Head.getD a 0 = (x : Int) from hx]; rfl, hgo1⟩ hno (P' := PA c goes u (a + 1)) (fun y _ hp => pa_step hp hx)
        refine ends_back4 (a + 1) A83 c83 (row ++ [(x : Int)]) (.cons rfl (.cons rfl (.cons rfl (.cons rfl (.cons rfl (.cons rfl .nil)))))) ⟨⟨by omega, by omega⟩, ⟨by simp; omega, by rw [List.getD_eq_getElem?_getD, List.getElem?_append_left hi, ← List.getD_eq_getElem?_getD]; exact hru⟩, _, hb2, ?_⟩ (by omega)
        rw [hru]; exact hS.tail
    ·
      have hge : ¬ (a : Int) < c.First.getD (u + 1) 0 := of_decide_eq_false h48
      refine cw_exit ?_
      refine then_exit (then_exit (in_exit (?_)))
      refine in_normal (?_)
      refine Ends.keep [(2, .eq _), (5, .eq _), (6, .eq _), (7, .eq _)] (.cons rfl (.cons rfl (.cons rfl (.cons rfl .nil)))) ?_
      refine ends_then ?_
      -- region 5
      refine cw_region ?_
      refine lw_v rfl rfl (ok_move rfl (.n rfl) rfl) ?_
      refine lw_v rfl rfl (ok_addi rfl (.n rfl) rfl rfl (fun _ => ⟨by omega, by omega⟩)) ?_
      refine lw_v rfl rfl (ok_assign rfl (.n rfl) rfl) ?_
      refine lw_nil ?_
      -- BACK
      refine ends_back4 (i + 1) A' c' row (.cons rfl (.cons rfl (.cons rfl (.cons rfl .nil)))) ⟨D, hb.next hi (fun x hx ⟨b, h1, h2, h3, h4⟩ => ⟨b, by rw [hru] at h1; exact h1, by rw [hru, Int.toNat_natCast] at h2; omega, h3, h4⟩), hS⟩ (by omega)

theorem lowL_congr {N : Nat} {E E' : Nat → Nat → Prop} {h : Nat → Int} (hn : ∀ v, v < N → 0 ≤ h v) (hE : ∀ u w, u < N → w < N → (E u w ↔ E' u w)) : lowL N E h = lowL N E' h :=
  (lowL_low E hn).unique (lowL_low E' hn) (fun _ _ => rfl) hE
theorem go_to {c : Cs} (hw : WF c) {res : List Int} {u x : Nat} (hu : u < c.N) (hx : x < c.N) : GoE c (fun a => decide (0 < res.getD (c.Rev.getD a 0).toNat 0)) x u ↔ Edge c res u x := by
  rw [edge_rev hw hx hu]
  unfold GoE
  simp only [decide_eq_true_eq]
theorem go_from {c : Cs} (hw : WF c) {res : List Int} {u x : Nat} (hx : x < c.N) : GoE c (fun a => decide (0 < res.getD a 0)) x u ↔ Edge c res x u := by
  rw [edge_seg hw hx]
  unfold GoE
  simp only [decide_eq_true_eq]

set_option maxRecDepth 10000 in
/-- dist.To. -/
theorem f41 (c : Cs) (q : Q6) (res : List Int) (t : Int) {m : Nat} (A1 : Option Addr) (c1 : Nat) (w : World) (hwf : WF c) (hc : CsAt c q w) (hr : (sl (eInt .i64) 1 A1 m c1 res).p w) : RetL 41 [csV c q, .slice A1 m c1, .int .i64 t] w (toL c res t) := by
  refine calls_cw Try.func41 rfl Try.ntmps41 rfl ?_
  have hS := (St.ofc hc).args (Nat.le_refl _) _ hr rfl
  have hM := hwf.m
  have hN := hwf.hi
  have hlo := hwf.lo
  have hfl := hwf.fl
  have hrr := hr.2.1
  have hrl := hr.1.1
  have hrvl := hwf.rl
  refine cw_seq ?_
  -- region 0
  refine cw_region ?_
  refine lw_box rfl rfl rfl rfl hS ?_
  clear hS; intro b3 w1 _ _ hS
  refine lw_box rfl rfl rfl rfl hS ?_
  clear hS; intro b4 w2 _ _ hS
  refine lw_v rfl rfl (ok_assign rfl (.n rfl) rfl) ?_
  refine lw_nil ?_
  refine Ends.keep [(2, .eq _), (3, .eq _), (4, .eq _)] (.cons rfl (.cons rfl (.cons rfl .nil))) ?_
  refine ends_then ?_
  refine cw_seq ?_
  refine cw_seq ?_
  -- region 1
  refine cw_region ?_
  refine lw_v rfl rfl (ok_ldS rfl (.n rfl) rfl Try.isAgg29 Try.sizeOf29 hS rfl) ?_
  refine lw_v rfl rfl (ok_ldb rfl (.n rfl) rfl Try.isAgg25 hS (by rfl)) ?_
  refine lw_v rfl rfl (ok_move rfl (.n rfl) rfl) ?_
  refine lw_call (f := 79) (xs := [_, _, _]) rfl rfl rfl Try.call79 rfl (Calls.mono (f79 c q res t A1 c1 _ hwf (hS.cs q) (hS.rd A1 hrr)) ?_)
  rintro e w' ⟨rfl, hg⟩
  replace hS := hS.grow hg; clear hg
  refine ⟨_, rfl, ?_⟩
  refine lw_v rfl rfl (ok_not rfl (.n rfl) rfl) ?_
  refine lw_nil ?_
  refine Ends.keep [(2, .eq _), (3, .eq _), (4, .eq _), (11, .eq _)] (.cons rfl (.cons rfl (.cons rfl (.cons rfl .nil)))) ?_
  refine ends_then ?_
  refine cw_cond rfl (fun h11 => ?_) (fun h11 => ?_)
  ·
    have hno : inB c res t = false := by simpa using h11
    replace hS := hS.nil (eInt .i64) 1 3
    refine cw_seq ?_
    -- region 2
    refine cw_region ?_
    refine lw_v rfl rfl (ok_assign rfl (.n rfl) rfl) ?_
    refine lw_nil ?_
    refine Ends.keep [(6, .eq _)] (.cons rfl .nil) ?_
    refine ends_then ?_
    refine cw_ret ?_
    refine then_ret (?_)
    rw [toL_no hno]
    exact end_ret (res1 Try.results41 rfl) ⟨none, 0, rfl, hS.below, fun b hb => hS.ge _ (.head _) rfl b hb, hS.ok _ (.head _)⟩
  ·
    have hin : inB c res t = true := by simpa using h11
    obtain ⟨hrm, ht0, htN⟩ := inB_iff.1 hin
    obtain ⟨v, rfl⟩ : ∃ v : Nat, t = (v : Int) := ⟨t.toNat, by omega⟩
    refine cw_skip ?_
    refine ends_then ?_
    refine cw_seq ?_
    -- region 3
    refine cw_region ?_
    refine lw_v rfl rfl (ok_ldS rfl (.n rfl) rfl Try.isAgg29 Try.sizeOf29 hS rfl) ?_
    refine lw_v rfl rfl (ok_mkfn rfl (.n rfl) rfl) ?_
    refine lw_v rfl rfl (ok_build (cells := #[.int .i64 c.N, .int .i64 c.S, .int .i64 c.T, .slice q.a0 c.First.length q.c0, .slice q.a1 c.Head.length q.c1, .slice q.a2 c.Rev.length q.c2, .slice q.a3 c.Cap.length q.c3, .slice q.a4 c.Arc.length q.c4, .slice q.a5 c.Back.length q.c5, (.func (.func 80) #[] #[.pointer (some ⟨b4, 0, none⟩), .pointer (some ⟨b3, 0, none⟩)])]) rfl (.n rfl) Try.underlying91 Try.zeroValue91 pl91 rfl (by kernel_rfl)) ?_
    refine lw_v rfl rfl (ok_move rfl (.n rfl) rfl) ?_
    refine lw_call (f := 81) (xs := [_, _]) rfl rfl rfl Try.call81 rfl (Calls.mono (f81 c q 80 #[.pointer (some ⟨b4, 0, none⟩), .pointer (some ⟨b3, 0, none⟩)] (fun a => decide (0 < res.getD (c.Rev.getD a 0).toNat 0)) v _ hwf (hS.cs q) (by omega) Try.call80 (fun a w' hg ha => f80 c q res a m b4 b3 A1 c1 w' hwf ((hS.grow hg).cs q) ((hS.grow hg).rd A1 hrr) (show (bx b4 (Value.slice A1 m c1).cells.toList 25).p w' from (hS.grow hg).bx) (show (bx b3 (csV c q).cells.toList 29).p w' from (hS.grow hg).bx) (by omega) ha)) ?_)
    rintro e w' ⟨A16, c16, rfl, hg, hfr, ho⟩
    replace hS := hS.new hg _ ho hfr; clear hg ho hfr
    refine ⟨_, rfl, ?_⟩
    refine lw_v rfl rfl (ok_assign rfl (.n rfl) rfl) ?_
    refine lw_nil ?_
    refine Ends.keep [(6, .eq _)] (.cons rfl .nil) ?_
    refine ends_then ?_
    refine cw_ret ?_
    have e : lowL c.N (fun u w => GoE c (fun a => decide (0 < res.getD (c.Rev.getD a 0).toNat 0)) w u) (hTo c.N v) = toL c res v := by
      unfold toL
      rw [if_pos hin]
      exact lowL_congr (hTo_nn _ _) fun u x hu hx => go_to hwf hu hx
    rw [e] at hS ⊢
    exact end_ret (res1 Try.results41 rfl) ⟨A16, c16, rfl, hS.below, fun b hb => hS.ge _ (.head _) rfl b hb, hS.ok _ (.head _)⟩

set_option maxRecDepth 10000 in
/-- dist.From. -/
theorem f42 (c : Cs) (q : Q6) (res : List Int) (t : Int) {m : Nat} (A1 : Option Addr) (c1 : Nat) (w : World) (hwf : WF c) (hc : CsAt c q w) (hr : (sl (eInt .i64) 1 A1 m c1 res).p w) : RetL 42 [csV c q, .slice A1 m c1, .int .i64 t] w (fromL c res t) := by
  refine calls_cw Try.func42 rfl Try.ntmps42 rfl ?_
  have hS := (St.ofc hc).args (Nat.le_refl _) _ hr rfl
  have hM := hwf.m
  have hN := hwf.hi
  have hlo := hwf.lo
  have hfl := hwf.fl
  have hrr := hr.2.1
  have hrl := hr.1.1
  have hrvl := hwf.rl
  refine cw_seq ?_
  -- region 0
  refine cw_region ?_
  refine lw_box rfl rfl rfl rfl hS ?_
  clear hS; intro b3 w1 _ _ hS
  refine lw_box rfl rfl rfl rfl hS ?_
  clear hS; intro b4 w2 _ _ hS
  refine lw_v rfl rfl (ok_assign rfl (.n rfl) rfl) ?_
  refine lw_nil ?_
  refine Ends.keep [(2, .eq _), (3, .eq _), (4, .eq _)] (.cons rfl (.cons rfl (.cons rfl .nil))) ?_
  refine ends_then ?_
  refine cw_seq ?_
  refine cw_seq ?_
  -- region 1
  refine cw_region ?_
  refine lw_v rfl rfl (ok_ldS rfl (.n rfl) rfl Try.isAgg29 Try.sizeOf29 hS rfl) ?_
  refine lw_v rfl rfl (ok_ldb rfl (.n rfl) rfl Try.isAgg25 hS (by rfl)) ?_
  refine lw_v rfl rfl (ok_move rfl (.n rfl) rfl) ?_
  refine lw_call (f := 79) (xs := [_, _, _]) rfl rfl rfl Try.call79 rfl (Calls.mono (f79 c q res t A1 c1 _ hwf (hS.cs q) (hS.rd A1 hrr)) ?_)
  rintro e w' ⟨rfl, hg⟩
  replace hS := hS.grow hg; clear hg
  refine ⟨_, rfl, ?_⟩
  refine lw_v rfl rfl (ok_not rfl (.n rfl) rfl) ?_
  refine lw_nil ?_
  refine Ends.keep [(2, .eq _), (3, .eq _), (4, .eq _), (11, .eq _)] (.cons rfl (.cons rfl (.cons rfl (.cons rfl .nil)))) ?_
  refine ends_then ?_
  refine cw_cond rfl (fun h11 => ?_) (fun h11 => ?_)
  ·
    have hno : inB c res t = false := by simpa using h11
    replace hS := hS.nil (eInt .i64) 1 3
    refine cw_seq ?_
    -- region 2
    refine cw_region ?_
    refine lw_v rfl rfl (ok_assign rfl (.n rfl) rfl) ?_
    refine lw_nil ?_
    refine Ends.keep [(6, .eq _)] (.cons rfl .nil) ?_
    refine ends_then ?_
    refine cw_ret ?_
    refine then_ret (?_)
    rw [fromL_no hno]
    exact end_ret (res1 Try.results42 rfl) ⟨none, 0, rfl, hS.below, fun b hb => hS.ge _ (.head _) rfl b hb, hS.ok _ (.head _)⟩
  ·
    have hin : inB c res t = true := by simpa using h11
    obtain ⟨hrm, ht0, htN⟩ := inB_iff.1 hin
    obtain ⟨v, rfl⟩ : ∃ v : Nat, t = (v : Int) := ⟨t.toNat, by omega⟩
    refine cw_skip ?_
    refine ends_then ?_
    refine cw_seq ?_
    -- region 3
    refine cw_region ?_
    refine lw_v rfl rfl (ok_ldS rfl (.n rfl) rfl Try.isAgg29 Try.sizeOf29 hS rfl) ?_
    refine lw_v rfl rfl (ok_mkfn rfl (.n rfl) rfl) ?_
    refine lw_v rfl rfl (ok_build (cells := #[.int .i64 c.N, .int .i64 c.S, .int .i64 c.T, .slice q.a0 c.First.length q.c0, .slice q.a1 c.Head.length q.c1, .slice q.a2 c.Rev.length q.c2, .slice q.a3 c.Cap.length q.c3, .slice q.a4 c.Arc.length q.c4, .slice q.a5 c.Back.length q.c5, (.func (.func 82) #[] #[.pointer (some ⟨b4, 0, none⟩)])]) rfl (.n rfl) Try.underlying91 Try.zeroValue91 pl91 rfl (by kernel_rfl)) ?_
    refine lw_v rfl rfl (ok_move rfl (.n rfl) rfl) ?_
    refine lw_call (f := 81) (xs := [_, _]) rfl rfl rfl Try.call81 rfl (Calls.mono (f81 c q 82 #[.pointer (some ⟨b4, 0, none⟩)] (fun a => decide (0 < res.getD a 0)) v _ hwf (hS.cs q) (by omega) Try.call82 (fun a w' hg ha => f82 c res a m b4 A1 c1 w' ((hS.grow hg).rd A1 hrr) (show (bx b4 (Value.slice A1 m c1).cells.toList 25).p w' from (hS.grow hg).bx) (by omega) ha)) ?_)
    rintro e w' ⟨A16, c16, rfl, hg, hfr, ho⟩
    replace hS := hS.new hg _ ho hfr; clear hg ho hfr
    refine ⟨_, rfl, ?_⟩
    refine lw_v rfl rfl (ok_assign rfl (.n rfl) rfl) ?_
    refine lw_nil ?_
    refine Ends.keep [(6, .eq _)] (.cons rfl .nil) ?_
    refine ends_then ?_
    refine cw_ret ?_
    have e : lowL c.N (fun u w => GoE c (fun a => decide (0 < res.getD a 0)) w u) (hTo c.N v) = fromL c res v := by
      unfold fromL
      rw [if_pos hin]
      exact lowL_congr (hTo_nn _ _) fun u x hu hx => go_from hwf hx
    rw [e] at hS ⊢
    exact end_ret (res1 Try.results42 rfl) ⟨A16, c16, rfl, hS.below, fun b hb => hS.ge _ (.head _) rfl b hb, hS.ok _ (.head _)⟩

end Go.Proofs.Ytnpgeohkmdcbkaa.Aq
