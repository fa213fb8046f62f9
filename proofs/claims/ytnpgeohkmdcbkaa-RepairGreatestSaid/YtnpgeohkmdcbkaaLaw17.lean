/- The walk of the law RepairGreatest. -/
import Derived.Test.YtnpgeohkmdcbkaaB5
import Derived.Test.YtnpgeohkmdcbkaaB9
namespace Go.Proofs.Ytnpgeohkmdcbkaa.Aq
open Go Go.RowKit

theorem f25r (c : Cs) (q : Q6) (l : List Int) {m : Nat} (A1 : Option Addr) (c1 : Nat) (w : World) (hwf : WF c) (hl : (sl (eInt .i64) 1 A1 m c1 l).p w) (hrng : ∀ x ∈ l, -9223372036854775808 ≤ x ∧ x ≤ 9223372036854775807) : RetL 25 [csV c q, .slice A1 m c1] w (heightsF c l) := by
  have e1 := hl.1.1; subst e1; exact f25' c q l A1 c1 w hwf hl hrng
theorem min_set {c : Cs} (hw : WF c) {G H : List Int} (hH : RightH c H) (hG : RightH c G) {k : Nat} (hk : k < c.N) : RightH c (G.set k (if H.getD k 0 < G.getD k 0 then H.getD k 0 else G.getD k 0)) := by
  have hl := hG.len
  have get := fun v => set_get (D := G) (u := k) (z := if H.getD k 0 < G.getD k 0 then H.getD k 0 else G.getD k 0) (by omega) v
  have h1 := hG.rng k hk
  have h2 := hH.rng k hk
  refine ⟨by rw [List.length_set]; exact hl, fun v hv => ?_, ?_, ?_⟩
  · rw [get v]
    split
    · split <;> omega
    · exact hG.rng v hv
  · rw [get]
    split
    · rename_i e; rw [← e, hH.t, hG.t]; rfl
    · exact hG.t
  · rw [get]
    split
    · rename_i e; rw [← e, hH.s, hG.s]; split <;> rfl
    · exact hG.s
theorem dec_right {c : Cs} {G : List Int} (hG : RightH c G) {u : Nat} (hu : u < c.N) (hS : u ≠ c.S) (hT : u ≠ c.T) (h : 1 < G.getD u 0) : RightH c (G.set u (G.getD u 0 - 1)) := by
  have hl := hG.len
  have get := fun v => set_get (D := G) (u := u) (z := G.getD u 0 - 1) (by omega) v
  have h1 := hG.rng u hu
  refine ⟨by rw [List.length_set]; exact hl, fun v hv => ?_, ?_, ?_⟩
  · rw [get v]
    split
    · omega
    · exact hG.rng v hv
  · rw [get, if_neg fun e => hT e.symm]; exact hG.t
  · rw [get, if_neg fun e => hS e.symm]; exact hG.s
theorem steep_mem {c : Cs} {res G : List Int} {x : Int} (hm : mayB c res G = true) (hx : x ∈ steepL c res G) : ∃ a : Nat, a < c.Head.length ∧ x = a ∧ tailOf c a ≠ c.S ∧ 1 < G.getD (tailOf c a) 0 - G.getD (c.Head.getD a 0).toNat 0 := by
  unfold steepL at hx
  rw [downL_may hm] at hx
  obtain ⟨a, h1, h2, rfl⟩ := filt_mem.1 hx
  unfold downP at h2
  simp only [Bool.and_eq_true, decide_eq_true_eq, Bool.not_eq_true', decide_eq_false_iff_not] at h2
  exact ⟨a, h1, rfl, by omega, h2.2⟩

set_option maxHeartbeats 1000000 in
set_option maxRecDepth 10000 in
/-- acequialaw19.RepairGreatest. -/
theorem f17 (n : Nt) (A : Option Addr) (c : Nat) (l : List Int) (A1 : Option Addr) (c1 : Nat) (h : List Int) (A2 : Option Addr) (c2 : Nat) (g : List Int) (A3 : Option Addr) (c3 : Nat) (w : World) (ha : (sl eArc 3 A n.arcs.length c n.arcs).p w) (hrgn : (-9223372036854775808 ≤ n.N ∧ n.N ≤ 9223372036854775807) ∧ (-9223372036854775808 ≤ n.S ∧ n.S ≤ 9223372036854775807) ∧ (-9223372036854775808 ≤ n.T ∧ n.T ≤ 9223372036854775807) ∧ ∀ a ∈ n.arcs, -9223372036854775808 ≤ a.1 ∧ a.1 ≤ 9223372036854775807 ∧ -9223372036854775808 ≤ a.2.1 ∧ a.2.1 ≤ 9223372036854775807 ∧ -9223372036854775808 ≤ a.2.2 ∧ a.2.2 ≤ 9223372036854775807) (hl : (sl (eInt .i64) 1 A1 l.length c1 l).p w) (hrgl : ∀ x ∈ l, -9223372036854775808 ≤ x ∧ x ≤ 9223372036854775807) (hh : (sl (eInt .i64) 1 A2 h.length c2 h).p w) (hrgh : ∀ x ∈ h, -9223372036854775808 ≤ x ∧ x ≤ 9223372036854775807) (hgg : (sl (eInt .i64) 1 A3 g.length c3 g).p w) (hrgg : ∀ x ∈ g, -9223372036854775808 ≤ x ∧ x ≤ 9223372036854775807) :
    Calls Try.prog 17 #[netV n A c, .slice A1 l.length c1, .slice A2 h.length c2, .slice A3 g.length c3] w fun e w' => e = .returned (.bool true) ∧ Gr w w' := by
  refine calls_cw Try.func17 rfl Try.ntmps17 rfl ?_
  have hS := ((((St.start w).args (Nat.le_refl _) _ ha rfl).args (Nat.le_refl _) _ hl rfl).args (Nat.le_refl _) _ hh rfl).args (Nat.le_refl _) _ hgg rfl
  refine cw_seq ?_
  -- region 0
  refine cw_region ?_
  refine lw_box rfl rfl rfl rfl hS ?_
  clear hS; intro b4 w1 _ _ hS
  refine lw_v rfl rfl (ok_assign rfl (.n rfl) rfl) ?_
  refine lw_nil ?_
  refine Ends.keep [(1, .eq _), (2, .eq _), (3, .eq _), (4, .eq _)] (.cons rfl (.cons rfl (.cons rfl (.cons rfl .nil)))) ?_
  refine ends_then ?_
  refine cw_seq ?_
  -- region 1
  refine cw_region ?_
  refine lw_v rfl rfl (ok_ldS rfl (.n rfl) rfl Try.isAgg24 Try.sizeOf24 hS rfl) ?_
  refine lw_call (f := 24) (xs := [_, _, _]) rfl rfl rfl Try.call24 rfl (Calls.mono (f24a n A c _ (hS.rd A (by have := ha.2.1; omega)) hrgn) ?_)
  rintro e w' ⟨n1, AS, cS, hok, rfl, hg, hfr, ho⟩
  replace hS := hS.new hg _ ho hfr; clear hg ho hfr
  refine ⟨_, rfl, ?_⟩
  refine lw_v rfl rfl (ok_move rfl (.n rfl) rfl) ?_
  refine lw_call (f := 23) (xs := [_, _]) rfl rfl rfl Try.call23 rfl (Calls.mono (f23a n1 AS cS l A1 c1 _ hok (hS.rd AS (by have := hok.len; omega)) (hS.rd A1 hl.2.1) hl.2.1 hrgl) ?_)
  rintro e w' ⟨C, R, q, A6, c6, ⟨hwf, hro⟩, rfl, hg, hnew, hat, hfr, hap, ho⟩
  replace hS := hS.left hg hat hnew ho hfr hap; clear hg hnew hat hfr hap ho
  replace hS := hS.sub (.cons_cons _ (.cons_cons _ (.cons_cons _ (.cons_cons _ (.cons_cons _ (.cons_cons _ (.cons_cons _ (.cons _ (.cons _ (List.Sublist.refl _))))))))))
  have hM := hwf.m
  have hrlen := hro.len
  have hN := hwf.hi
  have hlo := hwf.lo
  replace hS := hS.freeze .here (by omega)
  have hl1 := heightsF_len C h
  have hl2 := heightsF_len C g
  have hCS := hwf.s
  have hCT := hwf.t
  obtain ⟨K, hK⟩ : ∃ K, K = C.N * C.N := ⟨_, rfl⟩
  have hK2 : ((2 : Int) * (C.N : Int)) * (C.N : Int) = 2 * (K : Int) := by rw [hK, Int.natCast_mul, Int.mul_assoc]
  have hKb : K ≤ 16 * 16 := by rw [hK]; exact Nat.mul_le_mul hN hN
  have hK0 : 2 * 2 ≤ K := by rw [hK]; exact Nat.mul_le_mul hlo hlo
  refine ⟨_, rfl, ?_⟩
  refine lw_v rfl rfl (ok_move rfl (.n rfl) rfl) ?_
  refine lw_v rfl rfl (ok_extract rfl (.n rfl) rfl rfl) ?_
  refine lw_v rfl rfl (ok_extract rfl (.n rfl) rfl rfl) ?_
  refine lw_alloc rfl rfl rfl Try.zeroValue29 hS ?_
  clear hS; intro b9 w2 _ _ hS
  refine lw_stS rfl rfl rfl rfl rfl (by kernel_rfl) hS rfl (by rfl) (by rfl) ?_
  clear hS; intro w3 hS
  refine lw_v rfl rfl (ok_assign rfl (.n rfl) rfl) ?_
  refine lw_nil ?_
  refine Ends.keep [(2, .eq _), (3, .eq _), (9, .eq _), (10, .eq _)] (.cons rfl (.cons rfl (.cons rfl (.cons rfl .nil)))) ?_
  refine ends_then ?_
  refine cw_seq ?_
  -- region 2
  refine cw_draw (by kernel_rfl) (List.take 5 _) (List.drop 5 _) (List.take_append_drop 5 _).symm (by kernel_rfl) ?_
  refine free_v (ok_ldS rfl (.n rfl) rfl Try.isAgg29 Try.sizeOf29 hS rfl) ?_
  refine free_v (ok_move rfl (.n rfl) rfl) ?_
  refine free_cons (ok_callL rfl rfl Try.call25 rfl (fun w' hg => f25r C q h A2 c2 w' hwf ((hS.grow hg).rd A2 hh.2.1) hrgh)) ?_
  refine free_v (ok_ldS rfl (.n rfl) rfl Try.isAgg29 Try.sizeOf29 hS rfl) ?_
  refine free_v (ok_move rfl (.n rfl) rfl) ?_
  refine free_nil ?_
  intro wz hg_
  refine LW.opened (s := 26) rfl ?_
  rintro _ ⟨A26, c26, rfl, ho26, hf26⟩
  replace hS := hS.one' hg_ ho26 hf26 (by omega); clear hg_ ho26 hf26
  refine lw_call (f := 25) (xs := [_, _]) rfl rfl rfl Try.call25 rfl (Calls.mono (f25r C q g A3 c3 _ hwf (hS.rd A3 hgg.2.1) hrgg) ?_)
  rintro e w' ⟨A29, c29, rfl, hg, hfr, ho⟩
  replace hS := hS.new hg _ ho hfr; clear hg ho hfr
  have hH := heightsF_right hwf h
  have hG := heightsF_right hwf g
  generalize heightsF C h = H at hS hl1 hH ⊢
  generalize heightsF C g = G at hS hl2 hG ⊢
  rw [hl2] at hS ⊢
  refine ⟨_, rfl, ?_⟩
  refine lw_v rfl rfl (ok_assign rfl (.n rfl) rfl) ?_
  refine lw_v rfl rfl (ok_assign rfl (.n rfl) rfl) ?_
  refine lw_nil ?_
  refine Ends.keep [(2, .eq _), (3, .eq _), (9, .eq _), (10, .eq _)] (.cons rfl (.cons rfl (.cons rfl (.cons rfl .nil)))) ?_
  refine ends_then ?_
  refine cw_seq ?_
  -- region 3
  refine cw_region ?_
  refine lw_v rfl rfl (ok_ldS rfl (.n rfl) rfl Try.isAgg29 Try.sizeOf29 hS rfl) ?_
  refine lw_v rfl rfl (ok_move rfl (.n rfl) rfl) ?_
  refine lw_v rfl rfl (ok_move rfl (.n rfl) rfl) ?_
  refine lw_call (f := 48) (xs := [_, _, _]) rfl rfl rfl Try.call48 rfl (Calls.mono (f48 C q R H A6 c6 A26 c26 _ hwf (hS.cs q) (hS.rd A6 (by omega)) (hS.rd A26 (by omega))) ?_)
  rintro e w' ⟨A33, c33, rfl, hg, hfr, ho⟩
  replace hS := hS.new hg _ ho hfr; clear hg ho hfr
  have hm : mayB C R H = true := (may_iff hwf).2 ⟨hrlen, hH⟩
  have hL := lowerL_low hwf hm
  generalize lowerL C R H = D at hS hL ⊢
  have hDl := hL.len
  have hDr := low_right hwf hH hL
  have hmD : mayB C R D = true := (may_iff hwf).2 ⟨hrlen, hDr⟩
  have hvD : validB C R D = true := (valid_iff hwf).2 ⟨hmD, low_flatly hL⟩
  have hDS : D.getD (C.S : Int).toNat 0 = (C.N : Int) := hDr.s
  have hDT : D.getD (C.T : Int).toNat 0 = 0 := hDr.t
  replace hS := hS.freeze .here (by omega)
  refine ⟨_, rfl, ?_⟩
  refine lw_v rfl rfl (ok_assign rfl (.n rfl) rfl) ?_
  refine lw_nil ?_
  refine Ends.keep [(2, .eq _), (3, .eq _), (9, .eq _), (10, .eq _), (11, .eq _)] (.cons rfl (.cons rfl (.cons rfl (.cons rfl (.cons rfl .nil))))) ?_
  refine ends_then ?_
  refine cw_seq ?_
  refine cw_seq ?_
  -- region 4
  refine cw_draw (by kernel_rfl) (List.take 26 _) (List.drop 26 _) (List.take_append_drop 26 _).symm (by kernel_rfl) ?_
  refine free_v (ok_ldS rfl (.n rfl) rfl Try.isAgg29 Try.sizeOf29 hS rfl) ?_
  refine free_v (ok_move rfl (.n rfl) rfl) ?_
  refine free_v (ok_move rfl (.n rfl) rfl) ?_
  refine free_cons (ok_callv (.bool (validB C R D)) rfl rfl Try.call35 rfl (fun w' hg => f35g C q R D A6 c6 A33 c33 w' hwf ((hS.grow hg).cs q) ((hS.grow hg).rd A6 (by omega)) ((hS.grow hg).rd A33 (by omega)))) ?_
  refine free_v (ok_not rfl (.n rfl) rfl) ?_
  refine free_v (ok_move rfl (.n rfl) rfl) ?_
  refine free_v (ok_move rfl (.s rfl rfl) rfl) ?_
  refine free_v (ok_len rfl (.s rfl rfl) Try.underlying26 rfl) ?_
  refine free_v (ok_fb rfl (.s rfl rfl) Try.underlying29 rfl Try.sizeOf3 (by decide) rfl) ?_
  refine free_v (ok_ldb rfl (.s rfl rfl) rfl Try.isAgg3 hS (by rfl)) ?_
  refine free_v (ok_neq rfl (.s rfl rfl) rfl rfl) ?_
  refine free_v (ok_or rfl rfl rfl rfl) ?_
  refine free_v (ok_move rfl (.n rfl) rfl) ?_
  refine free_v (ok_move rfl (.s rfl rfl) rfl) ?_
  refine free_v (ok_fb rfl (.s rfl rfl) Try.underlying29 rfl Try.sizeOf3 (by decide) rfl) ?_
  refine free_v (ok_ldb rfl (.s rfl rfl) rfl Try.isAgg3 hS (by rfl)) ?_
  refine free_v (ok_ix rfl (.s rfl rfl) Try.underlying26 Try.sizeOf3 rfl rfl hS (fun _ => ⟨by omega, by omega⟩)) ?_
  refine free_v (ok_ldx rfl (.s rfl rfl) rfl Try.isAgg3 hS (fun _ => ⟨by omega, by omega⟩) (by rfl)) ?_
  refine free_v (ok_fb rfl (.s rfl rfl) Try.underlying29 rfl Try.sizeOf3 (by decide) rfl) ?_
  refine free_v (ok_ldb rfl (.s rfl rfl) rfl Try.isAgg3 hS (by rfl)) ?_
  refine free_v (ok_neq rfl (.s rfl rfl) rfl rfl) ?_
  refine free_v (ok_or rfl rfl rfl rfl) ?_
  refine free_v (ok_move rfl (.n rfl) rfl) ?_
  refine free_v (ok_move rfl (.s rfl rfl) rfl) ?_
  refine free_v (ok_fb rfl (.s rfl rfl) Try.underlying29 rfl Try.sizeOf3 (by decide) rfl) ?_
  refine free_v (ok_ldb rfl (.s rfl rfl) rfl Try.isAgg3 hS (by rfl)) ?_
  refine free_nil ?_
  intro w4 hg_; replace hS := hS.grow hg_; clear hg_
  refine lw_v rfl rfl (ok_ix rfl (.s rfl rfl) Try.underlying26 Try.sizeOf3 rfl rfl hS (fun _ => ⟨by omega, by omega⟩)) ?_
  refine lw_v rfl rfl (ok_ldx rfl (.s rfl rfl) rfl Try.isAgg3 hS (fun _ => ⟨by omega, by omega⟩) (by rfl)) ?_
  refine lw_v rfl rfl (ok_neq rfl (.s rfl rfl) rfl rfl) ?_
  refine lw_v rfl rfl (ok_or rfl rfl rfl rfl) ?_
  refine lw_nil ?_
  refine Ends.keep [(2, .eq _), (3, .eq _), (9, .eq _), (10, .eq _), (11, .eq _), (63, .eq _)] (.cons rfl (.cons rfl (.cons rfl (.cons rfl (.cons rfl (.cons rfl .nil)))))) ?_
  refine ends_then ?_
  refine cw_cond rfl (fun h63 => ?_) (fun h63 => ?_)
  ·
    rw [hvD, hDl, hDS, hDT] at h63
    simp at h63
  ·
    refine cw_skip ?_
    refine ends_then ?_
    refine cw_seq ?_
    refine cw_seq ?_
    -- region 6
    refine cw_region ?_
    refine lw_v rfl rfl (ok_move rfl (.n rfl) rfl) ?_
    refine lw_v rfl rfl (ok_len rfl (.n rfl) Try.underlying26 rfl) ?_
    refine lw_v rfl rfl (ok_move rfl (.n rfl) rfl) ?_
    refine lw_nil ?_
    refine Ends.keep [(2, .eq _), (3, .eq _), (9, .eq _), (10, .eq _), (11, .eq _), (65, .eq _), (66, .eq _)] (.cons rfl (.cons rfl (.cons rfl (.cons rfl (.cons rfl (.cons rfl (.cons rfl .nil))))))) ?_
    refine ends_then ?_
    refine cw_block ?_
    -- LOOP at region 7: changed live slots [66], kept [2, 3, 9, 10, 11, 65]
    refine cw_loop [(2, .eq _), (3, .eq _), (9, .eq _), (10, .eq _), (11, .eq _), (65, .eq _)] (fun k : Nat => [(66, .eq (.int .i64 k))]) (fun k w' => ∃ G : List Int, (k ≤ C.N ∧ RightH C G ∧ ∀ v, v < k → G.getD v 0 ≤ H.getD v 0) ∧ St w.heap.size w w' [sl (eInt .i64) 1 A33 D.length c33 D, own (eInt .i64) 1 3 A29 C.N c29 G, sl (eInt .i64) 1 A26 H.length c26 H, bx b9 (csV C q).cells.toList 29, sl (eInt .i64) 1 A6 R.length c6 R, sl (eInt .i64) 1 q.a0 C.First.length q.c0 C.First, sl (eInt .i64) 1 q.a1 C.Head.length q.c1 C.Head, sl (eInt .i64) 1 q.a2 C.Rev.length q.c2 C.Rev, sl (eInt .i64) 1 q.a3 C.Cap.length q.c3 C.Cap, sl (eInt .i64) 1 q.a4 C.Arc.length q.c4 C.Arc, sl eBool 1 q.a5 C.Back.length q.c5 C.Back, sl (eInt .i64) 1 A3 g.length c3 g, sl (eInt .i64) 1 A2 h.length c2 h, sl (eInt .i64) 1 A1 l.length c1 l, sl eArc 3 A n.arcs.length c n.arcs]) (fun k => C.N - k) 0 (.cons rfl (.cons rfl (.cons rfl (.cons rfl (.cons rfl (.cons rfl .nil)))))) (.cons rfl (.cons rfl (.cons rfl (.cons rfl (.cons rfl (.cons rfl (.cons rfl .nil))))))) ⟨G, ⟨Nat.zero_le _, hG, fun v hv => absurd hv (Nat.not_lt_zero v)⟩, hS⟩ ?_
    clear hS
    clear hG hl2
    rintro k wr ⟨G, ⟨hk, hG, hle⟩, hS⟩
    have hGl := hG.len
    refine cw_seq ?_
    -- region 7
    refine cw_region ?_
    refine lw_v rfl rfl (ok_lss rfl (.n rfl) rfl rfl) ?_
    refine lw_nil ?_
    refine Ends.keep [(2, .eq _), (3, .eq _), (9, .eq _), (10, .eq _), (11, .eq _), (65, .eq _), (66, .eq _), (67, .eq _)] (.cons rfl (.cons rfl (.cons rfl (.cons rfl (.cons rfl (.cons rfl (.cons rfl (.cons rfl .nil)))))))) ?_
    refine ends_then ?_
    refine cw_seq ?_
    refine cw_cond rfl (fun h67 => ?_) (fun h67 => ?_)
    ·
      have hkN : k < C.N := by have := of_decide_eq_true h67; omega
      have hDk : D.getD (k : Int).toNat 0 ≤ H.getD (k : Int).toNat 0 := hL.le k hkN
      refine cw_skip ?_
      refine ends_then ?_
      refine cw_seq ?_
      refine cw_block ?_
      refine cw_seq ?_
      -- region 8
      refine cw_region ?_
      refine lw_v rfl rfl (ok_move rfl (.n rfl) rfl) ?_
      refine lw_v rfl rfl (ok_assign rfl (.n rfl) rfl) ?_
      refine lw_nil ?_
      refine Ends.keep [(2, .eq _), (3, .eq _), (9, .eq _), (10, .eq _), (11, .eq _), (12, .eq _), (65, .eq _), (66, .eq _)] (.cons rfl (.cons rfl (.cons rfl (.cons rfl (.cons rfl (.cons rfl (.cons rfl (.cons rfl .nil)))))))) ?_
      refine ends_then ?_
      refine cw_seq ?_
      refine cw_seq ?_
      -- region 9
      refine cw_draw (by kernel_rfl) (List.take 8 _) (List.drop 8 _) (List.take_append_drop 8 _).symm (by kernel_rfl) ?_
      refine free_v (ok_move rfl (.n rfl) rfl) ?_
      refine free_v (ok_move rfl (.n rfl) rfl) ?_
      refine free_v (ok_ix rfl (.n rfl) Try.underlying26 Try.sizeOf3 rfl rfl hS (fun _ => ⟨by omega, by omega⟩)) ?_
      refine free_v (ok_ldx rfl (.n rfl) rfl Try.isAgg3 hS (fun _ => ⟨by omega, by omega⟩) (by rfl)) ?_
      refine free_v (ok_move rfl (.n rfl) rfl) ?_
      refine free_v (ok_move rfl (.n rfl) rfl) ?_
      refine free_v (ok_ix rfl (.n rfl) Try.underlying26 Try.sizeOf3 rfl rfl hS (fun _ => ⟨by omega, by omega⟩)) ?_
      refine free_v (ok_ldx rfl (.n rfl) rfl Try.isAgg3 hS (fun _ => ⟨by omega, by omega⟩) (by rfl)) ?_
      refine free_nil ?_
      intro w5 hg_; replace hS := hS.grow hg_; clear hg_
      refine lw_v rfl rfl (ok_gtr rfl (.n rfl) rfl rfl) ?_
      refine lw_nil ?_
      refine Ends.keep [(2, .eq _), (3, .eq _), (9, .eq _), (10, .eq _), (11, .eq _), (12, .eq _), (65, .eq _), (66, .eq _), (77, .eq _)] (.cons rfl (.cons rfl (.cons rfl (.cons rfl (.cons rfl (.cons rfl (.cons rfl (.cons rfl (.cons rfl .nil))))))))) ?_
      refine ends_then ?_
      refine cw_cond rfl (fun h77 => ?_) (fun h77 => ?_)
      ·
        have := of_decide_eq_true h77; omega
      ·
        refine cw_skip ?_
        refine ends_then ?_
        -- region 11
        refine cw_draw (by kernel_rfl) (List.take 11 _) (List.drop 11 _) (List.take_append_drop 11 _).symm (by kernel_rfl) ?_
        refine free_v (ok_move rfl (.n rfl) rfl) ?_
        refine free_v (ok_move rfl (.n rfl) rfl) ?_
        refine free_v (ok_move rfl (.n rfl) rfl) ?_
        refine free_v (ok_move rfl (.n rfl) rfl) ?_
        refine free_v (ok_ix rfl (.n rfl) Try.underlying26 Try.sizeOf3 rfl rfl hS (fun _ => ⟨by omega, by omega⟩)) ?_
        refine free_v (ok_ldx rfl (.n rfl) rfl Try.isAgg3 hS (fun _ => ⟨by omega, by omega⟩) (by rfl)) ?_
        refine free_v (ok_move rfl (.n rfl) rfl) ?_
        refine free_v (ok_move rfl (.n rfl) rfl) ?_
        refine free_v (ok_ix rfl (.n rfl) Try.underlying26 Try.sizeOf3 rfl rfl hS (fun _ => ⟨by omega, by omega⟩)) ?_
        refine free_v (ok_ldx rfl (.n rfl) rfl Try.isAgg3 hS (fun _ => ⟨by omega, by omega⟩) (by rfl)) ?_
        refine free_v (ok_min2 rfl (.n rfl) rfl rfl) ?_
        refine free_nil ?_
        intro w6 hg_; replace hS := hS.grow hg_; clear hg_
        refine lw_v rfl rfl (ok_ix rfl (.n rfl) Try.underlying26 Try.sizeOf3 rfl rfl hS (fun _ => ⟨by omega, by omega⟩)) ?_
        refine lw_stx (enc := (eInt .i64)) (_) rfl rfl rfl rfl rfl rfl Try.sizeOf3 hS (⟨by omega, by omega⟩) ?_
        clear hS; intro w7 hS
        refine lw_nil ?_
        refine in_normal (?_)
        refine Ends.keep [(2, .eq _), (3, .eq _), (9, .eq _), (10, .eq _), (11, .eq _), (65, .eq _), (66, .eq _)] (.cons rfl (.cons rfl (.cons rfl (.cons rfl (.cons rfl (.cons rfl (.cons rfl .nil))))))) ?_
        refine ends_then ?_
        -- region 12
        refine cw_region ?_
        refine lw_v rfl rfl (ok_addi rfl (.n rfl) rfl rfl (fun _ => ⟨by omega, by omega⟩)) ?_
        refine lw_v rfl rfl (ok_move rfl (.n rfl) rfl) ?_
        refine lw_nil ?_
        -- BACK
        refine ends_back (k + 1) (.cons rfl (.cons rfl (.cons rfl (.cons rfl (.cons rfl (.cons rfl (.cons rfl .nil))))))) ⟨_, ⟨by omega, min_set hwf hH hG hkN, fun v hv => ?_⟩, hS⟩ (by omega)
        rw [set_get (by rw [hGl]; exact hkN)]
        split
        · rename_i e; subst e; split <;> omega
        · rename_i e; exact hle v (by have : v ≠ k := e; omega)
    ·
      have hke : k = C.N := by have := of_decide_eq_false h67; omega
      refine cw_exit ?_
      refine then_exit (then_exit (in_exit (?_)))
      refine Ends.keep [(3, .eq _), (9, .eq _), (10, .eq _), (11, .eq _)] (.cons rfl (.cons rfl (.cons rfl (.cons rfl .nil)))) ?_
      refine ends_then ?_
      refine cw_seq ?_
      refine cw_seq ?_
      -- region 13
      refine cw_region ?_
      refine lw_v rfl rfl (ok_fb rfl (.n rfl) Try.underlying29 rfl Try.sizeOf3 (by decide) rfl) ?_
      refine lw_v rfl rfl (ok_ldb rfl (.n rfl) rfl Try.isAgg3 hS (by rfl)) ?_
      refine lw_v rfl rfl (ok_muli rfl (.n rfl) rfl rfl (fun _ => ⟨by omega, by omega⟩)) ?_
      refine lw_v rfl rfl (ok_fb rfl (.n rfl) Try.underlying29 rfl Try.sizeOf3 (by decide) rfl) ?_
      refine lw_v rfl rfl (ok_ldb rfl (.n rfl) rfl Try.isAgg3 hS (by rfl)) ?_
      refine lw_v rfl rfl (ok_eq (ok_muli rfl (.n rfl) rfl rfl (fun _ => ⟨by rw [hK2]; omega, by rw [hK2]; omega⟩)) (c' := .int .i64 (2 * (K : Int))) (fun _ => congrArg (Value.int .i64) hK2)) ?_
      refine lw_v rfl rfl (ok_move rfl (.n rfl) rfl) ?_
      refine lw_nil ?_
      refine Ends.keep [(3, .eq _), (9, .eq _), (10, .eq _), (11, .eq _), (96, .eq _), (97, .eq _)] (.cons rfl (.cons rfl (.cons rfl (.cons rfl (.cons rfl (.cons rfl .nil)))))) ?_
      refine ends_then ?_
      refine cw_block ?_
      -- LOOP at region 14: changed live slots [97], kept [3, 9, 10, 11, 96]
      refine cw_loop [(3, .eq _), (9, .eq _), (10, .eq _), (11, .eq _), (96, .eq _)] (fun i : Nat => [(97, .eq (.int .i64 i))]) (fun i w' => ∃ G : List Int, (RightH C G ∧ (∀ v, v < C.N → G.getD v 0 ≤ H.getD v 0) ∧ tot G + i ≤ K) ∧ St w.heap.size w w' [sl (eInt .i64) 1 A33 D.length c33 D, own (eInt .i64) 1 3 A29 C.N c29 G, sl (eInt .i64) 1 A26 H.length c26 H, bx b9 (csV C q).cells.toList 29, sl (eInt .i64) 1 A6 R.length c6 R, sl (eInt .i64) 1 q.a0 C.First.length q.c0 C.First, sl (eInt .i64) 1 q.a1 C.Head.length q.c1 C.Head, sl (eInt .i64) 1 q.a2 C.Rev.length q.c2 C.Rev, sl (eInt .i64) 1 q.a3 C.Cap.length q.c3 C.Cap, sl (eInt .i64) 1 q.a4 C.Arc.length q.c4 C.Arc, sl eBool 1 q.a5 C.Back.length q.c5 C.Back, sl (eInt .i64) 1 A3 g.length c3 g, sl (eInt .i64) 1 A2 h.length c2 h, sl (eInt .i64) 1 A1 l.length c1 l, sl eArc 3 A n.arcs.length c n.arcs]) (fun i => K - i) 0 (.cons rfl (.cons rfl (.cons rfl (.cons rfl (.cons rfl .nil))))) (.cons rfl (.cons rfl (.cons rfl (.cons rfl (.cons rfl (.cons rfl .nil)))))) ⟨G, ⟨hG, fun v hv => hle v (by omega), by have := tot_le hGl (b := C.N) fun y hy => (hG.rng y hy).2; omega⟩, hS⟩ ?_
      clear hS
      clear hG hle hGl
      rintro i wr ⟨G, ⟨hG, hle, hti⟩, hS⟩
      have hGl := hG.len
      refine cw_seq ?_
      -- region 14
      refine cw_region ?_
      refine lw_v rfl rfl (ok_lss rfl (.n rfl) rfl rfl) ?_
      refine lw_nil ?_
      refine Ends.keep [(3, .eq _), (9, .eq _), (10, .eq _), (11, .eq _), (96, .eq _), (97, .eq _), (98, .eq _)] (.cons rfl (.cons rfl (.cons rfl (.cons rfl (.cons rfl (.cons rfl (.cons rfl .nil))))))) ?_
      refine ends_then ?_
      refine cw_seq ?_
      refine cw_cond rfl (fun h98 => ?_) (fun h98 => ?_)
      ·
        have hi2 : (i : Int) < 2 * (K : Int) := of_decide_eq_true h98
        refine cw_skip ?_
        refine ends_then ?_
        refine cw_seq ?_
        refine cw_block ?_
        refine cw_seq ?_
        -- region 15
        refine cw_region ?_
        refine lw_v rfl rfl (ok_ldS rfl (.n rfl) rfl Try.isAgg29 Try.sizeOf29 hS rfl) ?_
        refine lw_v rfl rfl (ok_move rfl (.n rfl) rfl) ?_
        refine lw_v rfl rfl (ok_move rfl (.n rfl) rfl) ?_
        refine lw_call (f := 31) (xs := [_, _, _]) rfl rfl rfl Try.call31 rfl (Calls.mono (f31g C q R G A6 c6 A29 c29 _ hwf (hS.cs q) (hS.rd A6 (by omega)) (hS.rd A29 (by omega))) ?_)
        rintro e w' ⟨A102, c102, rfl, hg, hfr, ho⟩
        replace hS := hS.new hg _ ho hfr; clear hg ho hfr
        have hmG : mayB C R G = true := (may_iff hwf).2 ⟨hrlen, hG⟩
        have hSTl := steepL_len hwf R G
        have hSTm := fun x => steep_mem (c := C) (x := x) hmG
        have hST0 := steep_none hwf hmG
        generalize steepL C R G = ST at hS hSTl hSTm hST0 ⊢
        replace hS := hS.freeze .here (by omega)
        refine ⟨_, rfl, ?_⟩
        refine lw_v rfl rfl (ok_assign rfl (.n rfl) rfl) ?_
        refine lw_nil ?_
        refine Ends.keep [(3, .eq _), (9, .eq _), (10, .eq _), (11, .eq _), (13, .eq _), (96, .eq _), (97, .eq _)] (.cons rfl (.cons rfl (.cons rfl (.cons rfl (.cons rfl (.cons rfl (.cons rfl .nil))))))) ?_
        refine ends_then ?_
        refine cw_seq ?_
        refine cw_seq ?_
        -- region 16
        refine cw_region ?_
        refine lw_v rfl rfl (ok_move rfl (.n rfl) rfl) ?_
        refine lw_v rfl rfl (ok_len rfl (.n rfl) Try.underlying26 rfl) ?_
        refine lw_v rfl rfl (ok_eql rfl (.n rfl) rfl rfl) ?_
        refine lw_nil ?_
        refine Ends.keep [(3, .eq _), (9, .eq _), (10, .eq _), (11, .eq _), (13, .eq _), (96, .eq _), (97, .eq _), (105, .eq _)] (.cons rfl (.cons rfl (.cons rfl (.cons rfl (.cons rfl (.cons rfl (.cons rfl (.cons rfl .nil)))))))) ?_
        refine ends_then ?_
        refine cw_cond rfl (fun h105 => ?_) (fun h105 => ?_)
        ·
          have hnil : ST = [] := List.eq_nil_of_length_eq_zero (by have := of_decide_eq_true h105; omega)
          have hfl := hST0.1 hnil
          have hvG : validB C R G = true := (valid_iff hwf).2 ⟨hmG, hfl⟩
          have hgr := hL.greatest (x := fun v => G.getD v 0) hle hfl
          refine cw_exit ?_
          refine then_exit (in_other rfl (then_exit (then_exit (in_exit (?_)))))
          refine Ends.keep [(3, .eq _), (9, .eq _), (10, .eq _), (11, .eq _)] (.cons rfl (.cons rfl (.cons rfl (.cons rfl .nil)))) ?_
          refine ends_then ?_
          refine cw_seq ?_
          refine cw_seq ?_
          -- region 22
          refine cw_region ?_
          refine lw_v rfl rfl (ok_ldS rfl (.n rfl) rfl Try.isAgg29 Try.sizeOf29 hS rfl) ?_
          refine lw_v rfl rfl (ok_move rfl (.n rfl) rfl) ?_
          refine lw_v rfl rfl (ok_move rfl (.n rfl) rfl) ?_
          refine lw_call (f := 35) (xs := [_, _, _]) rfl rfl rfl Try.call35 rfl (Calls.mono (f35g C q R G A6 c6 A29 c29 _ hwf (hS.cs q) (hS.rd A6 (by omega)) (hS.rd A29 (by omega))) ?_)
          rintro e w' ⟨rfl, hg⟩
          replace hS := hS.grow hg; clear hg
          refine ⟨_, rfl, ?_⟩
          refine lw_v rfl rfl (ok_not rfl (.n rfl) rfl) ?_
          refine lw_nil ?_
          refine Ends.keep [(3, .eq _), (11, .eq _), (142, .eq _)] (.cons rfl (.cons rfl (.cons rfl .nil))) ?_
          refine ends_then ?_
          refine cw_cond rfl (fun h142 => ?_) (fun h142 => ?_)
          ·
            rw [hvG] at h142
            cases h142
          ·
            refine cw_skip ?_
            refine ends_then ?_
            refine cw_seq ?_
            refine cw_seq ?_
            -- region 24
            refine cw_region ?_
            refine lw_v rfl rfl (ok_move rfl (.n rfl) rfl) ?_
            refine lw_v rfl rfl (ok_len rfl (.n rfl) Try.underlying26 rfl) ?_
            refine lw_v rfl rfl (ok_move rfl (.n rfl) rfl) ?_
            refine lw_nil ?_
            refine Ends.keep [(3, .eq _), (11, .eq _), (144, .eq _), (145, .eq _)] (.cons rfl (.cons rfl (.cons rfl (.cons rfl .nil)))) ?_
            refine ends_then ?_
            refine cw_block ?_
            -- LOOP at region 25: changed live slots [145], kept [3, 11, 144]
            refine cw_loop [(3, .eq _), (11, .eq _), (144, .eq _)] (fun k : Nat => [(145, .eq (.int .i64 k))]) (fun k w' => k ≤ C.N ∧ St w.heap.size w w' [sl (eInt .i64) 1 A102 ST.length c102 ST, sl (eInt .i64) 1 A33 D.length c33 D, own (eInt .i64) 1 3 A29 C.N c29 G, sl (eInt .i64) 1 A26 H.length c26 H, bx b9 (csV C q).cells.toList 29, sl (eInt .i64) 1 A6 R.length c6 R, sl (eInt .i64) 1 q.a0 C.First.length q.c0 C.First, sl (eInt .i64) 1 q.a1 C.Head.length q.c1 C.Head, sl (eInt .i64) 1 q.a2 C.Rev.length q.c2 C.Rev, sl (eInt .i64) 1 q.a3 C.Cap.length q.c3 C.Cap, sl (eInt .i64) 1 q.a4 C.Arc.length q.c4 C.Arc, sl eBool 1 q.a5 C.Back.length q.c5 C.Back, sl (eInt .i64) 1 A3 g.length c3 g, sl (eInt .i64) 1 A2 h.length c2 h, sl (eInt .i64) 1 A1 l.length c1 l, sl eArc 3 A n.arcs.length c n.arcs]) (fun k => C.N - k) 0 (.cons rfl (.cons rfl (.cons rfl .nil))) (.cons rfl (.cons rfl (.cons rfl (.cons rfl .nil)))) ⟨Nat.zero_le _, hS⟩ ?_
            clear hS
            rintro k wr ⟨hk, hS⟩
            refine cw_seq ?_
            -- region 25
            refine cw_region ?_
            refine lw_v rfl rfl (ok_lss rfl (.n rfl) rfl rfl) ?_
            refine lw_nil ?_
            refine Ends.keep [(3, .eq _), (11, .eq _), (144, .eq _), (145, .eq _), (146, .eq _)] (.cons rfl (.cons rfl (.cons rfl (.cons rfl (.cons rfl .nil))))) ?_
            refine ends_then ?_
            refine cw_seq ?_
            refine cw_cond rfl (fun h146 => ?_) (fun h146 => ?_)
            ·
              have hkN : k < C.N := by have := of_decide_eq_true h146; omega
              have hgk : G.getD (k : Int).toNat 0 ≤ D.getD (k : Int).toNat 0 := hgr k hkN
              refine cw_skip ?_
              refine ends_then ?_
              refine cw_seq ?_
              refine cw_block ?_
              refine cw_seq ?_
              -- region 26
              refine cw_region ?_
              refine lw_v rfl rfl (ok_move rfl (.n rfl) rfl) ?_
              refine lw_v rfl rfl (ok_assign rfl (.n rfl) rfl) ?_
              refine lw_nil ?_
              refine Ends.keep [(3, .eq _), (11, .eq _), (16, .eq _), (144, .eq _), (145, .eq _)] (.cons rfl (.cons rfl (.cons rfl (.cons rfl (.cons rfl .nil))))) ?_
              refine ends_then ?_
              refine cw_seq ?_
              -- region 27
              refine cw_draw (by kernel_rfl) (List.take 8 _) (List.drop 8 _) (List.take_append_drop 8 _).symm (by kernel_rfl) ?_
              refine free_v (ok_move rfl (.n rfl) rfl) ?_
              refine free_v (ok_move rfl (.n rfl) rfl) ?_
              refine free_v (ok_ix rfl (.n rfl) Try.underlying26 Try.sizeOf3 rfl rfl hS (fun _ => ⟨by omega, by omega⟩)) ?_
              refine free_v (ok_ldx rfl (.n rfl) rfl Try.isAgg3 hS (fun _ => ⟨by omega, by omega⟩) (by rfl)) ?_
              refine free_v (ok_move rfl (.n rfl) rfl) ?_
              refine free_v (ok_move rfl (.n rfl) rfl) ?_
              refine free_v (ok_ix rfl (.n rfl) Try.underlying26 Try.sizeOf3 rfl rfl hS (fun _ => ⟨by omega, by omega⟩)) ?_
              refine free_v (ok_ldx rfl (.n rfl) rfl Try.isAgg3 hS (fun _ => ⟨by omega, by omega⟩) (by rfl)) ?_
              refine free_nil ?_
              intro w8 hg_; replace hS := hS.grow hg_; clear hg_
              refine lw_v rfl rfl (ok_gtr rfl (.n rfl) rfl rfl) ?_
              refine lw_nil ?_
              refine Ends.keep [(3, .eq _), (11, .eq _), (144, .eq _), (145, .eq _), (156, .eq _)] (.cons rfl (.cons rfl (.cons rfl (.cons rfl (.cons rfl .nil))))) ?_
              refine ends_then ?_
              refine cw_cond rfl (fun h156 => ?_) (fun h156 => ?_)
              ·
                have := of_decide_eq_true h156; omega
              ·
                refine cw_skip ?_
                refine in_normal (?_)
                refine ends_then ?_
                -- region 29
                refine cw_region ?_
                refine lw_v rfl rfl (ok_addi rfl (.n rfl) rfl rfl (fun _ => ⟨by omega, by omega⟩)) ?_
                refine lw_v rfl rfl (ok_move rfl (.n rfl) rfl) ?_
                refine lw_nil ?_
                -- BACK
                refine ends_back (k + 1) (.cons rfl (.cons rfl (.cons rfl (.cons rfl .nil)))) ⟨by omega, hS⟩ (by omega)
            ·
              refine cw_exit ?_
              refine then_exit (then_exit (in_exit (?_)))
              refine Ends.keep [] .nil ?_
              refine ends_then ?_
              refine cw_seq ?_
              -- region 30
              refine cw_region ?_
              refine lw_call (f := 53) (xs := []) rfl rfl rfl Try.call53 rfl (Calls.mono (f53 _) ?_)
              rintro e w' ⟨rfl, hg⟩
              replace hS := hS.grow hg; clear hg
              refine ⟨_, rfl, ?_⟩
              refine lw_v rfl rfl (ok_assign rfl (.n rfl) rfl) ?_
              refine lw_nil ?_
              refine Ends.keep [(8, .eq _)] (.cons rfl .nil) ?_
              refine ends_then ?_
              refine cw_ret ?_
              exact end_ret (res1 Try.results17 rfl) ⟨rfl, hS.below⟩
        ·
          have hp : 0 < ST.length := by have := of_decide_eq_false h105; omega
          obtain ⟨a, haM, hax, huS, hstp⟩ := hSTm _ (getD_memI (l := ST) (k := ST.length - 1) (by omega))
          have ha' : ST.getD ((ST.length : Int) - 1).toNat 0 = (a : Int) := by rw [show ((ST.length : Int) - 1).toNat = ST.length - 1 by omega]; exact hax
          have htN := (tail_at hwf haM).1
          obtain ⟨x, hx', hxN⟩ := head_at hwf haM
          have hGx : 0 ≤ G.getD (C.Head.getD a 0).toNat 0 := (hG.rng _ (by omega)).1
          have huT : tailOf C a ≠ C.T := fun e => by rw [e, hG.t] at hstp; omega
          have hG2 : 1 < G.getD (tailOf C a) 0 := by omega
          have hG3 : 1 < G.getD (((tailOf C a : Nat) : Int)).toNat 0 := hG2
          have hG4 : G.getD (((tailOf C a : Nat) : Int)).toNat 0 ≤ C.N := (hG.rng _ htN).2
          refine cw_skip ?_
          refine ends_then ?_
          refine cw_seq ?_
          -- region 17
          refine cw_draw (by kernel_rfl) (List.take 12 _) (List.drop 12 _) (List.take_append_drop 12 _).symm (by kernel_rfl) ?_
          refine free_v (ok_ldS rfl (.n rfl) rfl Try.isAgg29 Try.sizeOf29 hS rfl) ?_
          refine free_v (ok_move rfl (.n rfl) rfl) ?_
          refine free_v (ok_move rfl (.n rfl) rfl) ?_
          refine free_v (ok_len rfl (.n rfl) Try.underlying26 rfl) ?_
          refine free_v (ok_subi rfl (.n rfl) rfl rfl (fun _ => ⟨by omega, by omega⟩)) ?_
          refine free_v (ok_ix rfl (.n rfl) Try.underlying26 Try.sizeOf3 rfl rfl hS (fun _ => ⟨by omega, by omega⟩)) ?_
          refine free_v (ok_eq (ok_ldx rfl (.n rfl) rfl Try.isAgg3 hS (fun _ => ⟨by omega, by omega⟩) (by rfl)) (c' := .int .i64 (a : Int)) (fun _ => congrArg (Value.int .i64) ha')) ?_
          refine free_cons (ok_callv (.tuple #[.int .i64 (tailOf C a), .bool true]) rfl rfl Try.call40 rfl (fun w' hg => f40 C q a w' hwf ((hS.grow hg).cs q) haM)) ?_
          refine free_v (ok_move rfl (.n rfl) rfl) ?_
          refine free_v (ok_extract rfl (.n rfl) rfl rfl) ?_
          refine free_v (ok_extract rfl (.n rfl) rfl rfl) ?_
          refine free_v (ok_assign rfl (.n rfl) rfl) ?_
          refine free_nil ?_
          intro w9 hg_; replace hS := hS.grow hg_; clear hg_
          refine lw_v rfl rfl (ok_assign rfl (.n rfl) rfl) ?_
          refine lw_nil ?_
          refine Ends.keep [(3, .eq _), (9, .eq _), (10, .eq _), (11, .eq _), (14, .eq _), (15, .eq _), (96, .eq _), (97, .eq _)] (.cons rfl (.cons rfl (.cons rfl (.cons rfl (.cons rfl (.cons rfl (.cons rfl (.cons rfl .nil)))))))) ?_
          refine ends_then ?_
          refine cw_seq ?_
          refine cw_seq ?_
          -- region 18
          refine cw_region ?_
          refine lw_v rfl rfl (ok_move rfl (.n rfl) rfl) ?_
          refine lw_v rfl rfl (ok_not rfl (.n rfl) rfl) ?_
          refine lw_v rfl rfl (ok_move rfl (.n rfl) rfl) ?_
          refine lw_v rfl rfl (ok_move rfl (.s rfl rfl) rfl) ?_
          refine lw_v rfl rfl (ok_fb rfl (.s rfl rfl) Try.underlying29 rfl Try.sizeOf3 (by decide) rfl) ?_
          refine lw_v rfl rfl (ok_ldb rfl (.s rfl rfl) rfl Try.isAgg3 hS (by rfl)) ?_
          refine lw_v rfl rfl (ok_eql rfl (.s rfl rfl) rfl rfl) ?_
          refine lw_v rfl rfl (ok_or rfl rfl rfl rfl) ?_
          refine lw_v rfl rfl (ok_move rfl (.n rfl) rfl) ?_
          refine lw_v rfl rfl (ok_move rfl (.s rfl rfl) rfl) ?_
          refine lw_v rfl rfl (ok_fb rfl (.s rfl rfl) Try.underlying29 rfl Try.sizeOf3 (by decide) rfl) ?_
          refine lw_v rfl rfl (ok_ldb rfl (.s rfl rfl) rfl Try.isAgg3 hS (by rfl)) ?_
          refine lw_v rfl rfl (ok_eql rfl (.s rfl rfl) rfl rfl) ?_
          refine lw_v rfl rfl (ok_or rfl rfl rfl rfl) ?_
          refine lw_nil ?_
          refine Ends.keep [(3, .eq _), (9, .eq _), (10, .eq _), (11, .eq _), (14, .eq _), (96, .eq _), (97, .eq _), (130, .eq _)] (.cons rfl (.cons rfl (.cons rfl (.cons rfl (.cons rfl (.cons rfl (.cons rfl (.cons rfl .nil)))))))) ?_
          refine ends_then ?_
          refine cw_cond rfl (fun h130 => ?_) (fun h130 => ?_)
          ·
            rw [decide_eq_false (by omega : ¬ ((tailOf C a : Nat) : Int) = (C.S : Int)), decide_eq_false (by omega : ¬ ((tailOf C a : Nat) : Int) = (C.T : Int))] at h130
            simp at h130
          ·
            refine cw_skip ?_
            refine ends_then ?_
            -- region 20
            refine cw_region ?_
            refine lw_v rfl rfl (ok_move rfl (.n rfl) rfl) ?_
            refine lw_v rfl rfl (ok_move rfl (.n rfl) rfl) ?_
            refine lw_v rfl rfl (ok_ix rfl (.n rfl) Try.underlying26 Try.sizeOf3 rfl rfl hS (fun _ => ⟨by omega, by omega⟩)) ?_
            refine lw_v rfl rfl (ok_ldx rfl (.n rfl) rfl Try.isAgg3 hS (fun _ => ⟨by omega, by omega⟩) (by rfl)) ?_
            refine lw_v rfl rfl (ok_subi rfl (.n rfl) rfl rfl (fun _ => ⟨by omega, by omega⟩)) ?_
            refine lw_v rfl rfl (ok_ix rfl (.n rfl) Try.underlying26 Try.sizeOf3 rfl rfl hS (fun _ => ⟨by omega, by omega⟩)) ?_
            refine lw_stx (enc := (eInt .i64)) (_) rfl rfl rfl rfl rfl rfl Try.sizeOf3 hS (⟨by omega, by omega⟩) ?_
            clear hS; intro w10 hS
            refine lw_nil ?_
            refine in_normal (?_)
            refine Ends.keep [(3, .eq _), (9, .eq _), (10, .eq _), (11, .eq _), (96, .eq _), (97, .eq _)] (.cons rfl (.cons rfl (.cons rfl (.cons rfl (.cons rfl (.cons rfl .nil)))))) ?_
            refine ends_then ?_
            -- region 21
            refine cw_region ?_
            refine lw_v rfl rfl (ok_addi rfl (.n rfl) rfl rfl (fun _ => ⟨by omega, by omega⟩)) ?_
            refine lw_v rfl rfl (ok_move rfl (.n rfl) rfl) ?_
            refine lw_nil ?_
            -- BACK
            have htl := tot_low hGl htN (z := G.getD (tailOf C a) 0 - 1) (by omega) (by omega)
            refine ends_back (i + 1) (.cons rfl (.cons rfl (.cons rfl (.cons rfl (.cons rfl (.cons rfl .nil)))))) ⟨_, ⟨dec_right hG htN huS huT hG2, fun v hv => ?_, show tot (G.set (tailOf C a) (G.getD (tailOf C a) 0 - 1)) + (i + 1) ≤ K by omega⟩, hS.tail⟩ (by omega)
            have h9 := hle v hv
            rw [set_get (by rw [hGl]; exact htN)]
            split
            · rename_i e; subst e; omega
            · exact h9
      ·
        exfalso
        have := of_decide_eq_false h98
        omega

end Go.Proofs.Ytnpgeohkmdcbkaa.Aq
