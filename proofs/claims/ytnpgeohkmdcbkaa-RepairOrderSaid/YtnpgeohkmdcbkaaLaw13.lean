/- The walk of the law RepairOrder. -/
import Derived.Test.YtnpgeohkmdcbkaaB5
import Derived.Test.YtnpgeohkmdcbkaaB9
namespace Go.Proofs.Ytnpgeohkmdcbkaa.Aq
open Go Go.RowKit

theorem f25r (c : Cs) (q : Q6) (l : List Int) {m : Nat} (A1 : Option Addr) (c1 : Nat) (w : World) (hwf : WF c) (hl : (sl (eInt .i64) 1 A1 m c1 l).p w) (hrng : ∀ x ∈ l, -9223372036854775808 ≤ x ∧ x ≤ 9223372036854775807) : RetL 25 [csV c q, .slice A1 m c1] w (heightsF c l) := by
  have e1 := hl.1.1; subst e1; exact f25' c q l A1 c1 w hwf hl hrng
theorem min_right {c : Cs} (hw : WF c) {G H X : List Int} (hG : RightH c G) (hH : RightH c H) (hl : X.length = c.N) (hX : ∀ v, v < c.N → X.getD v 0 = if H.getD v 0 < G.getD v 0 then H.getD v 0 else G.getD v 0) : RightH c X :=
  ⟨hl, fun v hv => by have := hG.rng v hv; have := hH.rng v hv; rw [hX v hv]; split <;> omega, by rw [hX _ hw.t, hG.t, hH.t]; rfl, by rw [hX _ hw.s, hG.s, hH.s]; split <;> rfl⟩
theorem low_min {N : Nat} {E : Nat → Nat → Prop} {G H X DG DH DX : List Int} (hG : Low N E (fun v => G.getD v 0) DG) (hH : Low N E (fun v => H.getD v 0) DH) (hD : Low N E (fun v => X.getD v 0) DX)
    (hX : ∀ v, v < N → X.getD v 0 = if H.getD v 0 < G.getD v 0 then H.getD v 0 else G.getD v 0) : ∀ v, v < N → (if DH.getD v 0 < DG.getD v 0 then DH.getD v 0 else DG.getD v 0) ≤ DX.getD v 0 :=
  hD.greatest (x := fun v => if DH.getD v 0 < DG.getD v 0 then DH.getD v 0 else DG.getD v 0) (fun v hv => by
    have h1 : DG.getD v 0 ≤ G.getD v 0 := hG.le v hv
    have h2 : DH.getD v 0 ≤ H.getD v 0 := hH.le v hv
    show (if DH.getD v 0 < DG.getD v 0 then DH.getD v 0 else DG.getD v 0) ≤ X.getD v 0
    rw [hX v hv]; split <;> split <;> omega) (fun u w hu hw e => by
    have h1 := hG.ok u w hu hw e
    have h2 := hH.ok u w hu hw e
    show (if DH.getD u 0 < DG.getD u 0 then DH.getD u 0 else DG.getD u 0) ≤ (if DH.getD w 0 < DG.getD w 0 then DH.getD w 0 else DG.getD w 0) + 1
    split <;> split <;> omega)
theorem ord_bad {a b x y : Int} (h1 : x ≤ a) (h2 : x ≤ b) (h3 : (if b < a then b else a) ≤ x) (h4 : a ≤ y) (h : (((decide (a < x) || decide (b < x)) || !decide (x = if b < a then b else a)) || decide (y < a)) = true) : False := by
  have e : x = if b < a then b else a := by split at h3 <;> split <;> omega
  rw [decide_eq_false (by omega : ¬ a < x), decide_eq_false (by omega : ¬ b < x), decide_eq_true e, decide_eq_false (by omega : ¬ y < a)] at h
  cases h

set_option maxHeartbeats 1000000 in
set_option maxRecDepth 10000 in
/-- acequialaw19.RepairOrder. -/
theorem f13 (n : Nt) (A : Option Addr) (c : Nat) (l : List Int) (A1 : Option Addr) (c1 : Nat) (g : List Int) (A2 : Option Addr) (c2 : Nat) (h : List Int) (A3 : Option Addr) (c3 : Nat) (op : List Bool) (A4 : Option Addr) (c4 : Nat) (w : World) (ha : (sl eArc 3 A n.arcs.length c n.arcs).p w) (hrgn : (-9223372036854775808 ≤ n.N ∧ n.N ≤ 9223372036854775807) ∧ (-9223372036854775808 ≤ n.S ∧ n.S ≤ 9223372036854775807) ∧ (-9223372036854775808 ≤ n.T ∧ n.T ≤ 9223372036854775807) ∧ ∀ a ∈ n.arcs, -9223372036854775808 ≤ a.1 ∧ a.1 ≤ 9223372036854775807 ∧ -9223372036854775808 ≤ a.2.1 ∧ a.2.1 ≤ 9223372036854775807 ∧ -9223372036854775808 ≤ a.2.2 ∧ a.2.2 ≤ 9223372036854775807) (hl : (sl (eInt .i64) 1 A1 l.length c1 l).p w) (hrgl : ∀ x ∈ l, -9223372036854775808 ≤ x ∧ x ≤ 9223372036854775807) (hgg : (sl (eInt .i64) 1 A2 g.length c2 g).p w) (hrgg : ∀ x ∈ g, -9223372036854775808 ≤ x ∧ x ≤ 9223372036854775807) (hh : (sl (eInt .i64) 1 A3 h.length c3 h).p w) (hrgh : ∀ x ∈ h, -9223372036854775808 ≤ x ∧ x ≤ 9223372036854775807) (hop : (sl eBool 1 A4 op.length c4 op).p w) :
    Calls Try.prog 13 #[netV n A c, .slice A1 l.length c1, .slice A2 g.length c2, .slice A3 h.length c3, .slice A4 op.length c4] w fun e w' => e = .returned (.bool true) ∧ Gr w w' := by
  refine calls_cw Try.func13 rfl Try.ntmps13 rfl ?_
  have hS := (((((St.start w).args (Nat.le_refl _) _ ha rfl).args (Nat.le_refl _) _ hl rfl).args (Nat.le_refl _) _ hgg rfl).args (Nat.le_refl _) _ hh rfl).args (Nat.le_refl _) _ hop rfl
  have hopl := hop.2.1
  refine cw_seq ?_
  -- region 0
  refine cw_region ?_
  refine lw_box rfl rfl rfl rfl hS ?_
  clear hS; intro b5 w1 _ _ hS
  refine lw_v rfl rfl (ok_assign rfl (.n rfl) rfl) ?_
  refine lw_nil ?_
  refine Ends.keep [(1, .eq _), (2, .eq _), (3, .eq _), (4, .eq _), (5, .eq _)] (.cons rfl (.cons rfl (.cons rfl (.cons rfl (.cons rfl .nil))))) ?_
  refine ends_then ?_
  refine cw_seq ?_
  -- region 1
  refine cw_region ?_
  refine lw_v rfl rfl (ok_ldS rfl (.n rfl) rfl Try.isAgg24 Try.sizeOf24 hS rfl) ?_
  refine lw_call (f := 24) (xs := [_, _, _]) rfl rfl rfl Try.call24 rfl (Calls.mono (f24a n A c _ (hS.rd A (by have := ha.2.1; omega)) hrgn) ?_)
  rintro e w' ⟨n1, AS, cS, hok, rfl, hg, hfr, ho⟩
  replace hS := hS.new hg _ ho hfr; clear hg ho hfr
  refine ⟨_, rfl, ?_⟩
  refine lw_v rfl rfl (ok_move rfl (.n rfl) rfl) ?_
  refine lw_call (f := 23) (xs := [_, _]) rfl rfl rfl Try.call23 rfl (Calls.mono (f23a n1 AS cS l A1 c1 _ hok (hS.rd AS (by have := hok.len; omega)) (hS.rd A1 hl.2.1) hl.2.1 hrgl) ?_)
  rintro e w' ⟨C, R, q, A6, c6, ⟨hwf, hro⟩, rfl, hg, hnew, hat, hfr, hap, ho⟩
  replace hS := hS.left hg hat hnew ho hfr hap; clear hg hnew hat hfr hap ho
  replace hS := hS.sub (.cons_cons _ (.cons_cons _ (.cons_cons _ (.cons_cons _ (.cons_cons _ (.cons_cons _ (.cons_cons _ (.cons _ (.cons _ (List.Sublist.refl _))))))))))
  have hM := hwf.m
  have hrlen := hro.len
  have hN := hwf.hi
  have hlo := hwf.lo
  replace hS := hS.freeze .here (by omega)
  have hl1 := heightsF_len C g
  have hl2 := heightsF_len C h
  refine ⟨_, rfl, ?_⟩
  refine lw_v rfl rfl (ok_move rfl (.n rfl) rfl) ?_
  refine lw_v rfl rfl (ok_extract rfl (.n rfl) rfl rfl) ?_
  refine lw_v rfl rfl (ok_extract rfl (.n rfl) rfl rfl) ?_
  refine lw_alloc rfl rfl rfl Try.zeroValue29 hS ?_
  clear hS; intro b11 w2 _ _ hS
  refine lw_stS rfl rfl rfl rfl rfl (by kernel_rfl) hS rfl (by rfl) (by rfl) ?_
  clear hS; intro w3 hS
  refine lw_v rfl rfl (ok_assign rfl (.n rfl) rfl) ?_
  refine lw_nil ?_
  refine Ends.keep [(2, .eq _), (3, .eq _), (4, .eq _), (11, .eq _), (12, .eq _)] (.cons rfl (.cons rfl (.cons rfl (.cons rfl (.cons rfl .nil))))) ?_
  refine ends_then ?_
  refine cw_seq ?_
  -- region 2
  refine cw_draw (by kernel_rfl) (List.take 5 _) (List.drop 5 _) (List.take_append_drop 5 _).symm (by kernel_rfl) ?_
  refine free_v (ok_ldS rfl (.n rfl) rfl Try.isAgg29 Try.sizeOf29 hS rfl) ?_
  refine free_v (ok_move rfl (.n rfl) rfl) ?_
  refine free_cons (ok_callL rfl rfl Try.call25 rfl (fun w' hg => f25r C q g A2 c2 w' hwf ((hS.grow hg).rd A2 hgg.2.1) hrgg)) ?_
  refine free_v (ok_ldS rfl (.n rfl) rfl Try.isAgg29 Try.sizeOf29 hS rfl) ?_
  refine free_v (ok_move rfl (.n rfl) rfl) ?_
  refine free_nil ?_
  intro wz hg_
  refine LW.opened (s := 31) rfl ?_
  rintro _ ⟨A31, c31, rfl, ho31, hf31⟩
  replace hS := hS.one' hg_ ho31 hf31 (by omega); clear hg_ ho31 hf31
  refine lw_call (f := 25) (xs := [_, _]) rfl rfl rfl Try.call25 rfl (Calls.mono (f25r C q h A3 c3 _ hwf (hS.rd A3 hh.2.1) hrgh) ?_)
  rintro e w' ⟨A34, c34, rfl, hg, hfr, ho⟩
  replace hS := hS.new hg _ ho hfr; clear hg ho hfr
  replace hS := hS.freeze .here (by omega)
  have hG := heightsF_right hwf g
  have hH := heightsF_right hwf h
  generalize heightsF C g = G at hS hl1 hG ⊢
  generalize heightsF C h = H at hS hl2 hH ⊢
  refine ⟨_, rfl, ?_⟩
  refine lw_v rfl rfl (ok_assign rfl (.n rfl) rfl) ?_
  refine lw_v rfl rfl (ok_assign rfl (.n rfl) rfl) ?_
  refine lw_nil ?_
  refine Ends.keep [(2, .eq _), (3, .eq _), (4, .eq _), (11, .eq _), (12, .eq _)] (.cons rfl (.cons rfl (.cons rfl (.cons rfl (.cons rfl .nil))))) ?_
  refine ends_then ?_
  refine cw_seq ?_
  -- region 3
  refine cw_region ?_
  refine lw_v rfl rfl (ok_fb rfl (.n rfl) Try.underlying29 rfl Try.sizeOf3 (by decide) rfl) ?_
  refine lw_v rfl rfl (ok_ldb rfl (.n rfl) rfl Try.isAgg3 hS (by rfl)) ?_
  refine lw_make (enc := (eInt .i64)) rfl rfl rfl Try.underlying26 info3 rfl rfl rfl rfl (by omega) (by omega) hS ?_
  clear hS; intro A37 c37 w4 _ hS
  refine lw_v rfl rfl (ok_assign rfl (.n rfl) rfl) ?_
  refine lw_nil ?_
  refine Ends.keep [(2, .eq _), (3, .eq _), (4, .eq _), (11, .eq _), (12, .eq _), (13, .eq _)] (.cons rfl (.cons rfl (.cons rfl (.cons rfl (.cons rfl (.cons rfl .nil)))))) ?_
  refine ends_then ?_
  refine cw_seq ?_
  refine cw_seq ?_
  -- region 4
  refine cw_region ?_
  refine lw_v rfl rfl (ok_move rfl (.n rfl) rfl) ?_
  refine lw_v rfl rfl (ok_len rfl (.n rfl) Try.underlying26 rfl) ?_
  refine lw_v rfl rfl (ok_move rfl (.n rfl) rfl) ?_
  refine lw_nil ?_
  refine Ends.keep [(2, .eq _), (3, .eq _), (4, .eq _), (11, .eq _), (12, .eq _), (13, .eq _), (39, .eq _), (40, .eq _)] (.cons rfl (.cons rfl (.cons rfl (.cons rfl (.cons rfl (.cons rfl (.cons rfl (.cons rfl .nil)))))))) ?_
  refine ends_then ?_
  refine cw_block ?_
  -- LOOP at region 5: changed live slots [40], kept [2, 3, 4, 11, 12, 13, 39]
  refine cw_loop [(2, .eq _), (3, .eq _), (4, .eq _), (11, .eq _), (12, .eq _), (13, .eq _), (39, .eq _)] (fun k : Nat => [(40, .eq (.int .i64 k))]) (fun k w' => ∃ X : List Int, (k ≤ C.N ∧ X.length = C.N ∧ ∀ v, v < k → X.getD v 0 = if H.getD v 0 < G.getD v 0 then H.getD v 0 else G.getD v 0) ∧ St w.heap.size w w' [own (eInt .i64) 1 3 A37 C.N c37 X, sl (eInt .i64) 1 A34 H.length c34 H, sl (eInt .i64) 1 A31 G.length c31 G, bx b11 (csV C q).cells.toList 29, sl (eInt .i64) 1 A6 R.length c6 R, sl (eInt .i64) 1 q.a0 C.First.length q.c0 C.First, sl (eInt .i64) 1 q.a1 C.Head.length q.c1 C.Head, sl (eInt .i64) 1 q.a2 C.Rev.length q.c2 C.Rev, sl (eInt .i64) 1 q.a3 C.Cap.length q.c3 C.Cap, sl (eInt .i64) 1 q.a4 C.Arc.length q.c4 C.Arc, sl eBool 1 q.a5 C.Back.length q.c5 C.Back, sl eBool 1 A4 op.length c4 op, sl (eInt .i64) 1 A3 h.length c3 h, sl (eInt .i64) 1 A2 g.length c2 g, sl (eInt .i64) 1 A1 l.length c1 l, sl eArc 3 A n.arcs.length c n.arcs]) (fun k => C.N - k) 0 (.cons rfl (.cons rfl (.cons rfl (.cons rfl (.cons rfl (.cons rfl (.cons rfl .nil))))))) (.cons rfl (.cons rfl (.cons rfl (.cons rfl (.cons rfl (.cons rfl (.cons rfl (.cons rfl .nil)))))))) ⟨_, ⟨Nat.zero_le _, by simp, fun v hv => absurd hv (Nat.not_lt_zero v)⟩, hS⟩ ?_
  clear hS
  rintro k wr ⟨X, ⟨hk, hXl, hX⟩, hS⟩
  refine cw_seq ?_
  -- region 5
  refine cw_region ?_
  refine lw_v rfl rfl (ok_lss rfl (.n rfl) rfl rfl) ?_
  refine lw_nil ?_
  refine Ends.keep [(2, .eq _), (3, .eq _), (4, .eq _), (11, .eq _), (12, .eq _), (13, .eq _), (39, .eq _), (40, .eq _), (41, .eq _)] (.cons rfl (.cons rfl (.cons rfl (.cons rfl (.cons rfl (.cons rfl (.cons rfl (.cons rfl (.cons rfl .nil))))))))) ?_
  refine ends_then ?_
  refine cw_seq ?_
  refine cw_cond rfl (fun h41 => ?_) (fun h41 => ?_)
  ·
    have hkN : k < C.N := by have := of_decide_eq_true h41; omega
    refine cw_skip ?_
    refine ends_then ?_
    refine cw_seq ?_
    refine cw_block ?_
    refine cw_seq ?_
    -- region 6
    refine cw_region ?_
    refine lw_v rfl rfl (ok_move rfl (.n rfl) rfl) ?_
    refine lw_v rfl rfl (ok_assign rfl (.n rfl) rfl) ?_
    refine lw_nil ?_
    refine Ends.keep [(2, .eq _), (3, .eq _), (4, .eq _), (11, .eq _), (12, .eq _), (13, .eq _), (14, .eq _), (39, .eq _), (40, .eq _)] (.cons rfl (.cons rfl (.cons rfl (.cons rfl (.cons rfl (.cons rfl (.cons rfl (.cons rfl (.cons rfl .nil))))))))) ?_
    refine ends_then ?_
    -- region 7
    refine cw_draw (by kernel_rfl) (List.take 11 _) (List.drop 11 _) (List.take_append_drop 11 _).symm (by kernel_rfl) ?_
    refine free_v (ok_move rfl (.n rfl) rfl) ?_
    refine free_v (ok_move rfl (.n rfl) rfl) ?_
    refine free_v (ok_move rfl (.n rfl) rfl) ?_
    refine free_v (ok_move rfl (.n rfl) rfl) ?_
    refine free_v (ok_ix rfl (.n rfl) Try.underlying26 Try.sizeOf3 rfl rfl hS (fun _ => ⟨by omega, by omega⟩)) ?_
    refine free_v (ok_ldx rfl (.n rfl) rfl Try.isAgg3 hS (fun _ => ⟨by omega, by omega⟩) (by rfl)) ?_
    refine free_v (ok_move rfl (.n rfl) rfl) ?_
    refine free_v (ok_move rfl (.n rfl) rfl) ?_
    refine free_v (ok_ix rfl (.n rfl) Try.underlying26 Try.sizeOf3 rfl rfl hS (fun _ => ⟨by omega, by omega⟩)) ?_
    refine free_v (ok_ldx rfl (.n rfl) rfl Try.isAgg3 hS (fun _ => ⟨by omega, by omega⟩) (by rfl)) ?_
    refine free_v (ok_min2 rfl (.n rfl) rfl rfl) ?_
    refine free_nil ?_
    intro w5 hg_; replace hS := hS.grow hg_; clear hg_
    refine lw_v rfl rfl (ok_ix rfl (.n rfl) Try.underlying26 Try.sizeOf3 rfl rfl hS (fun _ => ⟨by omega, by omega⟩)) ?_
    refine lw_stx (enc := (eInt .i64)) (_) rfl rfl rfl rfl rfl rfl Try.sizeOf3 hS (⟨by omega, by omega⟩) ?_
    clear hS; intro w6 hS
    refine lw_nil ?_
    refine in_normal (?_)
    refine Ends.keep [(2, .eq _), (3, .eq _), (4, .eq _), (11, .eq _), (12, .eq _), (13, .eq _), (39, .eq _), (40, .eq _)] (.cons rfl (.cons rfl (.cons rfl (.cons rfl (.cons rfl (.cons rfl (.cons rfl (.cons rfl .nil)))))))) ?_
    refine ends_then ?_
    -- region 8
    refine cw_region ?_
    refine lw_v rfl rfl (ok_addi rfl (.n rfl) rfl rfl (fun _ => ⟨by omega, by omega⟩)) ?_
    refine lw_v rfl rfl (ok_move rfl (.n rfl) rfl) ?_
    refine lw_nil ?_
    -- BACK
    refine ends_back (k + 1) (.cons rfl (.cons rfl (.cons rfl (.cons rfl (.cons rfl (.cons rfl (.cons rfl (.cons rfl .nil)))))))) ⟨_, ⟨by omega, by rw [List.length_set]; exact hXl, fun v hv => ?_⟩, hS⟩ (by omega)
    rw [set_get (by rw [hXl]; exact hkN)]
    split
    · rename_i e; subst e; rfl
    · rename_i e; exact hX v (by have : v ≠ k := e; omega)
  ·
    have hke : k = C.N := by have := of_decide_eq_false h41; omega
    replace hS := hS.freeze .here (by omega)
    have hXr : RightH C X := min_right hwf hG hH hXl (fun v hv => hX v (by omega))
    have hLG := lowerL_low hwf ((may_iff hwf).2 ⟨hrlen, hG⟩)
    have hLH := lowerL_low hwf ((may_iff hwf).2 ⟨hrlen, hH⟩)
    have hLX := lowerL_low hwf ((may_iff hwf).2 ⟨hrlen, hXr⟩)
    have hDGl := hLG.len
    have hDHl := hLH.len
    have hDXl := hLX.len
    refine cw_exit ?_
    refine then_exit (then_exit (in_exit (?_)))
    refine Ends.keep [(2, .eq _), (3, .eq _), (4, .eq _), (11, .eq _), (12, .eq _), (13, .eq _)] (.cons rfl (.cons rfl (.cons rfl (.cons rfl (.cons rfl (.cons rfl .nil)))))) ?_
    refine ends_then ?_
    refine cw_seq ?_
    -- region 9
    refine cw_draw (by kernel_rfl) (List.take 11 _) (List.drop 11 _) (List.take_append_drop 11 _).symm (by kernel_rfl) ?_
    refine free_v (ok_ldS rfl (.n rfl) rfl Try.isAgg29 Try.sizeOf29 hS rfl) ?_
    refine free_v (ok_move rfl (.n rfl) rfl) ?_
    refine free_v (ok_move rfl (.n rfl) rfl) ?_
    refine free_cons (ok_callL rfl rfl Try.call48 rfl (fun w' hg => f48 C q R G A6 c6 A31 c31 w' hwf ((hS.grow hg).cs q) ((hS.grow hg).rd A6 (by omega)) ((hS.grow hg).rd A31 (by omega)))) ?_
    refine free_v (ok_ldS rfl (.n rfl) rfl Try.isAgg29 Try.sizeOf29 hS rfl) ?_
    refine free_v (ok_move rfl (.n rfl) rfl) ?_
    refine free_v (ok_move rfl (.n rfl) rfl) ?_
    refine free_cons (ok_callL rfl rfl Try.call48 rfl (fun w' hg => f48 C q R H A6 c6 A34 c34 w' hwf ((hS.grow hg).cs q) ((hS.grow hg).rd A6 (by omega)) ((hS.grow hg).rd A34 (by omega)))) ?_
    refine free_v (ok_ldS rfl (.n rfl) rfl Try.isAgg29 Try.sizeOf29 hS rfl) ?_
    refine free_v (ok_move rfl (.n rfl) rfl) ?_
    refine free_v (ok_move rfl (.n rfl) rfl) ?_
    refine free_nil ?_
    intro wz hg_
    refine LW.opened (s := 59) rfl ?_
    rintro _ ⟨A59, c59, rfl, ho59, hf59⟩
    refine LW.opened (s := 63) rfl ?_
    rintro _ ⟨A63, c63, rfl, ho63, hf63⟩
    replace hS := hS.two' hg_ ho59 hf59 (by omega) ho63 hf63 (by omega); clear hg_ ho59 hf59 ho63 hf63
    refine lw_call (f := 48) (xs := [_, _, _]) rfl rfl rfl Try.call48 rfl (Calls.mono (f48 C q R X A6 c6 A37 c37 _ hwf (hS.cs q) (hS.rd A6 (by omega)) (hS.rd A37 (by omega))) ?_)
    rintro e w' ⟨A67, c67, rfl, hg, hfr, ho⟩
    replace hS := hS.new hg _ ho hfr; clear hg ho hfr
    replace hS := hS.freeze .here (by omega)
    generalize lowerL C R G = DG at hS hLG hDGl ⊢
    generalize lowerL C R H = DH at hS hLH hDHl ⊢
    generalize lowerL C R X = DX at hS hLX hDXl ⊢
    refine ⟨_, rfl, ?_⟩
    refine lw_v rfl rfl (ok_assign rfl (.n rfl) rfl) ?_
    refine lw_v rfl rfl (ok_assign rfl (.n rfl) rfl) ?_
    refine lw_v rfl rfl (ok_assign rfl (.n rfl) rfl) ?_
    refine lw_nil ?_
    refine Ends.keep [(2, .eq _), (4, .eq _), (11, .eq _), (12, .eq _), (15, .eq _), (16, .eq _), (17, .eq _)] (.cons rfl (.cons rfl (.cons rfl (.cons rfl (.cons rfl (.cons rfl (.cons rfl .nil))))))) ?_
    refine ends_then ?_
    refine cw_seq ?_
    -- region 10
    refine cw_region ?_
    refine lw_ls0 (enc := (eInt .i64)) rfl rfl rfl Try.underlying25 Try.sizeOf2 hS ?_
    clear hS; intro A68 c68 w7 _ hS
    refine lw_v rfl rfl (ok_move rfl (.n rfl) rfl) ?_
    refine lw_append0 (enc := (eInt .i64)) rfl rfl rfl Try.underlying25 info2 rfl rfl rfl hS (by omega) (by omega) ?_
    intro A70 c70 wq hS1; replace hS := hS1 _ (Rep.r); clear hS1
    rw [List.nil_append] at hS ⊢
    refine lw_v rfl rfl (ok_assign rfl (.n rfl) rfl) ?_
    refine lw_nil ?_
    refine Ends.keep [(2, .eq _), (4, .eq _), (11, .eq _), (15, .eq _), (16, .eq _), (17, .eq _), (18, .eq _)] (.cons rfl (.cons rfl (.cons rfl (.cons rfl (.cons rfl (.cons rfl (.cons rfl .nil))))))) ?_
    refine ends_then ?_
    refine cw_seq ?_
    refine cw_seq ?_
    -- region 11
    refine cw_region ?_
    refine lw_v rfl rfl (ok_move rfl (.n rfl) rfl) ?_
    refine lw_v rfl rfl (ok_len rfl (.n rfl) Try.underlying25 rfl) ?_
    refine lw_v rfl rfl (ok_move rfl (.n rfl) rfl) ?_
    refine lw_nil ?_
    refine Ends.keep [(2, .eq _), (4, .eq _), (11, .eq _), (15, .eq _), (16, .eq _), (17, .eq _), (18, .eq _), (72, .eq _), (73, .eq _)] (.cons rfl (.cons rfl (.cons rfl (.cons rfl (.cons rfl (.cons rfl (.cons rfl (.cons rfl (.cons rfl .nil))))))))) ?_
    refine ends_then ?_
    refine cw_block ?_
    -- LOOP at region 12: changed live slots [73], kept [2, 4, 11, 15, 16, 17, 18, 72]
    refine cw_loop [(2, .eq _), (4, .eq _), (11, .eq _), (15, .eq _), (16, .eq _), (17, .eq _), (18, .eq _), (72, .eq _)] (fun k : Nat => [(73, .eq (.int .i64 k))]) (fun k w' => ∃ Y : List Int, (k ≤ R.length ∧ Y.length = R.length ∧ ∀ a, 0 < Y.getD a 0 → 0 < R.getD a 0) ∧ St w.heap.size w w' [own (eInt .i64) 1 2 A70 R.length c70 Y, sl (eInt .i64) 1 A67 DX.length c67 DX, sl (eInt .i64) 1 A59 DG.length c59 DG, sl (eInt .i64) 1 A63 DH.length c63 DH, sl (eInt .i64) 1 A37 C.N c37 X, sl (eInt .i64) 1 A34 H.length c34 H, sl (eInt .i64) 1 A31 G.length c31 G, bx b11 (csV C q).cells.toList 29, sl (eInt .i64) 1 A6 R.length c6 R, sl (eInt .i64) 1 q.a0 C.First.length q.c0 C.First, sl (eInt .i64) 1 q.a1 C.Head.length q.c1 C.Head, sl (eInt .i64) 1 q.a2 C.Rev.length q.c2 C.Rev, sl (eInt .i64) 1 q.a3 C.Cap.length q.c3 C.Cap, sl (eInt .i64) 1 q.a4 C.Arc.length q.c4 C.Arc, sl eBool 1 q.a5 C.Back.length q.c5 C.Back, sl eBool 1 A4 op.length c4 op, sl (eInt .i64) 1 A3 h.length c3 h, sl (eInt .i64) 1 A2 g.length c2 g, sl (eInt .i64) 1 A1 l.length c1 l, sl eArc 3 A n.arcs.length c n.arcs]) (fun k => R.length - k) 0 (.cons rfl (.cons rfl (.cons rfl (.cons rfl (.cons rfl (.cons rfl (.cons rfl (.cons rfl .nil)))))))) (.cons rfl (.cons rfl (.cons rfl (.cons rfl (.cons rfl (.cons rfl (.cons rfl (.cons rfl (.cons rfl .nil))))))))) ⟨R, ⟨Nat.zero_le _, rfl, fun a h => h⟩, hS⟩ ?_
    clear hS
    rintro k wr ⟨Y, ⟨hk, hYl, hY⟩, hS⟩
    refine cw_seq ?_
    -- region 12
    refine cw_region ?_
    refine lw_v rfl rfl (ok_lss rfl (.n rfl) rfl rfl) ?_
    refine lw_nil ?_
    refine Ends.keep [(2, .eq _), (4, .eq _), (11, .eq _), (15, .eq _), (16, .eq _), (17, .eq _), (18, .eq _), (72, .eq _), (73, .eq _), (74, .eq _)] (.cons rfl (.cons rfl (.cons rfl (.cons rfl (.cons rfl (.cons rfl (.cons rfl (.cons rfl (.cons rfl (.cons rfl .nil)))))))))) ?_
    refine ends_then ?_
    refine cw_seq ?_
    refine cw_cond rfl (fun h74 => ?_) (fun h74 => ?_)
    ·
      have hkR : k < R.length := by have := of_decide_eq_true h74; omega
      refine cw_skip ?_
      refine ends_then ?_
      refine cw_seq ?_
      refine cw_block ?_
      refine cw_seq ?_
      -- region 13
      refine cw_region ?_
      refine lw_v rfl rfl (ok_move rfl (.n rfl) rfl) ?_
      refine lw_v rfl rfl (ok_assign rfl (.n rfl) rfl) ?_
      refine lw_nil ?_
      refine Ends.keep [(2, .eq _), (4, .eq _), (11, .eq _), (15, .eq _), (16, .eq _), (17, .eq _), (18, .eq _), (19, .eq _), (72, .eq _), (73, .eq _)] (.cons rfl (.cons rfl (.cons rfl (.cons rfl (.cons rfl (.cons rfl (.cons rfl (.cons rfl (.cons rfl (.cons rfl .nil)))))))))) ?_
      refine ends_then ?_
      refine cw_seq ?_
      -- region 14
      refine cw_region ?_
      refine lw_v rfl rfl (ok_move rfl (.n rfl) rfl) ?_
      refine lw_v rfl rfl (ok_move rfl (.n rfl) rfl) ?_
      refine lw_v rfl rfl (ok_len rfl (.n rfl) Try.underlying27 rfl) ?_
      refine lw_v rfl rfl (ok_lss rfl (.n rfl) rfl rfl) ?_
      refine lw_v rfl rfl (ok_move rfl (.n rfl) rfl) ?_
      refine lw_v rfl rfl (ok_move rfl (.s rfl rfl) rfl) ?_
      refine lw_v rfl rfl (ok_move rfl (.s rfl rfl) rfl) ?_
      refine lw_v rfl rfl (ok_ix rfl (.s rfl rfl) Try.underlying27 Try.sizeOf4 rfl rfl hS (fun hg => ⟨by omega, by have h9 : decide ((k : Int) < op.length) = true := hg; have := of_decide_eq_true h9; omega⟩)) ?_
      refine lw_v rfl rfl (ok_ldx rfl (.s rfl rfl) rfl Try.isAgg4 hS (fun hg => ⟨by omega, by have h9 : decide ((k : Int) < op.length) = true := hg; have := of_decide_eq_true h9; omega⟩) (by rfl)) ?_
      refine lw_v rfl rfl (ok_and rfl rfl rfl rfl) ?_
      refine lw_nil ?_
      refine Ends.keep [(2, .eq _), (4, .eq _), (11, .eq _), (15, .eq _), (16, .eq _), (17, .eq _), (18, .eq _), (19, .eq _), (72, .eq _), (73, .eq _), (85, .eq _)] (.cons rfl (.cons rfl (.cons rfl (.cons rfl (.cons rfl (.cons rfl (.cons rfl (.cons rfl (.cons rfl (.cons rfl (.cons rfl .nil))))))))))) ?_
      refine ends_then ?_
      refine cw_cond rfl (fun h85 => ?_) (fun h85 => ?_)
      ·
        -- region 15
        refine cw_region ?_
        refine lw_v rfl rfl (ok_move rfl (.n rfl) rfl) ?_
        refine lw_v rfl rfl (ok_move rfl (.n rfl) rfl) ?_
        refine lw_v rfl rfl (ok_ix rfl (.n rfl) Try.underlying25 Try.sizeOf2 rfl rfl hS (fun _ => ⟨by omega, by omega⟩)) ?_
        refine lw_stx (enc := (eInt .i64)) (_) rfl rfl rfl rfl rfl rfl Try.sizeOf2 hS (⟨by omega, by omega⟩) ?_
        clear hS; intro w8 hS
        refine lw_nil ?_
        refine in_normal (?_)
        refine Ends.keep [(2, .eq _), (4, .eq _), (11, .eq _), (15, .eq _), (16, .eq _), (17, .eq _), (18, .eq _), (72, .eq _), (73, .eq _)] (.cons rfl (.cons rfl (.cons rfl (.cons rfl (.cons rfl (.cons rfl (.cons rfl (.cons rfl (.cons rfl .nil))))))))) ?_
        refine ends_then ?_
        -- region 16
        refine cw_region ?_
        refine lw_v rfl rfl (ok_addi rfl (.n rfl) rfl rfl (fun _ => ⟨by omega, by omega⟩)) ?_
        refine lw_v rfl rfl (ok_move rfl (.n rfl) rfl) ?_
        refine lw_nil ?_
        -- BACK
        refine ends_back (k + 1) (.cons rfl (.cons rfl (.cons rfl (.cons rfl (.cons rfl (.cons rfl (.cons rfl (.cons rfl (.cons rfl .nil))))))))) ⟨_, ⟨by omega, by rw [List.length_set]; exact hYl, fun a h9 => ?_⟩, hS⟩ (by omega)
        rw [set_get (by rw [hYl]; exact hkR)] at h9
        split at h9
        · exact absurd h9 (Int.lt_irrefl 0)
        · exact hY a h9
      ·
        refine cw_skip ?_
        refine in_normal (?_)
        refine ends_then ?_
        -- region 16
        refine cw_region ?_
        refine lw_v rfl rfl (ok_addi rfl (.n rfl) rfl rfl (fun _ => ⟨by omega, by omega⟩)) ?_
        refine lw_v rfl rfl (ok_move rfl (.n rfl) rfl) ?_
        refine lw_nil ?_
        -- BACK
        refine ends_back (k + 1) (.cons rfl (.cons rfl (.cons rfl (.cons rfl (.cons rfl (.cons rfl (.cons rfl (.cons rfl (.cons rfl .nil))))))))) ⟨Y, ⟨by omega, hYl, hY⟩, hS⟩ (by omega)
    ·
      replace hS := hS.freeze .here (by omega)
      have hmY : mayB C Y G = true := (may_iff hwf).2 ⟨by omega, hG⟩
      obtain ⟨DY, hLY⟩ : ∃ D, Low C.N (EdgeS C Y) (fun v => G.getD v 0) D := ⟨_, lowerL_low hwf hmY⟩
      have hDYl := hLY.len
      refine cw_exit ?_
      refine then_exit (then_exit (in_exit (?_)))
      refine Ends.keep [(2, .eq _), (11, .eq _), (15, .eq _), (16, .eq _), (17, .eq _), (18, .eq _)] (.cons rfl (.cons rfl (.cons rfl (.cons rfl (.cons rfl (.cons rfl .nil)))))) ?_
      refine ends_then ?_
      refine cw_seq ?_
      -- region 17
      refine cw_region ?_
      refine lw_v rfl rfl (ok_ldS rfl (.n rfl) rfl Try.isAgg29 Try.sizeOf29 hS rfl) ?_
      refine lw_v rfl rfl (ok_move rfl (.n rfl) rfl) ?_
      refine lw_v rfl rfl (ok_move rfl (.n rfl) rfl) ?_
      refine lw_call (f := 48) (xs := [_, _, _]) rfl rfl rfl Try.call48 rfl (Calls.mono (f48 C q Y G A70 c70 A31 c31 _ hwf (hS.cs q) (hS.rd A70 (by omega)) (hS.rd A31 (by omega))) ?_)
      rintro e w' ⟨A93, c93, rfl, hg, hfr, ho⟩
      replace hS := hS.new hg _ ho hfr; clear hg ho hfr
      rw [lowerL_eq hmY hLY] at hS ⊢
      replace hS := hS.freeze .here (by omega)
      refine ⟨_, rfl, ?_⟩
      refine lw_v rfl rfl (ok_assign rfl (.n rfl) rfl) ?_
      refine lw_nil ?_
      refine Ends.keep [(11, .eq _), (15, .eq _), (16, .eq _), (17, .eq _), (20, .eq _)] (.cons rfl (.cons rfl (.cons rfl (.cons rfl (.cons rfl .nil))))) ?_
      refine ends_then ?_
      refine cw_seq ?_
      refine cw_seq ?_
      -- region 18
      refine cw_region ?_
      refine lw_v rfl rfl (ok_move rfl (.n rfl) rfl) ?_
      refine lw_v rfl rfl (ok_len rfl (.n rfl) Try.underlying26 rfl) ?_
      refine lw_v rfl rfl (ok_fb rfl (.n rfl) Try.underlying29 rfl Try.sizeOf3 (by decide) rfl) ?_
      refine lw_v rfl rfl (ok_ldb rfl (.n rfl) rfl Try.isAgg3 hS (by rfl)) ?_
      refine lw_v rfl rfl (ok_neq rfl (.n rfl) rfl rfl) ?_
      refine lw_v rfl rfl (ok_move rfl (.n rfl) rfl) ?_
      refine lw_v rfl rfl (ok_move rfl (.s rfl rfl) rfl) ?_
      refine lw_v rfl rfl (ok_len rfl (.s rfl rfl) Try.underlying26 rfl) ?_
      refine lw_v rfl rfl (ok_fb rfl (.s rfl rfl) Try.underlying29 rfl Try.sizeOf3 (by decide) rfl) ?_
      refine lw_v rfl rfl (ok_ldb rfl (.s rfl rfl) rfl Try.isAgg3 hS (by rfl)) ?_
      refine lw_v rfl rfl (ok_neq rfl (.s rfl rfl) rfl rfl) ?_
      refine lw_v rfl rfl (ok_or rfl rfl rfl rfl) ?_
      refine lw_v rfl rfl (ok_move rfl (.n rfl) rfl) ?_
      refine lw_v rfl rfl (ok_move rfl (.s rfl rfl) rfl) ?_
      refine lw_v rfl rfl (ok_len rfl (.s rfl rfl) Try.underlying26 rfl) ?_
      refine lw_v rfl rfl (ok_fb rfl (.s rfl rfl) Try.underlying29 rfl Try.sizeOf3 (by decide) rfl) ?_
      refine lw_v rfl rfl (ok_ldb rfl (.s rfl rfl) rfl Try.isAgg3 hS (by rfl)) ?_
      refine lw_v rfl rfl (ok_neq rfl (.s rfl rfl) rfl rfl) ?_
      refine lw_v rfl rfl (ok_or rfl rfl rfl rfl) ?_
      refine lw_v rfl rfl (ok_move rfl (.n rfl) rfl) ?_
      refine lw_v rfl rfl (ok_move rfl (.s rfl rfl) rfl) ?_
      refine lw_v rfl rfl (ok_len rfl (.s rfl rfl) Try.underlying26 rfl) ?_
      refine lw_v rfl rfl (ok_fb rfl (.s rfl rfl) Try.underlying29 rfl Try.sizeOf3 (by decide) rfl) ?_
      refine lw_v rfl rfl (ok_ldb rfl (.s rfl rfl) rfl Try.isAgg3 hS (by rfl)) ?_
      refine lw_v rfl rfl (ok_neq rfl (.s rfl rfl) rfl rfl) ?_
      refine lw_v rfl rfl (ok_or rfl rfl rfl rfl) ?_
      refine lw_nil ?_
      refine Ends.keep [(15, .eq _), (16, .eq _), (17, .eq _), (20, .eq _), (119, .eq _)] (.cons rfl (.cons rfl (.cons rfl (.cons rfl (.cons rfl .nil))))) ?_
      refine ends_then ?_
      refine cw_cond rfl (fun h119 => ?_) (fun h119 => ?_)
      ·
        rw [hDGl, hDHl, hDXl, hDYl] at h119
        simp at h119
      ·
        refine cw_skip ?_
        refine ends_then ?_
        refine cw_seq ?_
        refine cw_seq ?_
        -- region 20
        refine cw_region ?_
        refine lw_v rfl rfl (ok_move rfl (.n rfl) rfl) ?_
        refine lw_v rfl rfl (ok_len rfl (.n rfl) Try.underlying26 rfl) ?_
        refine lw_v rfl rfl (ok_move rfl (.n rfl) rfl) ?_
        refine lw_nil ?_
        refine Ends.keep [(15, .eq _), (16, .eq _), (17, .eq _), (20, .eq _), (121, .eq _), (122, .eq _)] (.cons rfl (.cons rfl (.cons rfl (.cons rfl (.cons rfl (.cons rfl .nil)))))) ?_
        refine ends_then ?_
        refine cw_block ?_
        -- LOOP at region 21: changed live slots [122], kept [15, 16, 17, 20, 121]
        refine cw_loop [(15, .eq _), (16, .eq _), (17, .eq _), (20, .eq _), (121, .eq _)] (fun k : Nat => [(122, .eq (.int .i64 k))]) (fun k w' => k ≤ C.N ∧ St w.heap.size w w' [sl (eInt .i64) 1 A93 DY.length c93 DY, sl (eInt .i64) 1 A70 R.length c70 Y, sl (eInt .i64) 1 A67 DX.length c67 DX, sl (eInt .i64) 1 A59 DG.length c59 DG, sl (eInt .i64) 1 A63 DH.length c63 DH, sl (eInt .i64) 1 A37 C.N c37 X, sl (eInt .i64) 1 A34 H.length c34 H, sl (eInt .i64) 1 A31 G.length c31 G, bx b11 (csV C q).cells.toList 29, sl (eInt .i64) 1 A6 R.length c6 R, sl (eInt .i64) 1 q.a0 C.First.length q.c0 C.First, sl (eInt .i64) 1 q.a1 C.Head.length q.c1 C.Head, sl (eInt .i64) 1 q.a2 C.Rev.length q.c2 C.Rev, sl (eInt .i64) 1 q.a3 C.Cap.length q.c3 C.Cap, sl (eInt .i64) 1 q.a4 C.Arc.length q.c4 C.Arc, sl eBool 1 q.a5 C.Back.length q.c5 C.Back, sl eBool 1 A4 op.length c4 op, sl (eInt .i64) 1 A3 h.length c3 h, sl (eInt .i64) 1 A2 g.length c2 g, sl (eInt .i64) 1 A1 l.length c1 l, sl eArc 3 A n.arcs.length c n.arcs]) (fun k => C.N - k) 0 (.cons rfl (.cons rfl (.cons rfl (.cons rfl (.cons rfl .nil))))) (.cons rfl (.cons rfl (.cons rfl (.cons rfl (.cons rfl (.cons rfl .nil)))))) ⟨Nat.zero_le _, hS⟩ ?_
        clear hS
        rintro k wr ⟨hk, hS⟩
        refine cw_seq ?_
        -- region 21
        refine cw_region ?_
        refine lw_v rfl rfl (ok_lss rfl (.n rfl) rfl rfl) ?_
        refine lw_nil ?_
        refine Ends.keep [(15, .eq _), (16, .eq _), (17, .eq _), (20, .eq _), (121, .eq _), (122, .eq _), (123, .eq _)] (.cons rfl (.cons rfl (.cons rfl (.cons rfl (.cons rfl (.cons rfl (.cons rfl .nil))))))) ?_
        refine ends_then ?_
        refine cw_seq ?_
        refine cw_cond rfl (fun h123 => ?_) (fun h123 => ?_)
        ·
          have hkN : k < C.N := by have := of_decide_eq_true h123; omega
          have hb1 : DX.getD (k : Int).toNat 0 ≤ DG.getD (k : Int).toNat 0 := hLX.mono hLG (fun v hv => by rw [hX v (by omega)]; split <;> omega) (fun _ _ _ _ e => e) k hkN
          have hb2 : DX.getD (k : Int).toNat 0 ≤ DH.getD (k : Int).toNat 0 := hLX.mono hLH (fun v hv => by rw [hX v (by omega)]; split <;> omega) (fun _ _ _ _ e => e) k hkN
          have hb3 : (if DH.getD (k : Int).toNat 0 < DG.getD (k : Int).toNat 0 then DH.getD (k : Int).toNat 0 else DG.getD (k : Int).toNat 0) ≤ DX.getD (k : Int).toNat 0 := low_min hLG hLH hLX (fun v hv => hX v (by omega)) k hkN
          have hb4 : DG.getD (k : Int).toNat 0 ≤ DY.getD (k : Int).toNat 0 := hLG.mono hLY (fun _ _ => Int.le_refl _) (fun u x _ _ ⟨e1, b, e2, e3, e4, e5⟩ => ⟨e1, b, e2, e3, e4, hY b e5⟩) k hkN
          refine cw_skip ?_
          refine ends_then ?_
          refine cw_seq ?_
          refine cw_block ?_
          refine cw_seq ?_
          -- region 22
          refine cw_region ?_
          refine lw_v rfl rfl (ok_move rfl (.n rfl) rfl) ?_
          refine lw_v rfl rfl (ok_assign rfl (.n rfl) rfl) ?_
          refine lw_nil ?_
          refine Ends.keep [(15, .eq _), (16, .eq _), (17, .eq _), (20, .eq _), (21, .eq _), (121, .eq _), (122, .eq _)] (.cons rfl (.cons rfl (.cons rfl (.cons rfl (.cons rfl (.cons rfl (.cons rfl .nil))))))) ?_
          refine ends_then ?_
          refine cw_seq ?_
          -- region 23
          refine cw_draw (by kernel_rfl) (List.take 45 _) (List.drop 45 _) (List.take_append_drop 45 _).symm (by kernel_rfl) ?_
          refine free_v (ok_move rfl (.n rfl) rfl) ?_
          refine free_v (ok_move rfl (.n rfl) rfl) ?_
          refine free_v (ok_ix rfl (.n rfl) Try.underlying26 Try.sizeOf3 rfl rfl hS (fun _ => ⟨by omega, by omega⟩)) ?_
          refine free_v (ok_ldx rfl (.n rfl) rfl Try.isAgg3 hS (fun _ => ⟨by omega, by omega⟩) (by rfl)) ?_
          refine free_v (ok_move rfl (.n rfl) rfl) ?_
          refine free_v (ok_move rfl (.n rfl) rfl) ?_
          refine free_v (ok_ix rfl (.n rfl) Try.underlying26 Try.sizeOf3 rfl rfl hS (fun _ => ⟨by omega, by omega⟩)) ?_
          refine free_v (ok_ldx rfl (.n rfl) rfl Try.isAgg3 hS (fun _ => ⟨by omega, by omega⟩) (by rfl)) ?_
          refine free_v (ok_gtr rfl (.n rfl) rfl rfl) ?_
          refine free_v (ok_move rfl (.n rfl) rfl) ?_
          refine free_v (ok_move rfl (.s rfl rfl) rfl) ?_
          refine free_v (ok_move rfl (.s rfl rfl) rfl) ?_
          refine free_v (ok_ix rfl (.s rfl rfl) Try.underlying26 Try.sizeOf3 rfl rfl hS (fun _ => ⟨by omega, by omega⟩)) ?_
          refine free_v (ok_ldx rfl (.s rfl rfl) rfl Try.isAgg3 hS (fun _ => ⟨by omega, by omega⟩) (by rfl)) ?_
          refine free_v (ok_move rfl (.s rfl rfl) rfl) ?_
          refine free_v (ok_move rfl (.s rfl rfl) rfl) ?_
          refine free_v (ok_ix rfl (.s rfl rfl) Try.underlying26 Try.sizeOf3 rfl rfl hS (fun _ => ⟨by omega, by omega⟩)) ?_
          refine free_v (ok_ldx rfl (.s rfl rfl) rfl Try.isAgg3 hS (fun _ => ⟨by omega, by omega⟩) (by rfl)) ?_
          refine free_v (ok_gtr rfl (.s rfl rfl) rfl rfl) ?_
          refine free_v (ok_or rfl rfl rfl rfl) ?_
          refine free_v (ok_move rfl (.n rfl) rfl) ?_
          refine free_v (ok_move rfl (.s rfl rfl) rfl) ?_
          refine free_v (ok_move rfl (.s rfl rfl) rfl) ?_
          refine free_v (ok_ix rfl (.s rfl rfl) Try.underlying26 Try.sizeOf3 rfl rfl hS (fun _ => ⟨by omega, by omega⟩)) ?_
          refine free_v (ok_ldx rfl (.s rfl rfl) rfl Try.isAgg3 hS (fun _ => ⟨by omega, by omega⟩) (by rfl)) ?_
          refine free_v (ok_move rfl (.s rfl rfl) rfl) ?_
          refine free_v (ok_move rfl (.s rfl rfl) rfl) ?_
          refine free_v (ok_ix rfl (.s rfl rfl) Try.underlying26 Try.sizeOf3 rfl rfl hS (fun _ => ⟨by omega, by omega⟩)) ?_
          refine free_v (ok_ldx rfl (.s rfl rfl) rfl Try.isAgg3 hS (fun _ => ⟨by omega, by omega⟩) (by rfl)) ?_
          refine free_v (ok_move rfl (.s rfl rfl) rfl) ?_
          refine free_v (ok_move rfl (.s rfl rfl) rfl) ?_
          refine free_v (ok_ix rfl (.s rfl rfl) Try.underlying26 Try.sizeOf3 rfl rfl hS (fun _ => ⟨by omega, by omega⟩)) ?_
          refine free_v (ok_ldx rfl (.s rfl rfl) rfl Try.isAgg3 hS (fun _ => ⟨by omega, by omega⟩) (by rfl)) ?_
          refine free_v (ok_min2 rfl (.s rfl rfl) rfl rfl) ?_
          refine free_v (ok_neq rfl (.s rfl rfl) rfl rfl) ?_
          refine free_v (ok_or rfl rfl rfl rfl) ?_
          refine free_v (ok_move rfl (.n rfl) rfl) ?_
          refine free_v (ok_move rfl (.s rfl rfl) rfl) ?_
          refine free_v (ok_move rfl (.s rfl rfl) rfl) ?_
          refine free_v (ok_ix rfl (.s rfl rfl) Try.underlying26 Try.sizeOf3 rfl rfl hS (fun _ => ⟨by omega, by omega⟩)) ?_
          refine free_v (ok_ldx rfl (.s rfl rfl) rfl Try.isAgg3 hS (fun _ => ⟨by omega, by omega⟩) (by rfl)) ?_
          refine free_v (ok_move rfl (.s rfl rfl) rfl) ?_
          refine free_v (ok_move rfl (.s rfl rfl) rfl) ?_
          refine free_v (ok_ix rfl (.s rfl rfl) Try.underlying26 Try.sizeOf3 rfl rfl hS (fun _ => ⟨by omega, by omega⟩)) ?_
          refine free_v (ok_ldx rfl (.s rfl rfl) rfl Try.isAgg3 hS (fun _ => ⟨by omega, by omega⟩) (by rfl)) ?_
          refine free_nil ?_
          intro w9 hg_; replace hS := hS.grow hg_; clear hg_
          refine lw_v rfl rfl (ok_lss rfl (.s rfl rfl) rfl rfl) ?_
          refine lw_v rfl rfl (ok_or rfl rfl rfl rfl) ?_
          refine lw_nil ?_
          refine Ends.keep [(15, .eq _), (16, .eq _), (17, .eq _), (20, .eq _), (121, .eq _), (122, .eq _), (171, .eq _)] (.cons rfl (.cons rfl (.cons rfl (.cons rfl (.cons rfl (.cons rfl (.cons rfl .nil))))))) ?_
          refine ends_then ?_
          refine cw_cond rfl (fun h171 => ?_) (fun h171 => ?_)
          ·
            exact (ord_bad hb1 hb2 hb3 hb4 h171).elim
          ·
            refine cw_skip ?_
            refine in_normal (?_)
            refine ends_then ?_
            -- region 25
            refine cw_region ?_
            refine lw_v rfl rfl (ok_addi rfl (.n rfl) rfl rfl (fun _ => ⟨by omega, by omega⟩)) ?_
            refine lw_v rfl rfl (ok_move rfl (.n rfl) rfl) ?_
            refine lw_nil ?_
            -- BACK
            refine ends_back (k + 1) (.cons rfl (.cons rfl (.cons rfl (.cons rfl (.cons rfl (.cons rfl .nil)))))) ⟨by omega, hS⟩ (by omega)
        ·
          refine cw_exit ?_
          refine then_exit (then_exit (in_exit (?_)))
          refine Ends.keep [] .nil ?_
          refine ends_then ?_
          refine cw_seq ?_
          -- region 26
          refine cw_region ?_
          refine lw_call (f := 53) (xs := []) rfl rfl rfl Try.call53 rfl (Calls.mono (f53 _) ?_)
          rintro e w' ⟨rfl, hg⟩
          replace hS := hS.grow hg; clear hg
          refine ⟨_, rfl, ?_⟩
          refine lw_v rfl rfl (ok_assign rfl (.n rfl) rfl) ?_
          refine lw_nil ?_
          refine Ends.keep [(10, .eq _)] (.cons rfl .nil) ?_
          refine ends_then ?_
          refine cw_ret ?_
          exact end_ret (res1 Try.results13 rfl) ⟨rfl, hS.below⟩

end Go.Proofs.Ytnpgeohkmdcbkaa.Aq
