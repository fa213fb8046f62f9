/- The walk of the law LabelDist. -/
import Derived.Test.YtnpgeohkmdcbkaaLawD
import Derived.Test.YtnpgeohkmdcbkaaAw06
import Derived.Test.YtnpgeohkmdcbkaaPlain14
namespace Go.Proofs.Ytnpgeohkmdcbkaa.Aq
open Go Go.RowKit

theorem shut_step {R X : List Int} {f : Int} {a : Nat} (ha : a < X.length) (hX : ∀ b : Nat, X.getD b 0 = if f ≤ (b : Int) ∧ b < a then 0 else R.getD b 0) (h0 : f ≤ (a : Int)) (b : Nat) : (X.set (a : Int).toNat 0).getD b 0 = if f ≤ (b : Int) ∧ b < a + 1 then 0 else R.getD b 0 := by
  rw [set_get (by exact ha), hX b]
  by_cases h : b = a
  · subst h; rw [if_pos (by rfl), if_pos ⟨h0, by omega⟩]
  · rw [if_neg (by exact h)]
    have : (f ≤ (b : Int) ∧ b < a) = (f ≤ (b : Int) ∧ b < a + 1) := by rw [eq_iff_iff]; omega
    simp only [this]
theorem top_le {c : Cs} {H : List Int} (hr : RightH c H) (v : Nat) (hv : v < c.N) : H.getD v 0 ≤ hTo c.N c.T v := by
  unfold hTo
  split
  · rename_i e; subst e; rw [hr.t]; exact Int.le_refl _
  · exact (hr.rng v hv).2

set_option maxHeartbeats 2000000 in
set_option maxRecDepth 10000 in
/-- acequialaw06.LabelDist. -/
theorem f19 (n : Nt) (A : Option Addr) (c : Nat) (l : List Int) (A1 : Option Addr) (c1 : Nat) (h : List Int) (A2 : Option Addr) (c2 : Nat) (w : World) (ha : (sl eArc 3 A n.arcs.length c n.arcs).p w) (hrgn : (-9223372036854775808 ≤ n.N ∧ n.N ≤ 9223372036854775807) ∧ (-9223372036854775808 ≤ n.S ∧ n.S ≤ 9223372036854775807) ∧ (-9223372036854775808 ≤ n.T ∧ n.T ≤ 9223372036854775807) ∧ ∀ a ∈ n.arcs, -9223372036854775808 ≤ a.1 ∧ a.1 ≤ 9223372036854775807 ∧ -9223372036854775808 ≤ a.2.1 ∧ a.2.1 ≤ 9223372036854775807 ∧ -9223372036854775808 ≤ a.2.2 ∧ a.2.2 ≤ 9223372036854775807) (hl : (sl (eInt .i64) 1 A1 l.length c1 l).p w) (hrgl : ∀ x ∈ l, -9223372036854775808 ≤ x ∧ x ≤ 9223372036854775807) (hh : (sl (eInt .i64) 1 A2 h.length c2 h).p w) (hrgh : ∀ x ∈ h, -9223372036854775808 ≤ x ∧ x ≤ 9223372036854775807) :
    Calls Try.prog 19 #[netV n A c, .slice A1 l.length c1, .slice A2 h.length c2] w fun e w' => e = .returned (.bool true) ∧ Gr w w' := by
  refine calls_cw Try.func19 rfl Try.ntmps19 rfl ?_
  have hS := (((St.start w).args (Nat.le_refl _) _ ha rfl).args (Nat.le_refl _) _ hl rfl).args (Nat.le_refl _) _ hh rfl
  refine cw_seq ?_
  -- region 0
  refine cw_region ?_
  refine lw_box rfl rfl rfl rfl hS ?_
  clear hS; intro b3 w1 _ _ hS
  refine lw_v rfl rfl (ok_assign rfl (.n rfl) rfl) ?_
  refine lw_nil ?_
  refine Ends.keep [(1, .eq _), (2, .eq _), (3, .eq _)] (.cons rfl (.cons rfl (.cons rfl .nil))) ?_
  refine ends_then ?_
  refine cw_seq ?_
  -- region 1
  refine cw_region ?_
  refine lw_v rfl rfl (ok_ldS rfl (.n rfl) rfl Try.isAgg24 Try.sizeOf24 hS rfl) ?_
  refine lw_call (f := 24) (xs := [_, _, _]) rfl rfl rfl Try.call24 rfl (Calls.mono (f24a n A c _ (hS.rd A (by have := ha.2.1; omega)) hrgn) ?_)
  rintro e w' ⟨n1, AS, cS, hok, rfl, hg, hfr, ho⟩
  replace hS := hS.new hg _ ho hfr; clear hg ho hfr
  refine ⟨_, rfl, ?_⟩
  refine lw_v rfl rfl (ok_move rfl (.n rfl) rfl) ?_
  refine lw_call (f := 23) (xs := [_, _]) rfl rfl rfl Try.call23 rfl (Calls.mono (f23a n1 AS cS l A1 c1 _ hok (hS.rd AS (by have := hok.len; omega)) (hS.rd A1 hl.2.1) hl.2.1 hrgl) ?_)
  rintro e w' ⟨C, R, q, A6, c6, ⟨hwf, hro⟩, rfl, hg, hnew, hat, hfr, hap, ho⟩
  replace hS := hS.left hg hat hnew ho hfr hap; clear hg hnew hat hfr hap ho
  replace hS := hS.sub (.cons_cons _ (.cons_cons _ (.cons_cons _ (.cons_cons _ (.cons_cons _ (.cons_cons _ (.cons_cons _ (.cons _ (.cons _ (List.Sublist.refl _))))))))))
  have hM := hwf.m
  have hrlen := hro.len
  have hN := hwf.hi
  have hlo := hwf.lo
  refine ⟨_, rfl, ?_⟩
  refine lw_v rfl rfl (ok_move rfl (.n rfl) rfl) ?_
  refine lw_v rfl rfl (ok_extract rfl (.n rfl) rfl rfl) ?_
  refine lw_v rfl rfl (ok_extract rfl (.n rfl) rfl rfl) ?_
  refine lw_alloc rfl rfl rfl Try.zeroValue29 hS ?_
  clear hS; intro b7 w2 _ _ hS
  refine lw_stS rfl rfl rfl rfl rfl (by kernel_rfl) hS rfl (by rfl) (by rfl) ?_
  clear hS; intro w3 hS
  refine lw_v rfl rfl (ok_assign rfl (.n rfl) rfl) ?_
  refine lw_nil ?_
  refine Ends.keep [(2, .eq _), (7, .eq _), (8, .eq _)] (.cons rfl (.cons rfl (.cons rfl .nil))) ?_
  refine ends_then ?_
  refine cw_seq ?_
  -- region 2
  refine cw_region ?_
  refine lw_v rfl rfl (ok_ldS rfl (.n rfl) rfl Try.isAgg29 Try.sizeOf29 hS rfl) ?_
  refine lw_v rfl rfl (ok_move rfl (.n rfl) rfl) ?_
  refine lw_call (f := 25) (xs := [_, _]) rfl rfl rfl Try.call25 rfl (Calls.mono (f25a C q h A2 c2 _ hwf (hS.rd A2 hh.2.1) hrgh) ?_)
  rintro e w' ⟨H, AH, cH, hrh, rfl, hg, hfr, ho⟩
  replace hS := hS.new hg _ ho hfr; clear hg ho hfr
  have hHlH := hrh.len
  replace hS := hS.freeze .here (by omega)
  refine ⟨_, rfl, ?_⟩
  refine lw_v rfl rfl (ok_assign rfl (.n rfl) rfl) ?_
  refine lw_nil ?_
  refine Ends.keep [(2, .eq _), (7, .eq _), (8, .eq _)] (.cons rfl (.cons rfl (.cons rfl .nil))) ?_
  refine ends_then ?_
  refine cw_seq ?_
  -- region 3
  refine cw_region ?_
  refine lw_ls0 (enc := (eInt .i64)) rfl rfl rfl Try.underlying25 Try.sizeOf2 hS ?_
  clear hS; intro A23 c23 w4 _ hS
  refine lw_v rfl rfl (ok_move rfl (.n rfl) rfl) ?_
  refine lw_append0 (enc := (eInt .i64)) rfl rfl rfl Try.underlying25 info2 rfl rfl rfl hS (by omega) (by omega) ?_
  intro A25 c25 wq hS1; replace hS := hS1 _ (Rep.r); clear hS1
  rw [List.nil_append] at hS ⊢
  have hs := hwf.s
  have hfl := hwf.fl
  obtain ⟨hf0, hf1, hf2⟩ := seg_rng hwf hs
  refine lw_v rfl rfl (ok_assign rfl (.n rfl) rfl) ?_
  refine lw_nil ?_
  refine Ends.keep [(2, .eq _), (7, .eq _), (8, .eq _), (9, .eq _)] (.cons rfl (.cons rfl (.cons rfl (.cons rfl .nil)))) ?_
  refine ends_then ?_
  refine cw_seq ?_
  refine cw_seq ?_
  -- region 4
  refine cw_region ?_
  refine lw_v rfl rfl (ok_fb rfl (.n rfl) Try.underlying29 rfl Try.sizeOf26 (by decide) rfl) ?_
  refine lw_v rfl rfl (ok_ldb rfl (.n rfl) rfl Try.isAgg26 hS (by rfl)) ?_
  refine lw_v rfl rfl (ok_fb rfl (.n rfl) Try.underlying29 rfl Try.sizeOf3 (by decide) rfl) ?_
  refine lw_v rfl rfl (ok_ldb rfl (.n rfl) rfl Try.isAgg3 hS (by rfl)) ?_
  refine lw_v rfl rfl (ok_ix rfl (.n rfl) Try.underlying26 Try.sizeOf3 rfl rfl hS (fun _ => ⟨by omega, by omega⟩)) ?_
  refine lw_v rfl rfl (ok_eq (ok_ldx rfl (.n rfl) rfl Try.isAgg3 hS (fun _ => ⟨by omega, by omega⟩) (by rfl)) (c' := .int .i64 (((C.First.getD C.S 0).toNat : Nat) : Int)) (fun _ => congrArg (Value.int .i64) (Int.toNat_of_nonneg hf0).symm)) ?_
  refine lw_v rfl rfl (ok_assign rfl (.n rfl) rfl) ?_
  refine lw_nil ?_
  refine Ends.keep [(2, .eq _), (7, .eq _), (8, .eq _), (9, .eq _), (10, .eq _)] (.cons rfl (.cons rfl (.cons rfl (.cons rfl (.cons rfl .nil))))) ?_
  refine ends_then ?_
  refine cw_block ?_
  -- LOOP at region 5: changed live slots [10], kept [2, 7, 8, 9]
  refine cw_loop [(2, .eq _), (7, .eq _), (8, .eq _), (9, .eq _)] (fun a : Nat => [(10, .eq (.int .i64 a))]) (fun a w' => ∃ X, ((C.First.getD C.S 0 ≤ a ∧ a ≤ C.First.getD (C.S + 1) 0) ∧ X.length = R.length ∧ ∀ b : Nat, X.getD b 0 = if C.First.getD C.S 0 ≤ (b : Int) ∧ b < a then 0 else R.getD b 0) ∧ St w.heap.size w w' [own (eInt .i64) 1 2 A25 R.length c25 X, sl (eInt .i64) 1 AH H.length cH H, bx b7 (csV C q).cells.toList 29, own (eInt .i64) 1 2 A6 R.length c6 R, sl (eInt .i64) 1 q.a0 C.First.length q.c0 C.First, sl (eInt .i64) 1 q.a1 C.Head.length q.c1 C.Head, sl (eInt .i64) 1 q.a2 C.Rev.length q.c2 C.Rev, sl (eInt .i64) 1 q.a3 C.Cap.length q.c3 C.Cap, sl (eInt .i64) 1 q.a4 C.Arc.length q.c4 C.Arc, sl eBool 1 q.a5 C.Back.length q.c5 C.Back, sl (eInt .i64) 1 A2 h.length c2 h, sl (eInt .i64) 1 A1 l.length c1 l, sl eArc 3 A n.arcs.length c n.arcs]) (fun a => (C.First.getD (C.S + 1) 0 - a).toNat) (C.First.getD C.S 0).toNat (.cons rfl (.cons rfl (.cons rfl (.cons rfl .nil)))) (.cons rfl (.cons rfl (.cons rfl (.cons rfl (.cons rfl .nil))))) ⟨R, ⟨⟨by omega, by omega⟩, rfl, fun b => by rw [if_neg (by omega)]⟩, hS⟩ ?_
  clear hS
  rintro a wr ⟨X, ⟨⟨ha0, ha1⟩, hXl, hX⟩, hS⟩
  refine cw_seq ?_
  refine cw_seq ?_
  -- region 5
  refine cw_region ?_
  refine lw_v rfl rfl (ok_move rfl (.n rfl) rfl) ?_
  refine lw_v rfl rfl (ok_fb rfl (.n rfl) Try.underlying29 rfl Try.sizeOf26 (by decide) rfl) ?_
  refine lw_v rfl rfl (ok_ldb rfl (.n rfl) rfl Try.isAgg26 hS (by rfl)) ?_
  refine lw_v rfl rfl (ok_fb rfl (.n rfl) Try.underlying29 rfl Try.sizeOf3 (by decide) rfl) ?_
  refine lw_v rfl rfl (ok_ldb rfl (.n rfl) rfl Try.isAgg3 hS (by rfl)) ?_
  refine lw_v rfl rfl (ok_addi rfl (.n rfl) rfl rfl (fun _ => ⟨by omega, by omega⟩)) ?_
  refine lw_v rfl rfl (ok_ix rfl (.n rfl) Try.underlying26 Try.sizeOf3 rfl rfl hS (fun _ => ⟨by omega, by omega⟩)) ?_
  refine lw_v rfl rfl (ok_ldx rfl (.n rfl) rfl Try.isAgg3 hS (fun _ => ⟨by omega, by omega⟩) (by rfl)) ?_
  refine lw_v rfl rfl (ok_lss rfl (.n rfl) rfl rfl) ?_
  refine lw_nil ?_
  refine Ends.keep [(2, .eq _), (7, .eq _), (8, .eq _), (9, .eq _), (10, .eq _), (40, .eq _)] (.cons rfl (.cons rfl (.cons rfl (.cons rfl (.cons rfl (.cons rfl .nil)))))) ?_
  refine ends_then ?_
  refine cw_cond rfl (fun h40 => ?_) (fun h40 => ?_)
  ·
    have hlt : (a : Int) < C.First.getD (C.S + 1) 0 := of_decide_eq_true h40
    refine cw_skip ?_
    refine ends_then ?_
    refine cw_seq ?_
    refine cw_block ?_
    -- region 7
    refine cw_region ?_
    refine lw_v rfl rfl (ok_move rfl (.n rfl) rfl) ?_
    refine lw_v rfl rfl (ok_move rfl (.n rfl) rfl) ?_
    refine lw_v rfl rfl (ok_ix rfl (.n rfl) Try.underlying25 Try.sizeOf2 rfl rfl hS (fun _ => ⟨by omega, by omega⟩)) ?_
    refine lw_stx (enc := (eInt .i64)) (_) rfl rfl rfl rfl rfl rfl Try.sizeOf2 hS (⟨by omega, by omega⟩) ?_
    clear hS; intro w5 hS
    refine lw_nil ?_
    refine in_normal (?_)
    refine Ends.keep [(2, .eq _), (7, .eq _), (8, .eq _), (9, .eq _), (10, .eq _)] (.cons rfl (.cons rfl (.cons rfl (.cons rfl (.cons rfl .nil))))) ?_
    refine ends_then ?_
    -- region 6
    refine cw_region ?_
    refine lw_v rfl rfl (ok_move rfl (.n rfl) rfl) ?_
    refine lw_v rfl rfl (ok_addi rfl (.n rfl) rfl rfl (fun _ => ⟨by omega, by omega⟩)) ?_
    refine lw_v rfl rfl (ok_assign rfl (.n rfl) rfl) ?_
    refine lw_nil ?_
    -- BACK
    refine ends_back (a + 1) (.cons rfl (.cons rfl (.cons rfl (.cons rfl (.cons rfl .nil))))) ⟨_, ⟨⟨by omega, by omega⟩, by rw [List.length_set]; exact hXl, fun b => shut_step (by omega) hX ha0 b⟩, hS⟩ (by omega)
  ·
    have hge : ¬ (a : Int) < C.First.getD (C.S + 1) 0 := of_decide_eq_false h40
    have hl1 := toL_len (res := X) (by omega) hwf.t
    have hL := toL_low (inB_of (res := X) (by omega) hwf.t)
    have hsh : ∀ u w, u < C.N → w < C.N → (Edge C X u w ↔ EdgeS C R u w) := fun u w _ _ => edge_shut hwf fun b => by
      rw [hX b]
      have : (C.First.getD C.S 0 ≤ (b : Int) ∧ b < a) = (C.First.getD C.S 0 ≤ (b : Int) ∧ (b : Int) < C.First.getD (C.S + 1) 0) := by rw [eq_iff_iff]; omega
      simp only [this]
    have hL : Low C.N (EdgeS C R) (hTo C.N C.T) (toL C X (C.T : Int)) := low_congr hL (fun _ _ => rfl) hsh
    refine cw_exit ?_
    refine then_exit (then_exit (in_exit (?_)))
    refine Ends.keep [(2, .eq _), (7, .eq _), (8, .eq _), (9, .eq _)] (.cons rfl (.cons rfl (.cons rfl (.cons rfl .nil)))) ?_
    refine ends_then ?_
    refine cw_seq ?_
    -- region 8
    refine cw_region ?_
    refine lw_v rfl rfl (ok_ldS rfl (.n rfl) rfl Try.isAgg29 Try.sizeOf29 hS rfl) ?_
    refine lw_v rfl rfl (ok_move rfl (.n rfl) rfl) ?_
    refine lw_v rfl rfl (ok_fb rfl (.n rfl) Try.underlying29 rfl Try.sizeOf3 (by decide) rfl) ?_
    refine lw_v rfl rfl (ok_ldb rfl (.n rfl) rfl Try.isAgg3 hS (by rfl)) ?_
    refine lw_call (f := 41) (xs := [_, _, _]) rfl rfl rfl Try.call41 rfl (Calls.mono (f41 C q X (C.T : Int) A25 c25 _ hwf (hS.cs q) (hS.rd A25 (by omega))) ?_)
    rintro e w' ⟨A50, c50, rfl, hg, hfr, ho⟩
    replace hS := hS.new hg _ ho hfr; clear hg ho hfr
    rw [hl1] at hS ⊢
    generalize toL C X (C.T : Int) = D at hS hl1 hL
    refine ⟨_, rfl, ?_⟩
    refine lw_v rfl rfl (ok_assign rfl (.n rfl) rfl) ?_
    refine lw_nil ?_
    refine Ends.keep [(2, .eq _), (7, .eq _), (8, .eq _), (11, .eq _)] (.cons rfl (.cons rfl (.cons rfl (.cons rfl .nil)))) ?_
    refine ends_then ?_
    refine cw_seq ?_
    refine cw_seq ?_
    -- region 9
    refine cw_region ?_
    refine lw_v rfl rfl (ok_move rfl (.n rfl) rfl) ?_
    refine lw_v rfl rfl (ok_len rfl (.n rfl) Try.underlying26 rfl) ?_
    refine lw_v rfl rfl (ok_fb rfl (.n rfl) Try.underlying29 rfl Try.sizeOf3 (by decide) rfl) ?_
    refine lw_v rfl rfl (ok_ldb rfl (.n rfl) rfl Try.isAgg3 hS (by rfl)) ?_
    refine lw_v rfl rfl (ok_neq rfl (.n rfl) rfl rfl) ?_
    refine lw_nil ?_
    refine Ends.keep [(2, .eq _), (7, .eq _), (8, .eq _), (11, .eq _), (55, .eq _)] (.cons rfl (.cons rfl (.cons rfl (.cons rfl (.cons rfl .nil))))) ?_
    refine ends_then ?_
    refine cw_cond rfl (fun h55 => ?_) (fun h55 => ?_)
    ·
      simp at h55
    ·
      have hDr := exact_right hwf hL
      have hDm : mayB C R D = true := (may_iff hwf).2 ⟨hrlen, hDr⟩
      have hvb : validB C R D = true := (valid_iff hwf).2 ⟨hDm, low_flatly hL⟩
      have hst : steepL C R D = [] := (steep_none hwf hDm).2 (low_flatly hL)
      have hset : D.set (C.S : Int).toNat (C.N : Int) = D := set_same hDr.s (by omega)
      refine cw_skip ?_
      refine ends_then ?_
      refine cw_seq ?_
      refine cw_seq ?_
      -- region 11
      refine cw_region ?_
      refine lw_v rfl rfl (ok_ldS rfl (.n rfl) rfl Try.isAgg29 Try.sizeOf29 hS rfl) ?_
      refine lw_v rfl rfl (ok_move rfl (.n rfl) rfl) ?_
      refine lw_v rfl rfl (ok_move rfl (.n rfl) rfl) ?_
      refine lw_call (f := 35) (xs := [_, _, _]) rfl rfl rfl Try.call35 rfl (Calls.mono (f35g C q R H A6 c6 AH cH _ hwf (hS.cs q) (hS.rd A6 (by omega)) (hS.rd AH (by omega))) ?_)
      rintro e w' ⟨rfl, hg⟩
      replace hS := hS.grow hg; clear hg
      refine ⟨_, rfl, ?_⟩
      refine lw_nil ?_
      refine Ends.keep [(2, .eq _), (7, .eq _), (8, .eq _), (11, .eq _), (59, .eq _)] (.cons rfl (.cons rfl (.cons rfl (.cons rfl (.cons rfl .nil))))) ?_
      refine ends_then ?_
      refine cw_cond rfl (fun h59 => ?_) (fun h59 => ?_)
      ·
        refine cw_seq ?_
        -- region 12
        refine cw_region ?_
        refine lw_v rfl rfl (ok_move rfl (.n rfl) rfl) ?_
        refine lw_v rfl rfl (ok_len rfl (.n rfl) Try.underlying26 rfl) ?_
        refine lw_v rfl rfl (ok_move rfl (.n rfl) rfl) ?_
        refine lw_nil ?_
        refine Ends.keep [(2, .eq _), (7, .eq _), (8, .eq _), (11, .eq _), (61, .eq _), (62, .eq _)] (.cons rfl (.cons rfl (.cons rfl (.cons rfl (.cons rfl (.cons rfl .nil)))))) ?_
        refine ends_then ?_
        refine cw_block ?_
        -- LOOP at region 13: changed live slots [62], kept [2, 7, 8, 11, 61]
        refine cw_loop [(2, .eq _), (7, .eq _), (8, .eq _), (11, .eq _), (61, .eq _)] (fun v : Nat => [(62, .eq (.int .i64 v))]) (fun v w' => v ≤ C.N ∧ St w.heap.size w w' [own (eInt .i64) 1 3 A50 C.N c50 D, own (eInt .i64) 1 2 A25 R.length c25 X, sl (eInt .i64) 1 AH H.length cH H, bx b7 (csV C q).cells.toList 29, own (eInt .i64) 1 2 A6 R.length c6 R, sl (eInt .i64) 1 q.a0 C.First.length q.c0 C.First, sl (eInt .i64) 1 q.a1 C.Head.length q.c1 C.Head, sl (eInt .i64) 1 q.a2 C.Rev.length q.c2 C.Rev, sl (eInt .i64) 1 q.a3 C.Cap.length q.c3 C.Cap, sl (eInt .i64) 1 q.a4 C.Arc.length q.c4 C.Arc, sl eBool 1 q.a5 C.Back.length q.c5 C.Back, sl (eInt .i64) 1 A2 h.length c2 h, sl (eInt .i64) 1 A1 l.length c1 l, sl eArc 3 A n.arcs.length c n.arcs]) (fun v => C.N - v) 0 (.cons rfl (.cons rfl (.cons rfl (.cons rfl (.cons rfl .nil))))) (.cons rfl (.cons rfl (.cons rfl (.cons rfl (.cons rfl (.cons rfl .nil)))))) ⟨Nat.zero_le _, hS⟩ ?_
        clear hS
        rintro v wr ⟨hv, hS⟩
        refine cw_seq ?_
        -- region 13
        refine cw_region ?_
        refine lw_v rfl rfl (ok_lss rfl (.n rfl) rfl rfl) ?_
        refine lw_nil ?_
        refine Ends.keep [(2, .eq _), (7, .eq _), (8, .eq _), (11, .eq _), (61, .eq _), (62, .eq _), (63, .eq _)] (.cons rfl (.cons rfl (.cons rfl (.cons rfl (.cons rfl (.cons rfl (.cons rfl .nil))))))) ?_
        refine ends_then ?_
        refine cw_seq ?_
        refine cw_cond rfl (fun h63 => ?_) (fun h63 => ?_)
        ·
          have hvN : v < C.N := by have := of_decide_eq_true h63; omega
          have hle : H.getD (v : Int).toNat 0 ≤ D.getD (v : Int).toNat 0 := hL.greatest (x := fun v => H.getD v 0) (fun x hx => top_le hrh x hx) (fun x y hx hy he => ((valid_iff hwf).1 h59).2 x y hx hy he) v hvN
          refine cw_skip ?_
          refine ends_then ?_
          refine cw_seq ?_
          refine cw_block ?_
          refine cw_seq ?_
          -- region 14
          refine cw_region ?_
          refine lw_v rfl rfl (ok_move rfl (.n rfl) rfl) ?_
          refine lw_v rfl rfl (ok_assign rfl (.n rfl) rfl) ?_
          refine lw_nil ?_
          refine Ends.keep [(2, .eq _), (7, .eq _), (8, .eq _), (11, .eq _), (12, .eq _), (61, .eq _), (62, .eq _)] (.cons rfl (.cons rfl (.cons rfl (.cons rfl (.cons rfl (.cons rfl (.cons rfl .nil))))))) ?_
          refine ends_then ?_
          refine cw_seq ?_
          -- region 15
          refine cw_draw (by kernel_rfl) (List.take 13 _) (List.drop 13 _) (List.take_append_drop 13 _).symm (by kernel_rfl) ?_
          refine free_v (ok_move rfl (.n rfl) rfl) ?_
          refine free_v (ok_fb rfl (.n rfl) Try.underlying29 rfl Try.sizeOf3 (by decide) rfl) ?_
          refine free_v (ok_ldb rfl (.n rfl) rfl Try.isAgg3 hS (by rfl)) ?_
          refine free_v (ok_neq rfl (.n rfl) rfl rfl) ?_
          refine free_v (ok_move rfl (.n rfl) rfl) ?_
          refine free_v (ok_move rfl (.s rfl rfl) rfl) ?_
          refine free_v (ok_move rfl (.s rfl rfl) rfl) ?_
          refine free_v (ok_ix rfl (.s rfl rfl) Try.underlying26 Try.sizeOf3 rfl rfl hS (fun _ => ⟨by omega, by omega⟩)) ?_
          refine free_v (ok_ldx rfl (.s rfl rfl) rfl Try.isAgg3 hS (fun _ => ⟨by omega, by omega⟩) (by rfl)) ?_
          refine free_v (ok_move rfl (.s rfl rfl) rfl) ?_
          refine free_v (ok_move rfl (.s rfl rfl) rfl) ?_
          refine free_v (ok_ix rfl (.s rfl rfl) Try.underlying26 Try.sizeOf3 rfl rfl hS (fun _ => ⟨by omega, by omega⟩)) ?_
          refine free_v (ok_ldx rfl (.s rfl rfl) rfl Try.isAgg3 hS (fun _ => ⟨by omega, by omega⟩) (by rfl)) ?_
          refine free_nil ?_
          intro w6 hg_; replace hS := hS.grow hg_; clear hg_
          refine lw_v rfl rfl (ok_gtr rfl (.s rfl rfl) rfl rfl) ?_
          refine lw_v rfl rfl (ok_and rfl rfl rfl rfl) ?_
          refine lw_nil ?_
          refine Ends.keep [(2, .eq _), (7, .eq _), (8, .eq _), (11, .eq _), (61, .eq _), (62, .eq _), (79, .eq _)] (.cons rfl (.cons rfl (.cons rfl (.cons rfl (.cons rfl (.cons rfl (.cons rfl .nil))))))) ?_
          refine ends_then ?_
          refine cw_cond rfl (fun h79 => ?_) (fun h79 => ?_)
          ·
            rw [Bool.and_eq_true, decide_eq_true_eq] at h79
            omega
          ·
            refine cw_skip ?_
            refine in_normal (?_)
            refine ends_then ?_
            -- region 17
            refine cw_region ?_
            refine lw_v rfl rfl (ok_addi rfl (.n rfl) rfl rfl (fun _ => ⟨by omega, by omega⟩)) ?_
            refine lw_v rfl rfl (ok_move rfl (.n rfl) rfl) ?_
            refine lw_nil ?_
            -- BACK
            refine ends_back (v + 1) (.cons rfl (.cons rfl (.cons rfl (.cons rfl (.cons rfl (.cons rfl .nil)))))) ⟨by omega, hS⟩ (by omega)
        ·
          refine cw_exit ?_
          refine then_exit (then_exit (in_exit (?_)))
          refine Ends.keep [(7, .eq _), (8, .eq _), (11, .eq _)] (.cons rfl (.cons rfl (.cons rfl .nil))) ?_
          refine ends_then ?_
          refine cw_seq ?_
          -- region 18
          refine cw_region ?_
          refine lw_v rfl rfl (ok_move rfl (.n rfl) rfl) ?_
          refine lw_v rfl rfl (ok_fb rfl (.n rfl) Try.underlying29 rfl Try.sizeOf3 (by decide) rfl) ?_
          refine lw_v rfl rfl (ok_ldb rfl (.n rfl) rfl Try.isAgg3 hS (by rfl)) ?_
          refine lw_v rfl rfl (ok_fb rfl (.n rfl) Try.underlying29 rfl Try.sizeOf3 (by decide) rfl) ?_
          refine lw_v rfl rfl (ok_ldb rfl (.n rfl) rfl Try.isAgg3 hS (by rfl)) ?_
          refine lw_v rfl rfl (ok_ix rfl (.n rfl) Try.underlying26 Try.sizeOf3 rfl rfl hS (fun _ => ⟨by omega, by omega⟩)) ?_
          refine lw_stx (enc := (eInt .i64)) (_) rfl rfl rfl rfl rfl rfl Try.sizeOf3 hS ⟨by omega, by omega⟩ ?_
          clear hS; intro ws hS
          rw [hset] at hS
          refine lw_nil ?_
          refine Ends.keep [(7, .eq _), (8, .eq _), (11, .eq _)] (.cons rfl (.cons rfl (.cons rfl .nil))) ?_
          refine ends_then ?_
          refine cw_seq ?_
          -- region 19
          refine cw_region ?_
          refine lw_v rfl rfl (ok_ldS rfl (.n rfl) rfl Try.isAgg29 Try.sizeOf29 hS rfl) ?_
          refine lw_v rfl rfl (ok_move rfl (.n rfl) rfl) ?_
          refine lw_call (f := 28) (xs := [_, _]) rfl rfl rfl Try.call28 rfl (Calls.mono (f28g C q D A50 c50 _ hwf (hS.rd A50 (by omega))) ?_)
          rintro e w' ⟨rfl, hg⟩
          replace hS := hS.grow hg; clear hg
          rw [(right_iff hwf).2 hDr]
          refine ⟨_, rfl, ?_⟩
          refine lw_v rfl rfl (ok_move rfl (.n rfl) rfl) ?_
          refine lw_on (.s rfl rfl) rfl ?_
          refine lw_v rfl rfl (ok_ldS rfl (.n rfl) rfl Try.isAgg29 Try.sizeOf29 hS rfl) ?_
          refine lw_on (.s rfl rfl) rfl ?_
          refine lw_v rfl rfl (ok_move rfl (.n rfl) rfl) ?_
          refine lw_on (.s rfl rfl) rfl ?_
          refine lw_v rfl rfl (ok_move rfl (.n rfl) rfl) ?_
          refine lw_on (.s rfl rfl) rfl ?_
          refine lw_call (f := 35) (xs := [_, _, _]) rfl rfl rfl Try.call35 rfl (Calls.mono (f35g C q R D A6 c6 A50 c50 _ hwf (hS.cs q) (hS.rd A6 (by omega)) (hS.rd A50 (by omega))) ?_)
          rintro e w' ⟨rfl, hg⟩
          replace hS := hS.grow hg; clear hg
          rw [hvb]
          refine ⟨_, rfl, ?_⟩
          refine lw_v rfl rfl (ok_pick rfl rfl rfl rfl rfl) ?_
          refine lw_v rfl rfl (ok_move rfl (.n rfl) rfl) ?_
          refine lw_on (.s rfl rfl) rfl ?_
          refine lw_v rfl rfl (ok_ldS rfl (.n rfl) rfl Try.isAgg29 Try.sizeOf29 hS rfl) ?_
          refine lw_on (.s rfl rfl) rfl ?_
          refine lw_v rfl rfl (ok_move rfl (.n rfl) rfl) ?_
          refine lw_on (.s rfl rfl) rfl ?_
          refine lw_v rfl rfl (ok_move rfl (.n rfl) rfl) ?_
          refine lw_on (.s rfl rfl) rfl ?_
          refine lw_call (f := 31) (xs := [_, _, _]) rfl rfl rfl Try.call31 rfl (Calls.mono (f31g C q R D A6 c6 A50 c50 _ hwf (hS.cs q) (hS.rd A6 (by omega)) (hS.rd A50 (by omega))) ?_)
          rw [hst]
          rintro e w' ⟨A100, c100, rfl, hg, hfr, ho⟩
          replace hS := hS.new hg _ ho hfr; clear hg ho hfr
          refine ⟨_, rfl, ?_⟩
          refine lw_on (.s rfl rfl) rfl ?_
          refine lw_v rfl rfl (ok_len rfl (.n rfl) Try.underlying26 rfl) ?_
          refine lw_on (.s rfl rfl) rfl ?_
          refine lw_v rfl rfl (ok_eql rfl (.n rfl) rfl rfl) ?_
          refine lw_v rfl rfl (ok_pick rfl rfl rfl rfl rfl) ?_
          refine lw_v rfl rfl (ok_move rfl (.n rfl) rfl) ?_
          refine lw_on (.s rfl rfl) rfl ?_
          refine lw_call (f := 39) (xs := []) rfl rfl rfl Try.call39 rfl (Calls.mono (f39 _) ?_)
          rintro e w' ⟨rfl, hg⟩
          replace hS := hS.grow hg; clear hg
          refine ⟨_, rfl, ?_⟩
          refine lw_v rfl rfl (ok_pick rfl rfl rfl rfl rfl) ?_
          refine lw_v rfl rfl (ok_assign rfl (.n rfl) rfl) ?_
          refine lw_nil ?_
          refine Ends.keep [(6, .eq _)] (.cons rfl .nil) ?_
          refine ends_then ?_
          refine cw_ret ?_
          exact end_ret (res1 Try.results19 rfl) ⟨rfl, hS.below⟩
      ·
        refine cw_skip ?_
        refine ends_then ?_
        refine cw_seq ?_
        -- region 18
        refine cw_region ?_
        refine lw_v rfl rfl (ok_move rfl (.n rfl) rfl) ?_
        refine lw_v rfl rfl (ok_fb rfl (.n rfl) Try.underlying29 rfl Try.sizeOf3 (by decide) rfl) ?_
        refine lw_v rfl rfl (ok_ldb rfl (.n rfl) rfl Try.isAgg3 hS (by rfl)) ?_
        refine lw_v rfl rfl (ok_fb rfl (.n rfl) Try.underlying29 rfl Try.sizeOf3 (by decide) rfl) ?_
        refine lw_v rfl rfl (ok_ldb rfl (.n rfl) rfl Try.isAgg3 hS (by rfl)) ?_
        refine lw_v rfl rfl (ok_ix rfl (.n rfl) Try.underlying26 Try.sizeOf3 rfl rfl hS (fun _ => ⟨by omega, by omega⟩)) ?_
        refine lw_stx (enc := (eInt .i64)) (_) rfl rfl rfl rfl rfl rfl Try.sizeOf3 hS ⟨by omega, by omega⟩ ?_
        clear hS; intro ws hS
        rw [hset] at hS
        refine lw_nil ?_
        refine Ends.keep [(7, .eq _), (8, .eq _), (11, .eq _)] (.cons rfl (.cons rfl (.cons rfl .nil))) ?_
        refine ends_then ?_
        refine cw_seq ?_
        -- region 19
        refine cw_region ?_
        refine lw_v rfl rfl (ok_ldS rfl (.n rfl) rfl Try.isAgg29 Try.sizeOf29 hS rfl) ?_
        refine lw_v rfl rfl (ok_move rfl (.n rfl) rfl) ?_
        refine lw_call (f := 28) (xs := [_, _]) rfl rfl rfl Try.call28 rfl (Calls.mono (f28g C q D A50 c50 _ hwf (hS.rd A50 (by omega))) ?_)
        rintro e w' ⟨rfl, hg⟩
        replace hS := hS.grow hg; clear hg
        rw [(right_iff hwf).2 hDr]
        refine ⟨_, rfl, ?_⟩
        refine lw_v rfl rfl (ok_move rfl (.n rfl) rfl) ?_
        refine lw_on (.s rfl rfl) rfl ?_
        refine lw_v rfl rfl (ok_ldS rfl (.n rfl) rfl Try.isAgg29 Try.sizeOf29 hS rfl) ?_
        refine lw_on (.s rfl rfl) rfl ?_
        refine lw_v rfl rfl (ok_move rfl (.n rfl) rfl) ?_
        refine lw_on (.s rfl rfl) rfl ?_
        refine lw_v rfl rfl (ok_move rfl (.n rfl) rfl) ?_
        refine lw_on (.s rfl rfl) rfl ?_
        refine lw_call (f := 35) (xs := [_, _, _]) rfl rfl rfl Try.call35 rfl (Calls.mono (f35g C q R D A6 c6 A50 c50 _ hwf (hS.cs q) (hS.rd A6 (by omega)) (hS.rd A50 (by omega))) ?_)
        rintro e w' ⟨rfl, hg⟩
        replace hS := hS.grow hg; clear hg
        rw [hvb]
        refine ⟨_, rfl, ?_⟩
        refine lw_v rfl rfl (ok_pick rfl rfl rfl rfl rfl) ?_
        refine lw_v rfl rfl (ok_move rfl (.n rfl) rfl) ?_
        refine lw_on (.s rfl rfl) rfl ?_
        refine lw_v rfl rfl (ok_ldS rfl (.n rfl) rfl Try.isAgg29 Try.sizeOf29 hS rfl) ?_
        refine lw_on (.s rfl rfl) rfl ?_
        refine lw_v rfl rfl (ok_move rfl (.n rfl) rfl) ?_
        refine lw_on (.s rfl rfl) rfl ?_
        refine lw_v rfl rfl (ok_move rfl (.n rfl) rfl) ?_
        refine lw_on (.s rfl rfl) rfl ?_
        refine lw_call (f := 31) (xs := [_, _, _]) rfl rfl rfl Try.call31 rfl (Calls.mono (f31g C q R D A6 c6 A50 c50 _ hwf (hS.cs q) (hS.rd A6 (by omega)) (hS.rd A50 (by omega))) ?_)
        rw [hst]
        rintro e w' ⟨A100, c100, rfl, hg, hfr, ho⟩
        replace hS := hS.new hg _ ho hfr; clear hg ho hfr
        refine ⟨_, rfl, ?_⟩
        refine lw_on (.s rfl rfl) rfl ?_
        refine lw_v rfl rfl (ok_len rfl (.n rfl) Try.underlying26 rfl) ?_
        refine lw_on (.s rfl rfl) rfl ?_
        refine lw_v rfl rfl (ok_eql rfl (.n rfl) rfl rfl) ?_
        refine lw_v rfl rfl (ok_pick rfl rfl rfl rfl rfl) ?_
        refine lw_v rfl rfl (ok_move rfl (.n rfl) rfl) ?_
        refine lw_on (.s rfl rfl) rfl ?_
        refine lw_call (f := 39) (xs := []) rfl rfl rfl Try.call39 rfl (Calls.mono (f39 _) ?_)
        rintro e w' ⟨rfl, hg⟩
        replace hS := hS.grow hg; clear hg
        refine ⟨_, rfl, ?_⟩
        refine lw_v rfl rfl (ok_pick rfl rfl rfl rfl rfl) ?_
        refine lw_v rfl rfl (ok_assign rfl (.n rfl) rfl) ?_
        refine lw_nil ?_
        refine Ends.keep [(6, .eq _)] (.cons rfl .nil) ?_
        refine ends_then ?_
        refine cw_ret ?_
        exact end_ret (res1 Try.results19 rfl) ⟨rfl, hS.below⟩

end Go.Proofs.Ytnpgeohkmdcbkaa.Aq
