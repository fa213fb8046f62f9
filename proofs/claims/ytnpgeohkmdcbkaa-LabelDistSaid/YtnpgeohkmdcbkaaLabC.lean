/- The walks of label.Least, and of acequiaref06 but its Least. -/
import Derived.Test.YtnpgeohkmdcbkaaLabB
namespace Go.Proofs.Ytnpgeohkmdcbkaa.Aq
open Go Go.RowKit

theorem and_of {a b : Int} {x y : Int} (h : (decide (a < b) && decide (x < y)) = true) : a < b ∧ x < y := by
  rwa [Bool.and_eq_true, decide_eq_true_eq, decide_eq_true_eq] at h
theorem nand_of {a b : Int} {x y : Int} (h : (decide (a < b) && decide (x < y)) = false) : ¬ (a < b ∧ x < y) := fun hn => by
  rw [decide_eq_true hn.1, decide_eq_true hn.2] at h
  cases h
theorem not_in {b : Bool} {u N : Int} (h : ((!b || decide (u < 0)) || decide (N ≤ u)) = true) : ¬ (b = true ∧ 0 ≤ u ∧ u < N) := fun ⟨h1, h2, h3⟩ => by
  rw [h1, decide_eq_false (by omega), decide_eq_false (by omega)] at h
  cases h
theorem is_in {b : Bool} {u N : Int} (h : ((!b || decide (u < 0)) || decide (N ≤ u)) = false) : (b = true ∧ 0 ≤ u) ∧ u < N := by
  rw [Bool.or_eq_false_iff, Bool.or_eq_false_iff, decide_eq_false_iff_not, decide_eq_false_iff_not] at h
  exact ⟨⟨by simpa using h.1.1, by omega⟩, by omega⟩
theorem least_none {c : Cs} {res h : List Int} {v : Nat} {a b m : Int} (ht : LeastTo c res h v a b m) (hm : mayB c res h = true) (ha : a = c.First.getD ((v : Int) + 1).toNat 0) (h1 : (c.N : Int) < m) : LeastR c res h v 0 0 false := by
  refine .inr ⟨rfl, rfl, rfl, fun _ _ _ x hx => ?_⟩
  rcases ht with ⟨_, _, h2⟩ | ⟨h2, _⟩
  · exact h2 x (by rw [ha]; exact hx.2.1) hx
  · omega
theorem least_some {c : Cs} {res h : List Int} {v : Nat} {a b m : Int} (ht : LeastTo c res h v a b m) (hm : mayB c res h = true) (hv : (v : Int) < c.N) (ha : a = c.First.getD ((v : Int) + 1).toNat 0) (h1 : m ≤ (c.N : Int)) : LeastR c res h v b m true := by
  rcases ht with ⟨_, h2, _⟩ | ⟨h2, h3, h4, h5, h6, h7⟩
  · omega
  · exact .inl ⟨hm, by omega, hv, rfl, h4, h5, fun x hx => h6 x (by rw [ha]; exact hx.2.1) hx, h7⟩
set_option maxRecDepth 10000 in
/-- label.Least. -/
theorem f26 (c : Cs) (q : Q6) (res l : List Int) (u : Int) (A1 : Option Addr) (c1 : Nat) (A : Option Addr) (cc : Nat) (w : World) (hwf : WF c) (hc : CsAt c q w) (hr : (sl (eInt .i64) 1 A1 res.length c1 res).p w) (hl : (sl (eInt .i64) 1 A l.length cc l).p w) :
    Calls Try.prog 26 #[csV c q, .slice A1 res.length c1, .slice A l.length cc, .int .i64 u] w fun e w' => ∃ b m ok, e = .returned (.tuple #[.int .i64 b, .int .i64 m, .bool ok]) ∧ Gr w w' ∧ LeastR c res l u b m ok := by
  refine calls_cw Try.func26 rfl Try.ntmps26 rfl ?_
  have hS := ((St.ofc hc).args (Nat.le_refl _) _ hl rfl).args (Nat.le_refl _) _ hr rfl
  have hll := hl.2.1
  have hrr := hr.2.1
  refine cw_seq ?_
  -- region 0
  refine cw_region ?_
  refine lw_box rfl rfl rfl rfl hS ?_
  clear hS; intro b4 w1 _ _ hS
  refine lw_v rfl rfl (ok_assign rfl (.n rfl) rfl) ?_
  refine lw_v rfl rfl (ok_assign rfl (.n rfl) rfl) ?_
  refine lw_v rfl rfl (ok_assign rfl (.n rfl) rfl) ?_
  refine lw_nil ?_
  refine Ends.keep [(1, .eq _), (2, .eq _), (3, .eq _), (4, .eq _)] (.cons rfl (.cons rfl (.cons rfl (.cons rfl .nil)))) ?_
  refine ends_then ?_
  refine cw_seq ?_
  refine cw_seq ?_
  -- region 1
  refine cw_region ?_
  refine lw_v rfl rfl (ok_ldS rfl (.n rfl) rfl Try.isAgg29 Try.sizeOf29 hS rfl) ?_
  refine lw_v rfl rfl (ok_move rfl (.n rfl) rfl) ?_
  refine lw_v rfl rfl (ok_move rfl (.n rfl) rfl) ?_
  refine lw_call (f := 70) (xs := [_, _, _]) rfl rfl rfl Try.call70 rfl (Calls.mono (f70 c q res l A1 c1 A cc _ hwf (hS.rd A hll)) ?_)
  rintro e w' ⟨rfl, hg⟩
  replace hS := hS.grow hg; clear hg
  refine ⟨_, rfl, ?_⟩
  refine lw_v rfl rfl (ok_not rfl (.n rfl) rfl) ?_
  refine lw_v rfl rfl (ok_move rfl (.n rfl) rfl) ?_
  refine lw_v rfl rfl (ok_move rfl (.s rfl rfl) rfl) ?_
  refine lw_v rfl rfl (ok_lss rfl (.s rfl rfl) rfl rfl) ?_
  refine lw_v rfl rfl (ok_or rfl rfl rfl rfl) ?_
  refine lw_v rfl rfl (ok_move rfl (.n rfl) rfl) ?_
  refine lw_v rfl rfl (ok_move rfl (.s rfl rfl) rfl) ?_
  refine lw_v rfl rfl (ok_fb rfl (.s rfl rfl) Try.underlying29 rfl Try.sizeOf3 (by decide) rfl) ?_
  refine lw_v rfl rfl (ok_ldb rfl (.s rfl rfl) rfl Try.isAgg3 hS (by rfl)) ?_
  refine lw_v rfl rfl (ok_geq rfl (.s rfl rfl) rfl rfl) ?_
  refine lw_v rfl rfl (ok_or rfl rfl rfl rfl) ?_
  refine lw_nil ?_
  refine Ends.keep [(1, .eq _), (2, .eq _), (3, .eq _), (4, .eq _), (29, .eq _)] (.cons rfl (.cons rfl (.cons rfl (.cons rfl (.cons rfl .nil))))) ?_
  refine ends_then ?_
  refine cw_cond rfl (fun h29 => ?_) (fun h29 => ?_)
  ·
    have hno : ¬ (mayB c res l = true ∧ 0 ≤ u ∧ u < c.N) := not_in h29
    refine cw_seq ?_
    -- region 2
    refine cw_region ?_
    refine lw_v rfl rfl (ok_assign rfl (.n rfl) rfl) ?_
    refine lw_v rfl rfl (ok_assign rfl (.n rfl) rfl) ?_
    refine lw_v rfl rfl (ok_assign rfl (.n rfl) rfl) ?_
    refine lw_nil ?_
    refine Ends.keep [(8, .eq _), (9, .eq _), (10, .eq _)] (.cons rfl (.cons rfl (.cons rfl .nil))) ?_
    refine ends_then ?_
    refine cw_ret ?_
    refine then_ret (?_)
    exact end_ret (res3 Try.results26 rfl rfl rfl) ⟨_, _, _, rfl, hS.below, .inr ⟨rfl, rfl, rfl, fun h1 h2 h3 => absurd ⟨h1, h2, h3⟩ hno⟩⟩
  ·
    obtain ⟨⟨hm, hu0⟩, huN⟩ : (mayB c res l = true ∧ 0 ≤ u) ∧ u < c.N := is_in h29
    obtain ⟨hrl, hrh⟩ := (may_iff hwf).1 hm
    obtain ⟨v, rfl⟩ := Int.eq_ofNat_of_zero_le hu0
    clear hu0
    have hvN : v < c.N := by omega
    have hM := hwf.m
    have hN := hwf.hi
    have hfl := hwf.fl
    have hlen := hrh.len
    obtain ⟨hf0, hf1, hf2⟩ := seg_rng hwf hvN
    have eF : c.First.getD (v : Int).toNat 0 = c.First.getD v 0 := rfl
    have eF1 : c.First.getD ((v : Int) + 1).toNat 0 = c.First.getD (v + 1) 0 := rfl
    rw [← eF] at hf0 hf1
    rw [← eF1] at hf1 hf2
    refine cw_skip ?_
    refine ends_then ?_
    refine cw_seq ?_
    -- region 3
    refine cw_draw (by kernel_rfl) (List.take 4 _) (List.drop 4 _) (List.take_append_drop 4 _).symm (by kernel_rfl) ?_
    refine free_v (ok_fb rfl (.n rfl) Try.underlying29 rfl Try.sizeOf3 (by decide) rfl) ?_
    refine free_v (ok_ldb rfl (.n rfl) rfl Try.isAgg3 hS (by rfl)) ?_
    refine free_v (ok_addi rfl (.n rfl) rfl rfl (fun _ => ⟨by omega, by omega⟩)) ?_
    refine free_v (ok_assign rfl (.n rfl) rfl) ?_
    refine free_nil ?_
    intro w2 hg_; replace hS := hS.grow hg_; clear hg_
    refine lw_v rfl rfl (ok_assign rfl (.n rfl) rfl) ?_
    refine lw_nil ?_
    refine Ends.keep [(1, .eq _), (2, .eq _), (3, .eq _), (4, .eq _), (11, .eq _), (12, .eq _)] (.cons rfl (.cons rfl (.cons rfl (.cons rfl (.cons rfl (.cons rfl .nil)))))) ?_
    refine ends_then ?_
    refine cw_seq ?_
    refine cw_seq ?_
    -- region 4
    refine cw_region ?_
    refine lw_v rfl rfl (ok_fb rfl (.n rfl) Try.underlying29 rfl Try.sizeOf26 (by decide) rfl) ?_
    refine lw_v rfl rfl (ok_ldb rfl (.n rfl) rfl Try.isAgg26 hS (by rfl)) ?_
    refine lw_v rfl rfl (ok_move rfl (.n rfl) rfl) ?_
    refine lw_v rfl rfl (ok_ix rfl (.n rfl) Try.underlying26 Try.sizeOf3 rfl rfl hS (fun _ => ⟨by omega, by omega⟩)) ?_
    refine lw_v rfl rfl (ok_ldx rfl (.n rfl) rfl Try.isAgg3 hS (fun _ => ⟨by omega, by omega⟩) (by rfl)) ?_
    refine lw_v rfl rfl (ok_assign rfl (.n rfl) rfl) ?_
    refine lw_nil ?_
    refine Ends.keep [(1, .eq _), (2, .eq _), (3, .eq _), (4, .eq _), (11, .eq _), (12, .eq _), (13, .eq _)] (.cons rfl (.cons rfl (.cons rfl (.cons rfl (.cons rfl (.cons rfl (.cons rfl .nil))))))) ?_
    refine ends_then ?_
    refine cw_block ?_
    -- LOOP at region 5: changed live slots [11, 12, 13], kept [1, 2, 3, 4]
    refine cw_loop3 [(1, .eq _), (2, .eq _), (3, .eq _), (4, .eq _)] (fun (a b m : Int) => [(11, .eq (.int .i64 b)), (12, .eq (.int .i64 m)), (13, .eq (.int .i64 a))]) (fun a b m w' => (c.First.getD (v : Int).toNat 0 ≤ a ∧ a ≤ c.First.getD ((v : Int) + 1).toNat 0 ∧ LeastTo c res l v a b m) ∧ St w.heap.size w w' [bx b4 (csV c q).cells.toList 29, sl (eInt .i64) 1 A1 res.length c1 res, sl (eInt .i64) 1 A l.length cc l, sl (eInt .i64) 1 q.a0 c.First.length q.c0 c.First, sl (eInt .i64) 1 q.a1 c.Head.length q.c1 c.Head, sl (eInt .i64) 1 q.a2 c.Rev.length q.c2 c.Rev, sl (eInt .i64) 1 q.a3 c.Cap.length q.c3 c.Cap, sl (eInt .i64) 1 q.a4 c.Arc.length q.c4 c.Arc, sl eBool 1 q.a5 c.Back.length q.c5 c.Back]) (fun a _ _ => (c.First.getD ((v : Int) + 1).toNat 0 - a).toNat) (c.First.getD (v : Int).toNat 0) 0 (c.N + 1) (.cons rfl (.cons rfl (.cons rfl (.cons rfl .nil)))) (.cons rfl (.cons rfl (.cons rfl (.cons rfl (.cons rfl (.cons rfl (.cons rfl .nil))))))) ⟨⟨Int.le_refl _, hf1, .inl ⟨rfl, rfl, fun x hx ho => by have := ho.1; omega⟩⟩, hS⟩ ?_
    clear hS
    rintro a b m wr ⟨⟨ha0, ha1, hlt0⟩, hS⟩
    refine cw_seq ?_
    refine cw_seq ?_
    -- region 5
    refine cw_region ?_
    refine lw_v rfl rfl (ok_move rfl (.n rfl) rfl) ?_
    refine lw_v rfl rfl (ok_fb rfl (.n rfl) Try.underlying29 rfl Try.sizeOf26 (by decide) rfl) ?_
    refine lw_v rfl rfl (ok_ldb rfl (.n rfl) rfl Try.isAgg26 hS (by rfl)) ?_
    refine lw_v rfl rfl (ok_move rfl (.n rfl) rfl) ?_
    refine lw_v rfl rfl (ok_addi rfl (.n rfl) rfl rfl (fun _ => ⟨by omega, by omega⟩)) ?_
    refine lw_v rfl rfl (ok_ix rfl (.n rfl) Try.underlying26 Try.sizeOf3 rfl rfl hS (fun _ => ⟨by omega, by omega⟩)) ?_
    refine lw_v rfl rfl (ok_ldx rfl (.n rfl) rfl Try.isAgg3 hS (fun _ => ⟨by omega, by omega⟩) (by rfl)) ?_
    refine lw_v rfl rfl (ok_lss rfl (.n rfl) rfl rfl) ?_
    refine lw_nil ?_
    refine Ends.keep [(1, .eq _), (2, .eq _), (3, .eq _), (4, .eq _), (11, .eq _), (12, .eq _), (13, .eq _), (45, .eq _)] (.cons rfl (.cons rfl (.cons rfl (.cons rfl (.cons rfl (.cons rfl (.cons rfl (.cons rfl .nil)))))))) ?_
    refine ends_then ?_
    refine cw_cond rfl (fun h45 => ?_) (fun h45 => ?_)
    ·
      have hlt := of_decide_eq_true h45
      obtain ⟨⟨hd0, hd1⟩, he0, he1⟩ := end_rng hwf hrh (a := a) (by omega) (by omega)
      have eE : l.getD (c.Head.getD a.toNat 0).toNat 0 = endH c l a := rfl
      rw [← eE] at he0 he1
      refine cw_skip ?_
      refine ends_then ?_
      refine cw_seq ?_
      refine cw_block ?_
      refine cw_seq ?_
      -- region 7
      refine cw_region ?_
      refine lw_v rfl rfl (ok_move rfl (.n rfl) rfl) ?_
      refine lw_v rfl rfl (ok_fb rfl (.n rfl) Try.underlying29 rfl Try.sizeOf26 (by decide) rfl) ?_
      refine lw_v rfl rfl (ok_ldb rfl (.n rfl) rfl Try.isAgg26 hS (by rfl)) ?_
      refine lw_v rfl rfl (ok_move rfl (.n rfl) rfl) ?_
      refine lw_v rfl rfl (ok_ix rfl (.n rfl) Try.underlying26 Try.sizeOf3 rfl rfl hS (fun _ => ⟨by omega, by omega⟩)) ?_
      refine lw_v rfl rfl (ok_ldx rfl (.n rfl) rfl Try.isAgg3 hS (fun _ => ⟨by omega, by omega⟩) (by rfl)) ?_
      refine lw_v rfl rfl (ok_ix rfl (.n rfl) Try.underlying26 Try.sizeOf3 rfl rfl hS (fun _ => ⟨by omega, by omega⟩)) ?_
      refine lw_v rfl rfl (ok_ldx rfl (.n rfl) rfl Try.isAgg3 hS (fun _ => ⟨by omega, by omega⟩) (by rfl)) ?_
      refine lw_v rfl rfl (ok_assign rfl (.n rfl) rfl) ?_
      refine lw_nil ?_
      refine Ends.keep [(1, .eq _), (2, .eq _), (3, .eq _), (4, .eq _), (11, .eq _), (12, .eq _), (13, .eq _), (14, .eq _)] (.cons rfl (.cons rfl (.cons rfl (.cons rfl (.cons rfl (.cons rfl (.cons rfl (.cons rfl .nil)))))))) ?_
      refine ends_then ?_
      refine cw_seq ?_
      -- region 8
      refine cw_region ?_
      refine lw_v rfl rfl (ok_move rfl (.n rfl) rfl) ?_
      refine lw_v rfl rfl (ok_move rfl (.n rfl) rfl) ?_
      refine lw_v rfl rfl (ok_ix rfl (.n rfl) Try.underlying25 Try.sizeOf2 rfl rfl hS (fun _ => ⟨by omega, by omega⟩)) ?_
      refine lw_v rfl rfl (ok_ldx rfl (.n rfl) rfl Try.isAgg2 hS (fun _ => ⟨by omega, by omega⟩) (by rfl)) ?_
      refine lw_v rfl rfl (ok_gtr rfl (.n rfl) rfl rfl) ?_
      refine lw_v rfl rfl (ok_move rfl (.n rfl) rfl) ?_
      refine lw_v rfl rfl (ok_move rfl (.s rfl rfl) rfl) ?_
      refine lw_v rfl rfl (ok_move rfl (.s rfl rfl) rfl) ?_
      refine lw_v rfl rfl (ok_lss rfl (.s rfl rfl) rfl rfl) ?_
      refine lw_v rfl rfl (ok_and rfl rfl rfl rfl) ?_
      refine lw_nil ?_
      refine Ends.keep [(1, .eq _), (2, .eq _), (3, .eq _), (4, .eq _), (11, .eq _), (12, .eq _), (13, .eq _), (14, .eq _), (65, .eq _)] (.cons rfl (.cons rfl (.cons rfl (.cons rfl (.cons rfl (.cons rfl (.cons rfl (.cons rfl (.cons rfl .nil))))))))) ?_
      refine ends_then ?_
      refine cw_cond rfl (fun h65 => ?_) (fun h65 => ?_)
      ·
        -- region 9
        refine cw_region ?_
        refine lw_v rfl rfl (ok_move rfl (.n rfl) rfl) ?_
        refine lw_v rfl rfl (ok_move rfl (.n rfl) rfl) ?_
        refine lw_v rfl rfl (ok_assign rfl (.n rfl) rfl) ?_
        refine lw_v rfl rfl (ok_assign rfl (.n rfl) rfl) ?_
        refine lw_nil ?_
        refine in_normal (?_)
        refine Ends.keep [(1, .eq _), (2, .eq _), (3, .eq _), (4, .eq _), (11, .eq _), (12, .eq _), (13, .eq _)] (.cons rfl (.cons rfl (.cons rfl (.cons rfl (.cons rfl (.cons rfl (.cons rfl .nil))))))) ?_
        refine ends_then ?_
        -- region 6
        refine cw_region ?_
        refine lw_v rfl rfl (ok_move rfl (.n rfl) rfl) ?_
        refine lw_v rfl rfl (ok_addi rfl (.n rfl) rfl rfl (fun _ => ⟨by omega, by omega⟩)) ?_
        refine lw_v rfl rfl (ok_assign rfl (.n rfl) rfl) ?_
        refine lw_nil ?_
        -- BACK
        refine ends_back3 (a + 1) _ _ (.cons rfl (.cons rfl (.cons rfl (.cons rfl (.cons rfl (.cons rfl (.cons rfl .nil))))))) ⟨⟨by omega, by omega, ?_⟩, hS⟩ (by omega)
        obtain ⟨h65a, h65b⟩ := and_of h65
        exact least_take hlt0 ⟨ha0, hlt, h65a⟩ h65b he1
      ·
        refine cw_skip ?_
        refine in_normal (?_)
        refine ends_then ?_
        -- region 6
        refine cw_region ?_
        refine lw_v rfl rfl (ok_move rfl (.n rfl) rfl) ?_
        refine lw_v rfl rfl (ok_addi rfl (.n rfl) rfl rfl (fun _ => ⟨by omega, by omega⟩)) ?_
        refine lw_v rfl rfl (ok_assign rfl (.n rfl) rfl) ?_
        refine lw_nil ?_
        -- BACK
        refine ends_back3 (a + 1) b m (.cons rfl (.cons rfl (.cons rfl (.cons rfl (.cons rfl (.cons rfl (.cons rfl .nil))))))) ⟨⟨by omega, by omega, ?_⟩, hS⟩ (by omega)
        exact least_pass hlt0 (fun ho => nand_of h65 ⟨ho.1.2.2, ho.2⟩) he1
    ·
      have hae : a = c.First.getD ((v : Int) + 1).toNat 0 := by have := of_decide_eq_false h45; omega
      refine cw_exit ?_
      refine then_exit (then_exit (in_exit (?_)))
      refine Ends.keep [(4, .eq _), (11, .eq _), (12, .eq _)] (.cons rfl (.cons rfl (.cons rfl .nil))) ?_
      refine ends_then ?_
      refine cw_seq ?_
      refine cw_seq ?_
      -- region 10
      refine cw_region ?_
      refine lw_v rfl rfl (ok_move rfl (.n rfl) rfl) ?_
      refine lw_v rfl rfl (ok_fb rfl (.n rfl) Try.underlying29 rfl Try.sizeOf3 (by decide) rfl) ?_
      refine lw_v rfl rfl (ok_ldb rfl (.n rfl) rfl Try.isAgg3 hS (by rfl)) ?_
      refine lw_v rfl rfl (ok_gtr rfl (.n rfl) rfl rfl) ?_
      refine lw_nil ?_
      refine Ends.keep [(11, .eq _), (12, .eq _), (71, .eq _)] (.cons rfl (.cons rfl (.cons rfl .nil))) ?_
      refine ends_then ?_
      refine cw_cond rfl (fun h71 => ?_) (fun h71 => ?_)
      ·
        have h71' := of_decide_eq_true h71
        refine cw_seq ?_
        -- region 11
        refine cw_region ?_
        refine lw_v rfl rfl (ok_assign rfl (.n rfl) rfl) ?_
        refine lw_v rfl rfl (ok_assign rfl (.n rfl) rfl) ?_
        refine lw_v rfl rfl (ok_assign rfl (.n rfl) rfl) ?_
        refine lw_nil ?_
        refine Ends.keep [(8, .eq _), (9, .eq _), (10, .eq _)] (.cons rfl (.cons rfl (.cons rfl .nil))) ?_
        refine ends_then ?_
        refine cw_ret ?_
        refine then_ret (?_)
        exact end_ret (res3 Try.results26 rfl rfl rfl) ⟨_, _, _, rfl, hS.below, least_none hlt0 hm hae h71'⟩
      ·
        have h71' := of_decide_eq_false h71
        refine cw_skip ?_
        refine ends_then ?_
        refine cw_seq ?_
        -- region 12
        refine cw_region ?_
        refine lw_v rfl rfl (ok_move rfl (.n rfl) rfl) ?_
        refine lw_v rfl rfl (ok_move rfl (.n rfl) rfl) ?_
        refine lw_v rfl rfl (ok_assign rfl (.n rfl) rfl) ?_
        refine lw_v rfl rfl (ok_assign rfl (.n rfl) rfl) ?_
        refine lw_v rfl rfl (ok_assign rfl (.n rfl) rfl) ?_
        refine lw_nil ?_
        refine Ends.keep [(8, .eq _), (9, .eq _), (10, .eq _)] (.cons rfl (.cons rfl (.cons rfl .nil))) ?_
        refine ends_then ?_
        refine cw_ret ?_
        exact end_ret (res3 Try.results26 rfl rfl rfl) ⟨_, _, _, rfl, hS.below, least_some hlt0 hm huN hae (by omega)⟩

set_option maxRecDepth 10000 in
/-- acequiaref06.Right. -/
theorem f29 (c : Cs) (q : Q6) (l : List Int) (A : Option Addr) (cc : Nat) (w : World) (hwf : WF c) (hl : (sl (eInt .i64) 1 A l.length cc l).p w) :
    Calls Try.prog 29 #[csV c q, .slice A l.length cc] w fun e w' => e = .returned (.bool (rightB c l)) ∧ Gr w w' := by
  refine calls_cw Try.func29 rfl Try.ntmps29 rfl ?_
  have hS := (St.start w).args (Nat.le_refl _) _ hl rfl
  have hll := hl.2.1
  have hlo := hwf.lo
  have hN := hwf.hi
  have hs := hwf.s
  have ht := hwf.t
  refine cw_seq ?_
  -- region 0
  refine cw_region ?_
  refine lw_box rfl rfl rfl rfl hS ?_
  clear hS; intro b2 w1 _ _ hS
  refine lw_v rfl rfl (ok_assign rfl (.n rfl) rfl) ?_
  refine lw_nil ?_
  refine Ends.keep [(1, .eq _), (2, .eq _)] (.cons rfl (.cons rfl .nil)) ?_
  refine ends_then ?_
  refine cw_seq ?_
  refine cw_seq ?_
  -- region 1
  refine cw_region ?_
  refine lw_v rfl rfl (ok_move rfl (.n rfl) rfl) ?_
  refine lw_v rfl rfl (ok_len rfl (.n rfl) Try.underlying26 rfl) ?_
  refine lw_v rfl rfl (ok_fb rfl (.n rfl) Try.underlying29 rfl Try.sizeOf3 (by decide) rfl) ?_
  refine lw_v rfl rfl (ok_ldb rfl (.n rfl) rfl Try.isAgg3 hS (by rfl)) ?_
  refine lw_v rfl rfl (ok_neq rfl (.n rfl) rfl rfl) ?_
  refine lw_v rfl rfl (ok_move rfl (.n rfl) rfl) ?_
  refine lw_v rfl rfl (ok_fb rfl (.s rfl rfl) Try.underlying29 rfl Try.sizeOf3 (by decide) rfl) ?_
  refine lw_v rfl rfl (ok_ldb rfl (.s rfl rfl) rfl Try.isAgg3 hS (by rfl)) ?_
  refine lw_v rfl rfl (ok_eql rfl (.s rfl rfl) rfl rfl) ?_
  refine lw_v rfl rfl (ok_or rfl rfl rfl rfl) ?_
  refine lw_nil ?_
  refine Ends.keep [(1, .eq _), (2, .eq _), (15, .eq _)] (.cons rfl (.cons rfl (.cons rfl .nil))) ?_
  refine ends_then ?_
  refine cw_cond rfl (fun h15 => ?_) (fun h15 => ?_)
  ·
    have hno : ¬ (l.length : Int) = c.N := fun h => by rw [decide_eq_true h, decide_eq_false (by omega : ¬ (c.N : Int) = 0)] at h15; cases h15
    refine cw_seq ?_
    -- region 2
    refine cw_region ?_
    refine lw_v rfl rfl (ok_assign rfl (.n rfl) rfl) ?_
    refine lw_nil ?_
    refine Ends.keep [(4, .eq _)] (.cons rfl .nil) ?_
    refine ends_then ?_
    refine cw_ret ?_
    refine then_ret (?_)
    exact end_ret (res1 Try.results29 rfl) ⟨by rw [right_no_len hno], hS.below⟩
  ·
    have hlN : (l.length : Int) = c.N := by rw [Bool.or_eq_false_iff] at h15; simpa using h15.1
    refine cw_skip ?_
    refine ends_then ?_
    refine cw_seq ?_
    refine cw_seq ?_
    -- region 3
    refine cw_region ?_
    refine lw_v rfl rfl (ok_assign rfl (.n rfl) rfl) ?_
    refine lw_nil ?_
    refine Ends.keep [(1, .eq _), (2, .eq _), (5, .eq _)] (.cons rfl (.cons rfl (.cons rfl .nil))) ?_
    refine ends_then ?_
    refine cw_block ?_
    -- LOOP at region 4: changed live slots [5], kept [1, 2]
    refine cw_loop [(1, .eq _), (2, .eq _)] (fun k : Nat => [(5, .eq (.int .i64 k))]) (fun k w' => (k ≤ c.N ∧ ∀ i, i < k → wrongB c.N (l.getD i 0) = false) ∧ St w.heap.size w w' [bx b2 (csV c q).cells.toList 29, sl (eInt .i64) 1 A l.length cc l]) (fun k => c.N - k) 0 (.cons rfl (.cons rfl .nil)) (.cons rfl (.cons rfl (.cons rfl .nil))) ⟨⟨Nat.zero_le _, fun i h => absurd h (Nat.not_lt_zero i)⟩, hS⟩ ?_
    clear hS
    rintro k wr ⟨⟨hk, hp⟩, hS⟩
    refine cw_seq ?_
    refine cw_seq ?_
    -- region 4
    refine cw_region ?_
    refine lw_v rfl rfl (ok_move rfl (.n rfl) rfl) ?_
    refine lw_v rfl rfl (ok_fb rfl (.n rfl) Try.underlying29 rfl Try.sizeOf3 (by decide) rfl) ?_
    refine lw_v rfl rfl (ok_ldb rfl (.n rfl) rfl Try.isAgg3 hS (by rfl)) ?_
    refine lw_v rfl rfl (ok_lss rfl (.n rfl) rfl rfl) ?_
    refine lw_nil ?_
    refine Ends.keep [(1, .eq _), (2, .eq _), (5, .eq _), (19, .eq _)] (.cons rfl (.cons rfl (.cons rfl (.cons rfl .nil)))) ?_
    refine ends_then ?_
    refine cw_cond rfl (fun h19 => ?_) (fun h19 => ?_)
    ·
      have hlt := of_decide_eq_true h19
      refine cw_skip ?_
      refine ends_then ?_
      refine cw_seq ?_
      refine cw_block ?_
      refine cw_seq ?_
      -- region 6
      refine cw_draw (by kernel_rfl) (List.take 12 _) (List.drop 12 _) (List.take_append_drop 12 _).symm (by kernel_rfl) ?_
      refine free_v (ok_move rfl (.n rfl) rfl) ?_
      refine free_v (ok_move rfl (.n rfl) rfl) ?_
      refine free_v (ok_ix rfl (.n rfl) Try.underlying26 Try.sizeOf3 rfl rfl hS (fun _ => ⟨by omega, by omega⟩)) ?_
      refine free_v (ok_ldx rfl (.n rfl) rfl Try.isAgg3 hS (fun _ => ⟨by omega, by omega⟩) (by rfl)) ?_
      refine free_v (ok_lss rfl (.n rfl) rfl rfl) ?_
      refine free_v (ok_move rfl (.n rfl) rfl) ?_
      refine free_v (ok_move rfl (.s rfl rfl) rfl) ?_
      refine free_v (ok_move rfl (.s rfl rfl) rfl) ?_
      refine free_v (ok_ix rfl (.s rfl rfl) Try.underlying26 Try.sizeOf3 rfl rfl hS (fun _ => ⟨by omega, by omega⟩)) ?_
      refine free_v (ok_ldx rfl (.s rfl rfl) rfl Try.isAgg3 hS (fun _ => ⟨by omega, by omega⟩) (by rfl)) ?_
      refine free_v (ok_fb rfl (.s rfl rfl) Try.underlying29 rfl Try.sizeOf3 (by decide) rfl) ?_
      refine free_v (ok_ldb rfl (.s rfl rfl) rfl Try.isAgg3 hS (by rfl)) ?_
      refine free_nil ?_
      intro w2 hg_; replace hS := hS.grow hg_; clear hg_
      refine lw_v rfl rfl (ok_gtr rfl (.s rfl rfl) rfl rfl) ?_
      refine lw_v rfl rfl (ok_or rfl rfl rfl rfl) ?_
      refine lw_nil ?_
      refine Ends.keep [(1, .eq _), (2, .eq _), (5, .eq _), (35, .eq _)] (.cons rfl (.cons rfl (.cons rfl (.cons rfl .nil)))) ?_
      refine ends_then ?_
      refine cw_cond rfl (fun h35 => ?_) (fun h35 => ?_)
      ·
        refine cw_seq ?_
        -- region 7
        refine cw_region ?_
        refine lw_v rfl rfl (ok_assign rfl (.n rfl) rfl) ?_
        refine lw_nil ?_
        refine Ends.keep [(4, .eq _)] (.cons rfl .nil) ?_
        refine ends_then ?_
        refine cw_ret ?_
        refine in_ret (then_ret (then_ret (in_ret (then_ret (?_)))))
        exact end_ret (res1 Try.results29 rfl) ⟨by rw [right_no_any (any_yes (k := k) (by omega) h35)], hS.below⟩
      ·
        refine cw_skip ?_
        refine in_normal (?_)
        refine ends_then ?_
        -- region 5
        refine cw_region ?_
        refine lw_v rfl rfl (ok_move rfl (.n rfl) rfl) ?_
        refine lw_v rfl rfl (ok_addi rfl (.n rfl) rfl rfl (fun _ => ⟨by omega, by omega⟩)) ?_
        refine lw_v rfl rfl (ok_assign rfl (.n rfl) rfl) ?_
        refine lw_nil ?_
        -- BACK
        refine ends_back (k + 1) (.cons rfl (.cons rfl (.cons rfl .nil))) ⟨⟨by omega, fun i hi => ?_⟩, hS⟩ (by omega)
        rcases Nat.lt_or_ge i k with h | h
        · exact hp i h
        · have : i = k := by omega
          subst this; exact h35
    ·
      have hkn : k = l.length := by have := of_decide_eq_false h19; omega
      refine cw_exit ?_
      refine then_exit (then_exit (in_exit (?_)))
      refine Ends.keep [(1, .eq _), (2, .eq _)] (.cons rfl (.cons rfl .nil)) ?_
      refine ends_then ?_
      refine cw_seq ?_
      -- region 8
      refine cw_draw (by kernel_rfl) (List.take 14 _) (List.drop 14 _) (List.take_append_drop 14 _).symm (by kernel_rfl) ?_
      refine free_v (ok_move rfl (.n rfl) rfl) ?_
      refine free_v (ok_fb rfl (.n rfl) Try.underlying29 rfl Try.sizeOf3 (by decide) rfl) ?_
      refine free_v (ok_ldb rfl (.n rfl) rfl Try.isAgg3 hS (by rfl)) ?_
      refine free_v (ok_ix rfl (.n rfl) Try.underlying26 Try.sizeOf3 rfl rfl hS (fun _ => ⟨by omega, by omega⟩)) ?_
      refine free_v (ok_ldx rfl (.n rfl) rfl Try.isAgg3 hS (fun _ => ⟨by omega, by omega⟩) (by rfl)) ?_
      refine free_v (ok_eql rfl (.n rfl) rfl rfl) ?_
      refine free_v (ok_move rfl (.n rfl) rfl) ?_
      refine free_v (ok_move rfl (.s rfl rfl) rfl) ?_
      refine free_v (ok_fb rfl (.s rfl rfl) Try.underlying29 rfl Try.sizeOf3 (by decide) rfl) ?_
      refine free_v (ok_ldb rfl (.s rfl rfl) rfl Try.isAgg3 hS (by rfl)) ?_
      refine free_v (ok_ix rfl (.s rfl rfl) Try.underlying26 Try.sizeOf3 rfl rfl hS (fun _ => ⟨by omega, by omega⟩)) ?_
      refine free_v (ok_ldx rfl (.s rfl rfl) rfl Try.isAgg3 hS (fun _ => ⟨by omega, by omega⟩) (by rfl)) ?_
      refine free_v (ok_fb rfl (.s rfl rfl) Try.underlying29 rfl Try.sizeOf3 (by decide) rfl) ?_
      refine free_v (ok_ldb rfl (.s rfl rfl) rfl Try.isAgg3 hS (by rfl)) ?_
      refine free_nil ?_
      intro w3 hg_; replace hS := hS.grow hg_; clear hg_
      refine lw_v rfl rfl (ok_eql rfl (.s rfl rfl) rfl rfl) ?_
      refine lw_v rfl rfl (ok_and rfl rfl rfl rfl) ?_
      refine lw_v rfl rfl (ok_assign rfl (.n rfl) rfl) ?_
      refine lw_nil ?_
      refine Ends.keep [(4, .eq _)] (.cons rfl .nil) ?_
      refine ends_then ?_
      refine cw_ret ?_
      exact end_ret (res1 Try.results29 rfl) ⟨by rw [right_end hlN (by omega) (any_no (by rw [← hkn]; exact hp))]; rfl, hS.below⟩

def fi (c : Cs) : Nat → Nat
  | 0 => 0
  | u + 1 => (c.First.getD (u + 1) 0).toNat
theorem fi_eq {c : Cs} (h : WF c) : ∀ u, fi c u = (c.First.getD u 0).toNat
  | 0 => by rw [h.f0]; rfl
  | u + 1 => rfl
theorem may_no {c : Cs} {res l : List Int} (h : (!decide ((res.length : Int) = c.Head.length) || !rightB c l) = true) : mayB c res l = false := by
  unfold mayB
  rw [← Bool.not_and, Bool.not_eq_true'] at h
  exact h
theorem may_yes {c : Cs} {res l : List Int} (h : (!decide ((res.length : Int) = c.Head.length) || !rightB c l) = false) : mayB c res l = true := by
  unfold mayB
  rw [← Bool.not_and, Bool.not_eq_false'] at h
  exact h
set_option maxRecDepth 10000 in
/-- acequiaref06.by. -/
theorem f75 (c : Cs) (q : Q6) (res l : List Int) (lo hi : Int) (A1 : Option Addr) (c1 : Nat) (A : Option Addr) (cc : Nat) (w : World) (hwf : WF c) (hc : CsAt c q w) (hr : (sl (eInt .i64) 1 A1 res.length c1 res).p w) (hl : (sl (eInt .i64) 1 A l.length cc l).p w) :
    Calls Try.prog 75 #[csV c q, .slice A1 res.length c1, .slice A l.length cc, .int .i64 lo, .int .i64 hi] w fun e w' => ∃ A' c', e = .returned (.slice A' (byL c res l lo hi).length c') ∧ Gr w w' ∧ (∀ b, (own (eInt .i64) 1 3 A' (byL c res l lo hi).length c' (byL c res l lo hi)).fp b → w.heap.size ≤ b) ∧ (own (eInt .i64) 1 3 A' (byL c res l lo hi).length c' (byL c res l lo hi)).p w' := by
  refine calls_cw Try.func75 rfl Try.ntmps75 rfl ?_
  have hS := ((St.ofc hc).args (Nat.le_refl _) _ hl rfl).args (Nat.le_refl _) _ hr rfl
  have hll := hl.2.1
  have hrr := hr.2.1
  refine cw_seq ?_
  -- region 0
  refine cw_region ?_
  refine lw_box rfl rfl rfl rfl hS ?_
  clear hS; intro b5 w1 _ _ hS
  refine lw_v rfl rfl (ok_assign rfl (.n rfl) rfl) ?_
  refine lw_nil ?_
  refine Ends.keep [(1, .eq _), (2, .eq _), (3, .eq _), (4, .eq _), (5, .eq _)] (.cons rfl (.cons rfl (.cons rfl (.cons rfl (.cons rfl .nil))))) ?_
  refine ends_then ?_
  refine cw_seq ?_
  refine cw_seq ?_
  -- region 1
  refine cw_region ?_
  refine lw_v rfl rfl (ok_move rfl (.n rfl) rfl) ?_
  refine lw_v rfl rfl (ok_len rfl (.n rfl) Try.underlying25 rfl) ?_
  refine lw_v rfl rfl (ok_fb rfl (.n rfl) Try.underlying29 rfl Try.sizeOf26 (by decide) rfl) ?_
  refine lw_v rfl rfl (ok_ldb rfl (.n rfl) rfl Try.isAgg26 hS (by rfl)) ?_
  refine lw_v rfl rfl (ok_len rfl (.n rfl) Try.underlying26 rfl) ?_
  refine lw_v rfl rfl (ok_neq rfl (.n rfl) rfl rfl) ?_
  refine lw_v rfl rfl (ok_move rfl (.n rfl) rfl) ?_
  refine lw_v rfl rfl (ok_ldS rfl (.s rfl rfl) rfl Try.isAgg29 Try.sizeOf29 hS rfl) ?_
  refine lw_v rfl rfl (ok_move rfl (.s rfl rfl) rfl) ?_
  refine lw_o rfl rfl (ok_callg (.bool (rightB c l)) rfl (.s rfl rfl) Try.call29 rfl rfl (fun _ w' hg => f29 c q l A cc w' hwf ((hS.grow hg).rd A hll))) ?_
  intro w2 hg_; replace hS := hS.grow hg_; clear hg_
  refine lw_v rfl rfl (ok_not rfl (.s rfl rfl) rfl) ?_
  refine lw_v rfl rfl (ok_or rfl rfl rfl rfl) ?_
  refine lw_nil ?_
  refine Ends.keep [(1, .eq _), (2, .eq _), (3, .eq _), (4, .eq _), (5, .eq _), (26, .eq _)] (.cons rfl (.cons rfl (.cons rfl (.cons rfl (.cons rfl (.cons rfl .nil)))))) ?_
  refine ends_then ?_
  refine cw_cond rfl (fun h26 => ?_) (fun h26 => ?_)
  ·
    have hm : mayB c res l = false := may_no h26
    have e : [] = byL c res l lo hi := by unfold byL; rw [if_neg (by rw [hm]; decide)]
    replace hS := hS.nil (eInt .i64) 1 3
    refine cw_seq ?_
    -- region 2
    refine cw_region ?_
    refine lw_v rfl rfl (ok_assign rfl (.n rfl) rfl) ?_
    refine lw_nil ?_
    refine Ends.keep [(10, .eq _)] (.cons rfl .nil) ?_
    refine ends_then ?_
    refine cw_ret ?_
    refine then_ret (?_)
    exact end_ret (res1 Try.results75 rfl) ⟨none, 0, by rw [← e]; rfl, hS.below, by rw [← e]; exact fun b hb => hS.ge _ (.head _) rfl b hb, by rw [← e]; exact hS.ok _ (.head _)⟩
  ·
    have hm : mayB c res l = true := may_yes h26
    obtain ⟨hrl, hrh⟩ := (may_iff hwf).1 hm
    have hM := hwf.m
    have hN := hwf.hi
    have hfl := hwf.fl
    have hlen := hrh.len
    refine cw_skip ?_
    refine ends_then ?_
    refine cw_seq ?_
    -- region 3
    refine cw_region ?_
    refine lw_v rfl rfl (ok_assign rfl (.n rfl) rfl) ?_
    refine lw_nil ?_
    refine Ends.keep [(1, .eq _), (2, .eq _), (3, .eq _), (4, .eq _), (5, .eq _), (11, .eq _)] (.cons rfl (.cons rfl (.cons rfl (.cons rfl (.cons rfl (.cons rfl .nil)))))) ?_
    refine ends_then ?_
    refine cw_seq ?_
    refine cw_seq ?_
    -- region 4
    refine cw_region ?_
    refine lw_v rfl rfl (ok_assign rfl (.n rfl) rfl) ?_
    refine lw_nil ?_
    refine Ends.keep [(1, .eq _), (2, .eq _), (3, .eq _), (4, .eq _), (5, .eq _), (11, .eq _), (12, .eq _)] (.cons rfl (.cons rfl (.cons rfl (.cons rfl (.cons rfl (.cons rfl (.cons rfl .nil))))))) ?_
    refine ends_then ?_
    refine cw_block ?_
    -- LOOP at region 5: changed live slots [11, 12], kept [1, 2, 3, 4, 5]
    refine cw_loop3 [(1, .eq _), (2, .eq _), (3, .eq _), (4, .eq _), (5, .eq _)] (fun (u : Nat) (A' : Option Addr) (c' : Nat) => [(11, .eq (.slice A' (filt (byP c res l lo hi) (fi c u)).length c')), (12, .eq (.int .i64 u))]) (fun u A' c' w' => u ≤ c.N ∧ St w.heap.size w w' [own (eInt .i64) 1 3 A' (filt (byP c res l lo hi) (fi c u)).length c' (filt (byP c res l lo hi) (fi c u)), bx b5 (csV c q).cells.toList 29, sl (eInt .i64) 1 A1 res.length c1 res, sl (eInt .i64) 1 A l.length cc l, sl (eInt .i64) 1 q.a0 c.First.length q.c0 c.First, sl (eInt .i64) 1 q.a1 c.Head.length q.c1 c.Head, sl (eInt .i64) 1 q.a2 c.Rev.length q.c2 c.Rev, sl (eInt .i64) 1 q.a3 c.Cap.length q.c3 c.Cap, sl (eInt .i64) 1 q.a4 c.Arc.length q.c4 c.Arc, sl eBool 1 q.a5 c.Back.length q.c5 c.Back]) (fun u _ _ => c.N - u) 0 none 0 (.cons rfl (.cons rfl (.cons rfl (.cons rfl (.cons rfl .nil))))) (.cons rfl (.cons rfl (.cons rfl (.cons rfl (.cons rfl (.cons rfl (.cons rfl .nil))))))) ⟨Nat.zero_le _, hS.nil (eInt .i64) 1 3⟩ ?_
    clear hS
    rintro u A' c' wr ⟨hu, hS⟩
    have hfi := fi_eq hwf u
    refine cw_seq ?_
    refine cw_seq ?_
    -- region 5
    refine cw_region ?_
    refine lw_v rfl rfl (ok_move rfl (.n rfl) rfl) ?_
    refine lw_v rfl rfl (ok_fb rfl (.n rfl) Try.underlying29 rfl Try.sizeOf3 (by decide) rfl) ?_
    refine lw_v rfl rfl (ok_ldb rfl (.n rfl) rfl Try.isAgg3 hS (by rfl)) ?_
    refine lw_v rfl rfl (ok_lss rfl (.n rfl) rfl rfl) ?_
    refine lw_nil ?_
    refine Ends.keep [(1, .eq _), (2, .eq _), (3, .eq _), (4, .eq _), (5, .eq _), (11, .eq _), (12, .eq _), (30, .eq _)] (.cons rfl (.cons rfl (.cons rfl (.cons rfl (.cons rfl (.cons rfl (.cons rfl (.cons rfl .nil)))))))) ?_
    refine ends_then ?_
    refine cw_cond rfl (fun h30 => ?_) (fun h30 => ?_)
    ·
      have hlt := of_decide_eq_true h30
      have huN : u < c.N := by omega
      obtain ⟨hf0, hf1, hf2⟩ := seg_rng hwf huN
      refine cw_skip ?_
      refine ends_then ?_
      refine cw_seq ?_
      refine cw_block ?_
      refine cw_seq ?_
      -- region 7
      refine cw_region ?_
      refine lw_v rfl rfl (ok_fb rfl (.n rfl) Try.underlying29 rfl Try.sizeOf26 (by decide) rfl) ?_
      refine lw_v rfl rfl (ok_ldb rfl (.n rfl) rfl Try.isAgg26 hS (by rfl)) ?_
      refine lw_v rfl rfl (ok_move rfl (.n rfl) rfl) ?_
      refine lw_v rfl rfl (ok_ix rfl (.n rfl) Try.underlying26 Try.sizeOf3 rfl rfl hS (fun _ => ⟨by omega, by omega⟩)) ?_
      refine lw_v rfl rfl (ok_eq (ok_ldx rfl (.n rfl) rfl Try.isAgg3 hS (fun _ => ⟨by omega, by omega⟩) (by rfl)) (c' := .int .i64 (((fi c u) : Nat) : Int)) (fun _ => congrArg (Value.int .i64) (by show c.First.getD u 0 = _; omega))) ?_
      refine lw_v rfl rfl (ok_assign rfl (.n rfl) rfl) ?_
      refine lw_nil ?_
      refine Ends.keep [(1, .eq _), (2, .eq _), (3, .eq _), (4, .eq _), (5, .eq _), (11, .eq _), (12, .eq _), (13, .eq _)] (.cons rfl (.cons rfl (.cons rfl (.cons rfl (.cons rfl (.cons rfl (.cons rfl (.cons rfl .nil)))))))) ?_
      refine ends_then ?_
      refine cw_block ?_
      -- LOOP at region 8: changed live slots [11, 13], kept [1, 2, 3, 4, 5, 12]
      refine cw_loop3 [(1, .eq _), (2, .eq _), (3, .eq _), (4, .eq _), (5, .eq _), (12, .eq _)] (fun (a : Nat) (A' : Option Addr) (c' : Nat) => [(11, .eq (.slice A' (filt (byP c res l lo hi) a).length c')), (13, .eq (.int .i64 a))]) (fun a A' c' w' => (c.First.getD u 0 ≤ a ∧ a ≤ c.First.getD (u + 1) 0) ∧ St w.heap.size w w' [own (eInt .i64) 1 3 A' (filt (byP c res l lo hi) a).length c' (filt (byP c res l lo hi) a), bx b5 (csV c q).cells.toList 29, sl (eInt .i64) 1 A1 res.length c1 res, sl (eInt .i64) 1 A l.length cc l, sl (eInt .i64) 1 q.a0 c.First.length q.c0 c.First, sl (eInt .i64) 1 q.a1 c.Head.length q.c1 c.Head, sl (eInt .i64) 1 q.a2 c.Rev.length q.c2 c.Rev, sl (eInt .i64) 1 q.a3 c.Cap.length q.c3 c.Cap, sl (eInt .i64) 1 q.a4 c.Arc.length q.c4 c.Arc, sl eBool 1 q.a5 c.Back.length q.c5 c.Back]) (fun a _ _ => (c.First.getD (u + 1) 0 - a).toNat) (fi c u) A' c' (.cons rfl (.cons rfl (.cons rfl (.cons rfl (.cons rfl (.cons rfl .nil)))))) (.cons rfl (.cons rfl (.cons rfl (.cons rfl (.cons rfl (.cons rfl (.cons rfl (.cons rfl .nil)))))))) ⟨⟨by omega, by omega⟩, hS⟩ ?_
      clear hS
      rintro a A' c' wr ⟨⟨ha0, ha1⟩, hS⟩
      have hfl' : (filt (byP c res l lo hi) a).length ≤ a := filt_len (byP c res l lo hi) a
      have hfs := filt_succ (byP c res l lo hi) a
      refine cw_seq ?_
      refine cw_seq ?_
      -- region 8
      refine cw_region ?_
      refine lw_v rfl rfl (ok_move rfl (.n rfl) rfl) ?_
      refine lw_v rfl rfl (ok_fb rfl (.n rfl) Try.underlying29 rfl Try.sizeOf26 (by decide) rfl) ?_
      refine lw_v rfl rfl (ok_ldb rfl (.n rfl) rfl Try.isAgg26 hS (by rfl)) ?_
      refine lw_v rfl rfl (ok_move rfl (.n rfl) rfl) ?_
      refine lw_v rfl rfl (ok_addi rfl (.n rfl) rfl rfl (fun _ => ⟨by omega, by omega⟩)) ?_
      refine lw_v rfl rfl (ok_ix rfl (.n rfl) Try.underlying26 Try.sizeOf3 rfl rfl hS (fun _ => ⟨by omega, by omega⟩)) ?_
      refine lw_v rfl rfl (ok_ldx rfl (.n rfl) rfl Try.isAgg3 hS (fun _ => ⟨by omega, by omega⟩) (by rfl)) ?_
      refine lw_v rfl rfl (ok_lss rfl (.n rfl) rfl rfl) ?_
      refine lw_nil ?_
      refine Ends.keep [(1, .eq _), (2, .eq _), (3, .eq _), (4, .eq _), (5, .eq _), (11, .eq _), (12, .eq _), (13, .eq _), (45, .eq _)] (.cons rfl (.cons rfl (.cons rfl (.cons rfl (.cons rfl (.cons rfl (.cons rfl (.cons rfl (.cons rfl .nil))))))))) ?_
      refine ends_then ?_
      refine cw_cond rfl (fun h45 => ?_) (fun h45 => ?_)
      ·
        have hla : (a : Int) < c.First.getD (u + 1) 0 := of_decide_eq_true h45
        obtain ⟨⟨hd0, hd1⟩, he0, he1⟩ := end_rng hwf hrh (a := a) (by omega) (by omega)
        have eE : l.getD (c.Head.getD (a : Int).toNat 0).toNat 0 = endH c l a := rfl
        rw [← eE] at he0 he1
        have hur := hrh.rng u huN
        have eU : l.getD (u : Int).toNat 0 = l.getD u 0 := rfl
        rw [← eU] at hur
        have htl := tail_eq hwf huN ha0 hla
        refine cw_skip ?_
        refine ends_then ?_
        refine cw_seq ?_
        refine cw_block ?_
        refine cw_seq ?_
        -- region 10
        refine cw_draw (by kernel_rfl) (List.take 12 _) (List.drop 12 _) (List.take_append_drop 12 _).symm (by kernel_rfl) ?_
        refine free_v (ok_move rfl (.n rfl) rfl) ?_
        refine free_v (ok_move rfl (.n rfl) rfl) ?_
        refine free_v (ok_ix rfl (.n rfl) Try.underlying26 Try.sizeOf3 rfl rfl hS (fun _ => ⟨by omega, by omega⟩)) ?_
        refine free_v (ok_ldx rfl (.n rfl) rfl Try.isAgg3 hS (fun _ => ⟨by omega, by omega⟩) (by rfl)) ?_
        refine free_v (ok_move rfl (.n rfl) rfl) ?_
        refine free_v (ok_fb rfl (.n rfl) Try.underlying29 rfl Try.sizeOf26 (by decide) rfl) ?_
        refine free_v (ok_ldb rfl (.n rfl) rfl Try.isAgg26 hS (by rfl)) ?_
        refine free_v (ok_move rfl (.n rfl) rfl) ?_
        refine free_v (ok_ix rfl (.n rfl) Try.underlying26 Try.sizeOf3 rfl rfl hS (fun _ => ⟨by omega, by omega⟩)) ?_
        refine free_v (ok_ldx rfl (.n rfl) rfl Try.isAgg3 hS (fun _ => ⟨by omega, by omega⟩) (by rfl)) ?_
        refine free_v (ok_ix rfl (.n rfl) Try.underlying26 Try.sizeOf3 rfl rfl hS (fun _ => ⟨by omega, by omega⟩)) ?_
        refine free_v (ok_ldx rfl (.n rfl) rfl Try.isAgg3 hS (fun _ => ⟨by omega, by omega⟩) (by rfl)) ?_
        refine free_nil ?_
        intro w3 hg_; replace hS := hS.grow hg_; clear hg_
        refine lw_v rfl rfl (ok_subi rfl (.n rfl) rfl rfl (fun _ => ⟨by omega, by omega⟩)) ?_
        refine lw_v rfl rfl (ok_assign rfl (.n rfl) rfl) ?_
        refine lw_nil ?_
        refine Ends.keep [(1, .eq _), (2, .eq _), (3, .eq _), (4, .eq _), (5, .eq _), (11, .eq _), (12, .eq _), (13, .eq _), (14, .eq _)] (.cons rfl (.cons rfl (.cons rfl (.cons rfl (.cons rfl (.cons rfl (.cons rfl (.cons rfl (.cons rfl .nil))))))))) ?_
        refine ends_then ?_
        refine cw_seq ?_
        -- region 11
        refine cw_region ?_
        refine lw_v rfl rfl (ok_move rfl (.n rfl) rfl) ?_
        refine lw_v rfl rfl (ok_fb rfl (.n rfl) Try.underlying29 rfl Try.sizeOf3 (by decide) rfl) ?_
        refine lw_v rfl rfl (ok_ldb rfl (.n rfl) rfl Try.isAgg3 hS (by rfl)) ?_
        refine lw_v rfl rfl (ok_neq rfl (.n rfl) rfl rfl) ?_
        refine lw_v rfl rfl (ok_move rfl (.n rfl) rfl) ?_
        refine lw_v rfl rfl (ok_move rfl (.s rfl rfl) rfl) ?_
        refine lw_v rfl rfl (ok_move rfl (.s rfl rfl) rfl) ?_
        refine lw_v rfl rfl (ok_ix rfl (.s rfl rfl) Try.underlying25 Try.sizeOf2 rfl rfl hS (fun _ => ⟨by omega, by omega⟩)) ?_
        refine lw_v rfl rfl (ok_ldx rfl (.s rfl rfl) rfl Try.isAgg2 hS (fun _ => ⟨by omega, by omega⟩) (by rfl)) ?_
        refine lw_v rfl rfl (ok_gtr rfl (.s rfl rfl) rfl rfl) ?_
        refine lw_v rfl rfl (ok_and rfl rfl rfl rfl) ?_
        refine lw_v rfl rfl (ok_move rfl (.n rfl) rfl) ?_
        refine lw_v rfl rfl (ok_move rfl (.s rfl rfl) rfl) ?_
        refine lw_v rfl rfl (ok_move rfl (.s rfl rfl) rfl) ?_
        refine lw_v rfl rfl (ok_geq rfl (.s rfl rfl) rfl rfl) ?_
        refine lw_v rfl rfl (ok_and rfl rfl rfl rfl) ?_
        refine lw_v rfl rfl (ok_move rfl (.n rfl) rfl) ?_
        refine lw_v rfl rfl (ok_move rfl (.s rfl rfl) rfl) ?_
        refine lw_v rfl rfl (ok_move rfl (.s rfl rfl) rfl) ?_
        refine lw_v rfl rfl (ok_leq rfl (.s rfl rfl) rfl rfl) ?_
        refine lw_v rfl rfl (ok_and rfl rfl rfl rfl) ?_
        refine lw_nil ?_
        refine Ends.keep [(1, .eq _), (2, .eq _), (3, .eq _), (4, .eq _), (5, .eq _), (11, .eq _), (12, .eq _), (13, .eq _), (81, .eq _)] (.cons rfl (.cons rfl (.cons rfl (.cons rfl (.cons rfl (.cons rfl (.cons rfl (.cons rfl (.cons rfl .nil))))))))) ?_
        refine ends_then ?_
        refine cw_cond rfl (fun h81 => ?_) (fun h81 => ?_)
        ·
          -- region 12
          refine cw_region ?_
          refine lw_v rfl rfl (ok_move rfl (.n rfl) rfl) ?_
          refine lw_v rfl rfl (ok_move rfl (.n rfl) rfl) ?_
          refine lw_ls (enc := (eInt .i64)) [(a : Int)] rfl rfl rfl Try.underlying26 Try.sizeOf3 Try.zeroValue3 rfl (by kernel_rfl) rfl (by decide) (by decide) hS ?_
          clear hS; intro A84 c84 w4 _ hS
          refine lw_append (enc := (eInt .i64)) rfl rfl rfl Try.underlying26 info3 rfl rfl rfl hS (by decide) (by omega) (by omega) ?_
          intro A85 c85 w5 hS1; replace hS := hS1 _ (Rep.r); clear hS1
          refine lw_v rfl rfl (ok_assign rfl (.n rfl) rfl) ?_
          refine lw_nil ?_
          refine in_normal (?_)
          refine Ends.keep [(1, .eq _), (2, .eq _), (3, .eq _), (4, .eq _), (5, .eq _), (11, .eq _), (12, .eq _), (13, .eq _)] (.cons rfl (.cons rfl (.cons rfl (.cons rfl (.cons rfl (.cons rfl (.cons rfl (.cons rfl .nil)))))))) ?_
          refine ends_then ?_
          -- region 9
          refine cw_region ?_
          refine lw_v rfl rfl (ok_move rfl (.n rfl) rfl) ?_
          refine lw_v rfl rfl (ok_addi rfl (.n rfl) rfl rfl (fun _ => ⟨by omega, by omega⟩)) ?_
          refine lw_v rfl rfl (ok_assign rfl (.n rfl) rfl) ?_
          refine lw_nil ?_
          -- BACK
          have hp : byP c res l lo hi a = true := by unfold byP; rw [htl]; exact h81
          rw [if_pos hp] at hfs
          change _ = filt _ _ ++ _ at hfs
          change filt _ _ = _ at hfs
          rw [← hfs] at hS ⊢
          exact ends_back3 (a + 1) A85 c85 (.cons rfl (.cons rfl (.cons rfl (.cons rfl (.cons rfl (.cons rfl (.cons rfl (.cons rfl .nil)))))))) ⟨⟨by omega, by omega⟩, hS.tail⟩ (by omega)
        ·
          refine cw_skip ?_
          refine in_normal (?_)
          refine ends_then ?_
          -- region 9
          refine cw_region ?_
          refine lw_v rfl rfl (ok_move rfl (.n rfl) rfl) ?_
          refine lw_v rfl rfl (ok_addi rfl (.n rfl) rfl rfl (fun _ => ⟨by omega, by omega⟩)) ?_
          refine lw_v rfl rfl (ok_assign rfl (.n rfl) rfl) ?_
          refine lw_nil ?_
          -- BACK
          have hp : byP c res l lo hi a = false := by unfold byP; rw [htl]; exact h81
          rw [if_neg (by rw [hp]; decide), List.append_nil] at hfs
          change filt _ _ = filt _ _ at hfs
          rw [← hfs] at hS ⊢
          exact ends_back3 (a + 1) A' c' (.cons rfl (.cons rfl (.cons rfl (.cons rfl (.cons rfl (.cons rfl (.cons rfl (.cons rfl .nil)))))))) ⟨⟨by omega, by omega⟩, hS⟩ (by omega)
      ·
        have hla : ¬ (a : Int) < c.First.getD (u + 1) 0 := of_decide_eq_false h45
        have hfe : fi c (u + 1) = (c.First.getD (u + 1) 0).toNat := rfl
        have hae : a = fi c (u + 1) := by omega
        refine cw_exit ?_
        refine then_exit (then_exit (in_exit (?_)))
        refine in_normal (?_)
        refine Ends.keep [(1, .eq _), (2, .eq _), (3, .eq _), (4, .eq _), (5, .eq _), (11, .eq _), (12, .eq _)] (.cons rfl (.cons rfl (.cons rfl (.cons rfl (.cons rfl (.cons rfl (.cons rfl .nil))))))) ?_
        refine ends_then ?_
        -- region 6
        refine cw_region ?_
        refine lw_v rfl rfl (ok_move rfl (.n rfl) rfl) ?_
        refine lw_v rfl rfl (ok_addi rfl (.n rfl) rfl rfl (fun _ => ⟨by omega, by omega⟩)) ?_
        refine lw_v rfl rfl (ok_assign rfl (.n rfl) rfl) ?_
        refine lw_nil ?_
        -- BACK
        rw [hae] at hS ⊢
        exact ends_back3 (u + 1) A' c' (.cons rfl (.cons rfl (.cons rfl (.cons rfl (.cons rfl (.cons rfl (.cons rfl .nil))))))) ⟨by omega, hS⟩ (by omega)
    ·
      have hkn : u = c.N := by have := of_decide_eq_false h30; omega
      subst hkn
      have e : (filt (byP c res l lo hi) (fi c c.N)) = byL c res l lo hi := by unfold byL; rw [if_pos hm, hfi, hwf.fN]; rfl
      refine cw_exit ?_
      refine then_exit (then_exit (in_exit (?_)))
      refine Ends.keep [(11, .eq _)] (.cons rfl .nil) ?_
      refine ends_then ?_
      refine cw_seq ?_
      -- region 13
      refine cw_region ?_
      refine lw_v rfl rfl (ok_move rfl (.n rfl) rfl) ?_
      refine lw_v rfl rfl (ok_assign rfl (.n rfl) rfl) ?_
      refine lw_nil ?_
      refine Ends.keep [(10, .eq _)] (.cons rfl .nil) ?_
      refine ends_then ?_
      refine cw_ret ?_
      rw [e] at hS ⊢
      exact end_ret (res1 Try.results75 rfl) ⟨A', c', rfl, hS.below, fun b hb => hS.ge _ (.head _) rfl b hb, hS.ok _ (.head _)⟩

set_option maxRecDepth 10000 in
/-- acequiaref06.Steep. -/
theorem f32 (c : Cs) (q : Q6) (res l : List Int) (A1 : Option Addr) (c1 : Nat) (A : Option Addr) (cc : Nat) (w : World) (hwf : WF c) (hc : CsAt c q w) (hr : (sl (eInt .i64) 1 A1 res.length c1 res).p w) (hl : (sl (eInt .i64) 1 A l.length cc l).p w) :
    Calls Try.prog 32 #[csV c q, .slice A1 res.length c1, .slice A l.length cc] w fun e w' => ∃ A' c', e = .returned (.slice A' (steepL c res l).length c') ∧ Gr w w' ∧ (∀ b, (own (eInt .i64) 1 3 A' (steepL c res l).length c' (steepL c res l)).fp b → w.heap.size ≤ b) ∧ (own (eInt .i64) 1 3 A' (steepL c res l).length c' (steepL c res l)).p w' := by
  refine calls_cw Try.func32 rfl Try.ntmps32 rfl ?_
  have hS := ((St.ofc hc).args (Nat.le_refl _) _ hl rfl).args (Nat.le_refl _) _ hr rfl
  have hll := hl.2.1
  have hrr := hr.2.1
  refine cw_seq ?_
  -- region 0
  refine cw_region ?_
  refine lw_box rfl rfl rfl rfl hS ?_
  clear hS; intro b3 w1 _ _ hS
  refine lw_v rfl rfl (ok_assign rfl (.n rfl) rfl) ?_
  refine lw_nil ?_
  refine Ends.keep [(1, .eq _), (2, .eq _), (3, .eq _)] (.cons rfl (.cons rfl (.cons rfl .nil))) ?_
  refine ends_then ?_
  refine cw_seq ?_
  -- region 1
  refine cw_region ?_
  refine lw_v rfl rfl (ok_ldS rfl (.n rfl) rfl Try.isAgg29 Try.sizeOf29 hS rfl) ?_
  refine lw_v rfl rfl (ok_move rfl (.n rfl) rfl) ?_
  refine lw_v rfl rfl (ok_move rfl (.n rfl) rfl) ?_
  refine lw_v rfl rfl (ok_fb rfl (.n rfl) Try.underlying29 rfl Try.sizeOf3 (by decide) rfl) ?_
  refine lw_v rfl rfl (ok_ldb rfl (.n rfl) rfl Try.isAgg3 hS (by rfl)) ?_
  refine lw_call (f := 75) (xs := [_, _, _, _, _]) rfl rfl rfl Try.call75 rfl (Calls.mono (f75 c q res l 2 c.N A1 c1 A cc _ hwf (hS.cs q) (hS.rd A1 hrr) (hS.rd A hll)) ?_)
  rintro e w' ⟨A', c', rfl, hg, hfr, ho⟩
  have hfr' := fun b hb => Nat.le_trans hS.base (hfr b hb)
  replace hS := hS.grow hg; clear hg
  refine ⟨_, rfl, ?_⟩
  refine lw_v rfl rfl (ok_assign rfl (.n rfl) rfl) ?_
  refine lw_nil ?_
  refine Ends.keep [(6, .eq _)] (.cons rfl .nil) ?_
  refine ends_then ?_
  refine cw_ret ?_
  have e : byL c res l 2 c.N = steepL c res l := by_down hwf fun k hk => by rw [Bool.eq_iff_iff, Bool.and_eq_true, decide_eq_true_eq, decide_eq_true_eq, decide_eq_true_eq]; omega
  rw [e] at hfr' ho ⊢
  exact end_ret (res1 Try.results32 rfl) ⟨A', c', rfl, hS.below, hfr', ho⟩

set_option maxRecDepth 10000 in
/-- acequiaref06.Flat. -/
theorem f34 (c : Cs) (q : Q6) (res l : List Int) (A1 : Option Addr) (c1 : Nat) (A : Option Addr) (cc : Nat) (w : World) (hwf : WF c) (hc : CsAt c q w) (hr : (sl (eInt .i64) 1 A1 res.length c1 res).p w) (hl : (sl (eInt .i64) 1 A l.length cc l).p w) :
    Calls Try.prog 34 #[csV c q, .slice A1 res.length c1, .slice A l.length cc] w fun e w' => ∃ A' c', e = .returned (.slice A' (flatL c res l).length c') ∧ Gr w w' ∧ (∀ b, (own (eInt .i64) 1 3 A' (flatL c res l).length c' (flatL c res l)).fp b → w.heap.size ≤ b) ∧ (own (eInt .i64) 1 3 A' (flatL c res l).length c' (flatL c res l)).p w' := by
  refine calls_cw Try.func34 rfl Try.ntmps34 rfl ?_
  have hS := ((St.ofc hc).args (Nat.le_refl _) _ hl rfl).args (Nat.le_refl _) _ hr rfl
  have hll := hl.2.1
  have hrr := hr.2.1
  refine cw_seq ?_
  -- region 0
  refine cw_region ?_
  refine lw_box rfl rfl rfl rfl hS ?_
  clear hS; intro b3 w1 _ _ hS
  refine lw_v rfl rfl (ok_assign rfl (.n rfl) rfl) ?_
  refine lw_nil ?_
  refine Ends.keep [(1, .eq _), (2, .eq _), (3, .eq _)] (.cons rfl (.cons rfl (.cons rfl .nil))) ?_
  refine ends_then ?_
  refine cw_seq ?_
  -- region 1
  refine cw_region ?_
  refine lw_v rfl rfl (ok_ldS rfl (.n rfl) rfl Try.isAgg29 Try.sizeOf29 hS rfl) ?_
  refine lw_v rfl rfl (ok_move rfl (.n rfl) rfl) ?_
  refine lw_v rfl rfl (ok_move rfl (.n rfl) rfl) ?_
  refine lw_call (f := 75) (xs := [_, _, _, _, _]) rfl rfl rfl Try.call75 rfl (Calls.mono (f75 c q res l 1 1 A1 c1 A cc _ hwf (hS.cs q) (hS.rd A1 hrr) (hS.rd A hll)) ?_)
  rintro e w' ⟨A', c', rfl, hg, hfr, ho⟩
  have hfr' := fun b hb => Nat.le_trans hS.base (hfr b hb)
  replace hS := hS.grow hg; clear hg
  refine ⟨_, rfl, ?_⟩
  refine lw_v rfl rfl (ok_assign rfl (.n rfl) rfl) ?_
  refine lw_nil ?_
  refine Ends.keep [(6, .eq _)] (.cons rfl .nil) ?_
  refine ends_then ?_
  refine cw_ret ?_
  have e : byL c res l 1 1 = flatL c res l := by_down hwf fun k hk => by rw [Bool.eq_iff_iff, Bool.and_eq_true, decide_eq_true_eq, decide_eq_true_eq, decide_eq_true_eq]; omega
  rw [e] at hfr' ho ⊢
  exact end_ret (res1 Try.results34 rfl) ⟨A', c', rfl, hS.below, hfr', ho⟩

set_option maxRecDepth 10000 in
/-- acequiaref06.Valid. -/
theorem f36 (c : Cs) (q : Q6) (res l : List Int) (A1 : Option Addr) (c1 : Nat) (A : Option Addr) (cc : Nat) (w : World) (hwf : WF c) (hc : CsAt c q w) (hr : (sl (eInt .i64) 1 A1 res.length c1 res).p w) (hl : (sl (eInt .i64) 1 A l.length cc l).p w) :
    Calls Try.prog 36 #[csV c q, .slice A1 res.length c1, .slice A l.length cc] w fun e w' => e = .returned (.bool (validB c res l)) ∧ Gr w w' := by
  cases hm : mayB c res l with
  | true =>
    refine calls_cw Try.func36 rfl Try.ntmps36 rfl ?_
    have hS := ((St.ofc hc).args (Nat.le_refl _) _ hl rfl).args (Nat.le_refl _) _ hr rfl
    have hll := hl.2.1
    have hrr := hr.2.1
    refine cw_seq ?_
    -- region 0
    refine cw_region ?_
    refine lw_box rfl rfl rfl rfl hS ?_
    clear hS; intro b3 w1 _ _ hS
    refine lw_v rfl rfl (ok_assign rfl (.n rfl) rfl) ?_
    refine lw_nil ?_
    refine Ends.keep [(1, .eq _), (2, .eq _), (3, .eq _)] (.cons rfl (.cons rfl (.cons rfl .nil))) ?_
    refine ends_then ?_
    refine cw_seq ?_
    -- region 1
    refine cw_region ?_
    refine lw_v rfl rfl (ok_move rfl (.n rfl) rfl) ?_
    refine lw_v rfl rfl (ok_len rfl (.n rfl) Try.underlying25 rfl) ?_
    refine lw_v rfl rfl (ok_fb rfl (.n rfl) Try.underlying29 rfl Try.sizeOf26 (by decide) rfl) ?_
    refine lw_v rfl rfl (ok_ldb rfl (.n rfl) rfl Try.isAgg26 hS (by rfl)) ?_
    refine lw_v rfl rfl (ok_len rfl (.n rfl) Try.underlying26 rfl) ?_
    refine lw_v rfl rfl (ok_eql rfl (.n rfl) rfl rfl) ?_
    refine lw_v rfl rfl (ok_move rfl (.n rfl) rfl) ?_
    refine lw_v rfl rfl (ok_ldS rfl (.s rfl rfl) rfl Try.isAgg29 Try.sizeOf29 hS rfl) ?_
    refine lw_v rfl rfl (ok_move rfl (.s rfl rfl) rfl) ?_
    refine lw_o rfl rfl (ok_callg (.bool (rightB c l)) rfl (.s rfl rfl) Try.call29 rfl rfl (fun _ w' hg => f29 c q l A cc w' hwf ((hS.grow hg).rd A hll))) ?_
    intro w2 hg_; replace hS := hS.grow hg_; clear hg_
    refine lw_v rfl rfl (ok_eq (g := none) (ok_and rfl rfl rfl rfl) (c' := .bool true) (fun _ => congrArg Value.bool hm)) ?_
    refine lw_v rfl rfl (ok_move rfl (.n rfl) rfl) ?_
    refine lw_on (.s rfl rfl) rfl ?_
    refine lw_v rfl rfl (ok_ldS rfl (.n rfl) rfl Try.isAgg29 Try.sizeOf29 hS rfl) ?_
    refine lw_on (.s rfl rfl) rfl ?_
    refine lw_v rfl rfl (ok_move rfl (.n rfl) rfl) ?_
    refine lw_on (.s rfl rfl) rfl ?_
    refine lw_v rfl rfl (ok_move rfl (.n rfl) rfl) ?_
    refine lw_on (.s rfl rfl) rfl ?_
    refine lw_call (f := 32) (xs := [_, _, _]) rfl rfl rfl Try.call32 rfl (Calls.mono (f32 c q res l A1 c1 A cc _ hwf (hS.cs q) (hS.rd A1 hrr) (hS.rd A hll)) ?_)
    rintro e w' ⟨A', c', rfl, hg, hfr, ho⟩
    replace hS := hS.grow hg; clear hg
    refine ⟨_, rfl, ?_⟩
    refine lw_on (.s rfl rfl) rfl ?_
    refine lw_v rfl rfl (ok_len rfl (.n rfl) Try.underlying26 rfl) ?_
    refine lw_on (.s rfl rfl) rfl ?_
    refine lw_v rfl rfl (ok_eql rfl (.n rfl) rfl rfl) ?_
    refine lw_v rfl rfl (ok_pick rfl rfl rfl rfl rfl) ?_
    refine lw_v rfl rfl (ok_assign rfl (.n rfl) rfl) ?_
    refine lw_nil ?_
    refine Ends.keep [(6, .eq _)] (.cons rfl .nil) ?_
    refine ends_then ?_
    refine cw_ret ?_
    exact end_ret (res1 Try.results36 rfl) ⟨by unfold validB; rw [hm]; rfl, hS.below⟩
  | false =>
    refine calls_cw Try.func36 rfl Try.ntmps36 rfl ?_
    have hS := ((St.ofc hc).args (Nat.le_refl _) _ hl rfl).args (Nat.le_refl _) _ hr rfl
    have hll := hl.2.1
    have hrr := hr.2.1
    refine cw_seq ?_
    -- region 0
    refine cw_region ?_
    refine lw_box rfl rfl rfl rfl hS ?_
    clear hS; intro b3 w1 _ _ hS
    refine lw_v rfl rfl (ok_assign rfl (.n rfl) rfl) ?_
    refine lw_nil ?_
    refine Ends.keep [(1, .eq _), (2, .eq _), (3, .eq _)] (.cons rfl (.cons rfl (.cons rfl .nil))) ?_
    refine ends_then ?_
    refine cw_seq ?_
    -- region 1
    refine cw_region ?_
    refine lw_v rfl rfl (ok_move rfl (.n rfl) rfl) ?_
    refine lw_v rfl rfl (ok_len rfl (.n rfl) Try.underlying25 rfl) ?_
    refine lw_v rfl rfl (ok_fb rfl (.n rfl) Try.underlying29 rfl Try.sizeOf26 (by decide) rfl) ?_
    refine lw_v rfl rfl (ok_ldb rfl (.n rfl) rfl Try.isAgg26 hS (by rfl)) ?_
    refine lw_v rfl rfl (ok_len rfl (.n rfl) Try.underlying26 rfl) ?_
    refine lw_v rfl rfl (ok_eql rfl (.n rfl) rfl rfl) ?_
    refine lw_v rfl rfl (ok_move rfl (.n rfl) rfl) ?_
    refine lw_v rfl rfl (ok_ldS rfl (.s rfl rfl) rfl Try.isAgg29 Try.sizeOf29 hS rfl) ?_
    refine lw_v rfl rfl (ok_move rfl (.s rfl rfl) rfl) ?_
    refine lw_o rfl rfl (ok_callg (.bool (rightB c l)) rfl (.s rfl rfl) Try.call29 rfl rfl (fun _ w' hg => f29 c q l A cc w' hwf ((hS.grow hg).rd A hll))) ?_
    intro w2 hg_; replace hS := hS.grow hg_; clear hg_
    refine lw_v rfl rfl (ok_eq (g := none) (ok_and rfl rfl rfl rfl) (c' := .bool false) (fun _ => congrArg Value.bool hm)) ?_
    refine lw_v rfl rfl (ok_move rfl (.n rfl) rfl) ?_
    refine lw_off rfl (.s rfl rfl) rfl rfl ?_
    refine lw_off rfl (.s rfl rfl) rfl rfl ?_
    refine lw_off rfl (.s rfl rfl) rfl rfl ?_
    refine lw_off rfl (.s rfl rfl) rfl rfl ?_
    refine lw_off rfl (.s rfl rfl) rfl rfl ?_
    refine lw_off rfl (.s rfl rfl) rfl rfl ?_
    refine lw_v rfl rfl (ok_pick rfl rfl rfl rfl rfl) ?_
    refine lw_v rfl rfl (ok_assign rfl (.n rfl) rfl) ?_
    refine lw_nil ?_
    refine Ends.keep [(6, .eq _)] (.cons rfl .nil) ?_
    refine ends_then ?_
    refine cw_ret ?_
    exact end_ret (res1 Try.results36 rfl) ⟨by unfold validB; rw [hm]; rfl, hS.below⟩


theorem sum_end {c : Cs} {l : List Int} {k : Nat} {s : Int} (hk : k ≤ l.length) (hs : s = sumTo l k) (hkr : 0 < k → rightB c l = true) (h : (decide ((k : Int) < l.length) && rightB c l) = false) : s = sumB c l := by
  unfold sumB
  cases hr : rightB c l with
  | true =>
    rw [hr, Bool.and_true, decide_eq_false_iff_not] at h
    rw [if_pos rfl, hs]
    congr 1
    omega
  | false =>
    rw [if_neg (by decide), hs]
    rcases Nat.eq_zero_or_pos k with rfl | hp
    · rfl
    · have := hkr hp; rw [hr] at this; cases this
set_option maxRecDepth 10000 in
/-- acequiaref06.Sum. -/
theorem f38 (c : Cs) (q : Q6) (l : List Int) (A : Option Addr) (cc : Nat) (w : World) (hwf : WF c) (hl : (sl (eInt .i64) 1 A l.length cc l).p w) :
    Calls Try.prog 38 #[csV c q, .slice A l.length cc] w fun e w' => e = .returned (.int .i64 (sumB c l)) ∧ Gr w w' := by
  refine calls_cw Try.func38 rfl Try.ntmps38 rfl ?_
  have hS := (St.start w).args (Nat.le_refl _) _ hl rfl
  have hll := hl.2.1
  have hN := hwf.hi
  refine cw_seq ?_
  -- region 0
  refine cw_region ?_
  refine lw_box rfl rfl rfl rfl hS ?_
  clear hS; intro b2 w1 _ _ hS
  refine lw_v rfl rfl (ok_assign rfl (.n rfl) rfl) ?_
  refine lw_nil ?_
  refine Ends.keep [(1, .eq _), (2, .eq _)] (.cons rfl (.cons rfl .nil)) ?_
  refine ends_then ?_
  refine cw_seq ?_
  -- region 1
  refine cw_region ?_
  refine lw_v rfl rfl (ok_assign rfl (.n rfl) rfl) ?_
  refine lw_nil ?_
  refine Ends.keep [(1, .eq _), (2, .eq _), (5, .eq _)] (.cons rfl (.cons rfl (.cons rfl .nil))) ?_
  refine ends_then ?_
  refine cw_seq ?_
  refine cw_seq ?_
  -- region 2
  refine cw_region ?_
  refine lw_v rfl rfl (ok_assign rfl (.n rfl) rfl) ?_
  refine lw_nil ?_
  refine Ends.keep [(1, .eq _), (2, .eq _), (5, .eq _), (6, .eq _)] (.cons rfl (.cons rfl (.cons rfl (.cons rfl .nil)))) ?_
  refine ends_then ?_
  refine cw_block ?_
  -- LOOP at region 3: changed live slots [5, 6], kept [1, 2]
  refine cw_loop2 [(1, .eq _), (2, .eq _)] (fun (k : Nat) (s : Int) => [(5, .eq (.int .i64 s)), (6, .eq (.int .i64 k))]) (fun k s w' => (k ≤ l.length ∧ s = sumTo l k ∧ (0 < k → rightB c l = true)) ∧ St w.heap.size w w' [bx b2 (csV c q).cells.toList 29, sl (eInt .i64) 1 A l.length cc l]) (fun k _ => l.length - k) 0 0 (.cons rfl (.cons rfl .nil)) (.cons rfl (.cons rfl (.cons rfl (.cons rfl .nil)))) ⟨⟨Nat.zero_le _, rfl, fun h => absurd h (Nat.lt_irrefl _)⟩, hS⟩ ?_
  clear hS
  rintro k s wr ⟨⟨hk, hs, hkr⟩, hS⟩
  refine cw_seq ?_
  refine cw_seq ?_
  -- region 3
  refine cw_region ?_
  refine lw_v rfl rfl (ok_move rfl (.n rfl) rfl) ?_
  refine lw_v rfl rfl (ok_move rfl (.n rfl) rfl) ?_
  refine lw_v rfl rfl (ok_len rfl (.n rfl) Try.underlying26 rfl) ?_
  refine lw_v rfl rfl (ok_lss rfl (.n rfl) rfl rfl) ?_
  refine lw_v rfl rfl (ok_move rfl (.n rfl) rfl) ?_
  refine lw_v rfl rfl (ok_ldS rfl (.s rfl rfl) rfl Try.isAgg29 Try.sizeOf29 hS rfl) ?_
  refine lw_v rfl rfl (ok_move rfl (.s rfl rfl) rfl) ?_
  refine lw_o rfl rfl (ok_callg (.bool (rightB c l)) rfl (.s rfl rfl) Try.call29 rfl rfl (fun _ w' hg => f29 c q l A cc w' hwf ((hS.grow hg).rd A hll))) ?_
  intro w2 hg_; replace hS := hS.grow hg_; clear hg_
  refine lw_v rfl rfl (ok_and rfl rfl rfl rfl) ?_
  refine lw_nil ?_
  refine Ends.keep [(1, .eq _), (2, .eq _), (5, .eq _), (6, .eq _), (15, .eq _)] (.cons rfl (.cons rfl (.cons rfl (.cons rfl (.cons rfl .nil))))) ?_
  refine ends_then ?_
  refine cw_cond rfl (fun h15 => ?_) (fun h15 => ?_)
  ·
    obtain ⟨hlt, hm⟩ : (k : Int) < l.length ∧ rightB c l = true := by rwa [Bool.and_eq_true, decide_eq_true_eq] at h15
    have hrh := (right_iff hwf).1 hm
    have hlen := hrh.len
    have hxr := hrh.rng k (by omega)
    have eK : l.getD (k : Int).toNat 0 = l.getD k 0 := rfl
    rw [← eK] at hxr
    have hsr := sumTo_rng hrh k (by omega)
    have hmul : (c.N : Int) * k ≤ 16 * 16 := by
      have : c.N * k ≤ 16 * 16 := Nat.mul_le_mul (by omega) (by omega)
      omega
    refine cw_skip ?_
    refine ends_then ?_
    refine cw_seq ?_
    refine cw_block ?_
    -- region 5
    refine cw_region ?_
    refine lw_v rfl rfl (ok_move rfl (.n rfl) rfl) ?_
    refine lw_v rfl rfl (ok_move rfl (.n rfl) rfl) ?_
    refine lw_v rfl rfl (ok_move rfl (.n rfl) rfl) ?_
    refine lw_v rfl rfl (ok_ix rfl (.n rfl) Try.underlying26 Try.sizeOf3 rfl rfl hS (fun _ => ⟨by omega, by omega⟩)) ?_
    refine lw_v rfl rfl (ok_ldx rfl (.n rfl) rfl Try.isAgg3 hS (fun _ => ⟨by omega, by omega⟩) (by rfl)) ?_
    refine lw_v rfl rfl (ok_addi rfl (.n rfl) rfl rfl (fun _ => ⟨by omega, by omega⟩)) ?_
    refine lw_v rfl rfl (ok_assign rfl (.n rfl) rfl) ?_
    refine lw_nil ?_
    refine in_normal (?_)
    refine Ends.keep [(1, .eq _), (2, .eq _), (5, .eq _), (6, .eq _)] (.cons rfl (.cons rfl (.cons rfl (.cons rfl .nil)))) ?_
    refine ends_then ?_
    -- region 4
    refine cw_region ?_
    refine lw_v rfl rfl (ok_move rfl (.n rfl) rfl) ?_
    refine lw_v rfl rfl (ok_addi rfl (.n rfl) rfl rfl (fun _ => ⟨by omega, by omega⟩)) ?_
    refine lw_v rfl rfl (ok_assign rfl (.n rfl) rfl) ?_
    refine lw_nil ?_
    -- BACK
    refine ends_back2 (k + 1) _ (.cons rfl (.cons rfl (.cons rfl (.cons rfl .nil)))) ⟨⟨by omega, ?_, fun _ => hm⟩, hS⟩ (by omega)
    rw [hs]; rfl
  ·
    refine cw_exit ?_
    refine then_exit (then_exit (in_exit (?_)))
    refine Ends.keep [(5, .eq _)] (.cons rfl .nil) ?_
    refine ends_then ?_
    refine cw_seq ?_
    -- region 6
    refine cw_region ?_
    refine lw_v rfl rfl (ok_move rfl (.n rfl) rfl) ?_
    refine lw_v rfl rfl (ok_assign rfl (.n rfl) rfl) ?_
    refine lw_nil ?_
    refine Ends.keep [(4, .eq _)] (.cons rfl .nil) ?_
    refine ends_then ?_
    refine cw_ret ?_
    exact end_ret (res1 Try.results38 rfl) ⟨by rw [sum_end hk hs hkr h15], hS.below⟩

end Go.Proofs.Ytnpgeohkmdcbkaa.Aq
