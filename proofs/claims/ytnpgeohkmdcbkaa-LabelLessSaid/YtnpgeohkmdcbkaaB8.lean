/- The walk of acequiaref06.Least. The chapter's example of heights, by computing. The walk of acequialaw06.awake. No condition but those that each lemma names. -/
import Derived.Test.YtnpgeohkmdcbkaaB4
import Derived.Test.YtnpgeohkmdcbkaaB0
import Derived.KernelRfl
import Derived.Test.YtnpgeohkmdcbkaaB3
namespace Go.Proofs.Ytnpgeohkmdcbkaa.Aq
open Go Go.RowKit

theorem not_in2 {a b : Bool} {u N : Int} (h : (((!a || !b) || decide (u < 0)) || decide (N ≤ u)) = true) : ¬ ((a && b) = true ∧ 0 ≤ u ∧ u < N) := by
  rw [← Bool.not_and] at h
  exact not_in h
theorem is_in2 {a b : Bool} {u N : Int} (h : (((!a || !b) || decide (u < 0)) || decide (N ≤ u)) = false) : ((a && b) = true ∧ 0 ≤ u) ∧ u < N := by
  rw [← Bool.not_and] at h
  exact is_in h
theorem leastf_none {c : Cs} {res h : List Int} {v : Nat} {a b m : Int} (ht : LeastFrom c res h v a b m) (hm : mayB c res h = true) (ha : a = c.First.getD (v : Int).toNat 0 - 1) (h1 : m < 0) : LeastR c res h v 0 0 false := by
  refine .inr ⟨rfl, rfl, rfl, fun _ _ _ x hx => ?_⟩
  rcases ht with ⟨_, _, h2⟩ | ⟨h2, _⟩
  · have h9 : c.First.getD (v : Int).toNat 0 ≤ x := hx.1
    exact h2 x (by omega) hx
  · omega
theorem leastf_some {c : Cs} {res h : List Int} {v : Nat} {a b m : Int} (ht : LeastFrom c res h v a b m) (hm : mayB c res h = true) (hv : (v : Int) < c.N) (ha : a = c.First.getD (v : Int).toNat 0 - 1) (h1 : 0 ≤ m) : LeastR c res h v b m true := by
  have key : ∀ x, Opn c res v x → a < x := fun x hx => by
    have h9 : c.First.getD (v : Int).toNat 0 ≤ x := hx.1
    omega
  rcases ht with ⟨_, h2, _⟩ | ⟨h2, h3, h4, h5, h6, h7⟩
  · omega
  · exact .inl ⟨hm, by omega, hv, rfl, h4, h5, fun x hx => h6 x (key x hx) hx, fun x hxb hx => h7 x (key x hx) hxb hx⟩
set_option maxRecDepth 10000 in
/-- acequiaref06.Least. -/
theorem f27 (c : Cs) (q : Q6) (res l : List Int) (u : Int) (A1 : Option Addr) (c1 : Nat) (A : Option Addr) (cc : Nat) (w : World) (hwf : WF c) (hc : CsAt c q w) (hr : (sl (eInt .i64) 1 A1 res.length c1 res).p w) (hl : (sl (eInt .i64) 1 A l.length cc l).p w) :
    Calls Try.prog 27 #[csV c q, .slice A1 res.length c1, .slice A l.length cc, .int .i64 u] w fun e w' => ∃ b m ok, e = .returned (.tuple #[.int .i64 b, .int .i64 m, .bool ok]) ∧ Gr w w' ∧ LeastR c res l u b m ok := by
  refine calls_cw Try.func27 rfl Try.ntmps27 rfl ?_
  have hS := ((St.ofc hc).args (Nat.le_refl _) _ hl rfl).args (Nat.le_refl _) _ hr rfl
  have hll := hl.2.1
  have hrr := hr.2.1
  refine cw_seq ?_
  -- region 0
  refine cw_region ?_
  refine lw_box rfl rfl rfl rfl hS ?_
  clear hS; intro b4 w1 _ _ hS
  refine lw_v rfl rfl (ok_assign rfl (.n rfl) rfl) ?_
  refine lw_v rfl rfl (ok_assign rfl (.n rfl) rfl) ?_
  refine lw_v rfl rfl (ok_assign rfl (.n rfl) rfl) ?_
  refine lw_nil ?_
  refine Ends.keep [(1, .eq _), (2, .eq _), (3, .eq _), (4, .eq _)] (.cons rfl (.cons rfl (.cons rfl (.cons rfl .nil)))) ?_
  refine ends_then ?_
  refine cw_seq ?_
  refine cw_seq ?_
  -- region 1
  refine cw_region ?_
  refine lw_v rfl rfl (ok_move rfl (.n rfl) rfl) ?_
  refine lw_v rfl rfl (ok_len rfl (.n rfl) Try.underlying25 rfl) ?_
  refine lw_v rfl rfl (ok_fb rfl (.n rfl) Try.underlying29 rfl Try.sizeOf26 (by decide) rfl) ?_
  refine lw_v rfl rfl (ok_ldb rfl (.n rfl) rfl Try.isAgg26 hS (by rfl)) ?_
  refine lw_v rfl rfl (ok_len rfl (.n rfl) Try.underlying26 rfl) ?_
  refine lw_v rfl rfl (ok_neq rfl (.n rfl) rfl rfl) ?_
  refine lw_v rfl rfl (ok_move rfl (.n rfl) rfl) ?_
  refine lw_v rfl rfl (ok_ldS rfl (.s rfl rfl) rfl Try.isAgg29 Try.sizeOf29 hS rfl) ?_
  refine lw_v rfl rfl (ok_move rfl (.s rfl rfl) rfl) ?_
  refine lw_o rfl rfl (ok_callg (.bool (rightB c l)) rfl (.s rfl rfl) Try.call29 rfl rfl (fun _ w' hg => f29 c q l A cc w' hwf ((hS.grow hg).rd A hll))) ?_
  intro w2 hg_; replace hS := hS.grow hg_; clear hg_
  refine lw_v rfl rfl (ok_not rfl (.s rfl rfl) rfl) ?_
  refine lw_v rfl rfl (ok_or rfl rfl rfl rfl) ?_
  refine lw_v rfl rfl (ok_move rfl (.n rfl) rfl) ?_
  refine lw_v rfl rfl (ok_move rfl (.s rfl rfl) rfl) ?_
  refine lw_v rfl rfl (ok_lss rfl (.s rfl rfl) rfl rfl) ?_
  refine lw_v rfl rfl (ok_or rfl rfl rfl rfl) ?_
  refine lw_v rfl rfl (ok_move rfl (.n rfl) rfl) ?_
  refine lw_v rfl rfl (ok_move rfl (.s rfl rfl) rfl) ?_
  refine lw_v rfl rfl (ok_fb rfl (.s rfl rfl) Try.underlying29 rfl Try.sizeOf3 (by decide) rfl) ?_
  refine lw_v rfl rfl (ok_ldb rfl (.s rfl rfl) rfl Try.isAgg3 hS (by rfl)) ?_
  refine lw_v rfl rfl (ok_geq rfl (.s rfl rfl) rfl rfl) ?_
  refine lw_v rfl rfl (ok_or rfl rfl rfl rfl) ?_
  refine lw_nil ?_
  refine Ends.keep [(1, .eq _), (2, .eq _), (3, .eq _), (4, .eq _), (36, .eq _)] (.cons rfl (.cons rfl (.cons rfl (.cons rfl (.cons rfl .nil))))) ?_
  refine ends_then ?_
  refine cw_cond rfl (fun h36 => ?_) (fun h36 => ?_)
  ·
    have hno : ¬ (mayB c res l = true ∧ 0 ≤ u ∧ u < c.N) := not_in2 h36
    refine cw_seq ?_
    -- region 2
    refine cw_region ?_
    refine lw_v rfl rfl (ok_assign rfl (.n rfl) rfl) ?_
    refine lw_v rfl rfl (ok_assign rfl (.n rfl) rfl) ?_
    refine lw_v rfl rfl (ok_assign rfl (.n rfl) rfl) ?_
    refine lw_nil ?_
    refine Ends.keep [(8, .eq _), (9, .eq _), (10, .eq _)] (.cons rfl (.cons rfl (.cons rfl .nil))) ?_
    refine ends_then ?_
    refine cw_ret ?_
    refine then_ret (?_)
    exact end_ret (res3 Try.results27 rfl rfl rfl) ⟨_, _, _, rfl, hS.below, .inr ⟨rfl, rfl, rfl, fun h1 h2 h3 => absurd ⟨h1, h2, h3⟩ hno⟩⟩
  ·
    obtain ⟨⟨hm, hu0⟩, huN⟩ : (mayB c res l = true ∧ 0 ≤ u) ∧ u < c.N := is_in2 h36
    obtain ⟨hrl, hrh⟩ := (may_iff hwf).1 hm
    obtain ⟨v, rfl⟩ := Int.eq_ofNat_of_zero_le hu0
    clear hu0
    have hvN : v < c.N := by omega
    have hM := hwf.m
    have hN := hwf.hi
    have hfl := hwf.fl
    have hlen := hrh.len
    obtain ⟨hf0, hf1, hf2⟩ := seg_rng hwf hvN
    have eF : c.First.getD (v : Int).toNat 0 = c.First.getD v 0 := rfl
    have eF1 : c.First.getD ((v : Int) + 1).toNat 0 = c.First.getD (v + 1) 0 := rfl
    rw [← eF] at hf0 hf1
    rw [← eF1] at hf1 hf2
    refine cw_skip ?_
    refine ends_then ?_
    refine cw_seq ?_
    -- region 3
    refine cw_region ?_
    refine lw_v rfl rfl (ok_assign rfl (.n rfl) rfl) ?_
    refine lw_v rfl rfl (ok_assign rfl (.n rfl) rfl) ?_
    refine lw_nil ?_
    refine Ends.keep [(1, .eq _), (2, .eq _), (3, .eq _), (4, .eq _), (11, .eq _), (12, .eq _)] (.cons rfl (.cons rfl (.cons rfl (.cons rfl (.cons rfl (.cons rfl .nil)))))) ?_
    refine ends_then ?_
    refine cw_seq ?_
    refine cw_seq ?_
    -- region 4
    refine cw_region ?_
    refine lw_v rfl rfl (ok_fb rfl (.n rfl) Try.underlying29 rfl Try.sizeOf26 (by decide) rfl) ?_
    refine lw_v rfl rfl (ok_ldb rfl (.n rfl) rfl Try.isAgg26 hS (by rfl)) ?_
    refine lw_v rfl rfl (ok_move rfl (.n rfl) rfl) ?_
    refine lw_v rfl rfl (ok_addi rfl (.n rfl) rfl rfl (fun _ => ⟨by omega, by omega⟩)) ?_
    refine lw_v rfl rfl (ok_ix rfl (.n rfl) Try.underlying26 Try.sizeOf3 rfl rfl hS (fun _ => ⟨by omega, by omega⟩)) ?_
    refine lw_v rfl rfl (ok_ldx rfl (.n rfl) rfl Try.isAgg3 hS (fun _ => ⟨by omega, by omega⟩) (by rfl)) ?_
    refine lw_v rfl rfl (ok_subi rfl (.n rfl) rfl rfl (fun _ => ⟨by omega, by omega⟩)) ?_
    refine lw_v rfl rfl (ok_assign rfl (.n rfl) rfl) ?_
    refine lw_nil ?_
    refine Ends.keep [(1, .eq _), (2, .eq _), (3, .eq _), (4, .eq _), (11, .eq _), (12, .eq _), (13, .eq _)] (.cons rfl (.cons rfl (.cons rfl (.cons rfl (.cons rfl (.cons rfl (.cons rfl .nil))))))) ?_
    refine ends_then ?_
    refine cw_block ?_
    -- LOOP at region 5: changed live slots [11, 12, 13], kept [1, 2, 3, 4]
    refine cw_loop3 [(1, .eq _), (2, .eq _), (3, .eq _), (4, .eq _)] (fun (a b m : Int) => [(11, .eq (.int .i64 b)), (12, .eq (.int .i64 m)), (13, .eq (.int .i64 a))]) (fun a b m w' => (c.First.getD (v : Int).toNat 0 - 1 ≤ a ∧ a ≤ c.First.getD ((v : Int) + 1).toNat 0 - 1 ∧ LeastFrom c res l v a b m) ∧ St w.heap.size w w' [bx b4 (csV c q).cells.toList 29, sl (eInt .i64) 1 A1 res.length c1 res, sl (eInt .i64) 1 A l.length cc l, sl (eInt .i64) 1 q.a0 c.First.length q.c0 c.First, sl (eInt .i64) 1 q.a1 c.Head.length q.c1 c.Head, sl (eInt .i64) 1 q.a2 c.Rev.length q.c2 c.Rev, sl (eInt .i64) 1 q.a3 c.Cap.length q.c3 c.Cap, sl (eInt .i64) 1 q.a4 c.Arc.length q.c4 c.Arc, sl eBool 1 q.a5 c.Back.length q.c5 c.Back]) (fun a _ _ => (a + 1 - c.First.getD (v : Int).toNat 0).toNat) (c.First.getD ((v : Int) + 1).toNat 0 - 1) 0 (-1) (.cons rfl (.cons rfl (.cons rfl (.cons rfl .nil)))) (.cons rfl (.cons rfl (.cons rfl (.cons rfl (.cons rfl (.cons rfl (.cons rfl .nil))))))) ⟨⟨by omega, Int.le_refl _, .inl ⟨rfl, rfl, fun x hx ho => by have h9 : x < c.First.getD (v + 1) 0 := ho.2.1; omega⟩⟩, hS⟩ ?_
    clear hS
    rintro a b m wr ⟨⟨ha0, ha1, hlt0⟩, hS⟩
    refine cw_seq ?_
    refine cw_seq ?_
    -- region 5
    refine cw_region ?_
    refine lw_v rfl rfl (ok_move rfl (.n rfl) rfl) ?_
    refine lw_v rfl rfl (ok_fb rfl (.n rfl) Try.underlying29 rfl Try.sizeOf26 (by decide) rfl) ?_
    refine lw_v rfl rfl (ok_ldb rfl (.n rfl) rfl Try.isAgg26 hS (by rfl)) ?_
    refine lw_v rfl rfl (ok_move rfl (.n rfl) rfl) ?_
    refine lw_v rfl rfl (ok_ix rfl (.n rfl) Try.underlying26 Try.sizeOf3 rfl rfl hS (fun _ => ⟨by omega, by omega⟩)) ?_
    refine lw_v rfl rfl (ok_ldx rfl (.n rfl) rfl Try.isAgg3 hS (fun _ => ⟨by omega, by omega⟩) (by rfl)) ?_
    refine lw_v rfl rfl (ok_geq rfl (.n rfl) rfl rfl) ?_
    refine lw_nil ?_
    refine Ends.keep [(1, .eq _), (2, .eq _), (3, .eq _), (4, .eq _), (11, .eq _), (12, .eq _), (13, .eq _), (50, .eq _)] (.cons rfl (.cons rfl (.cons rfl (.cons rfl (.cons rfl (.cons rfl (.cons rfl (.cons rfl .nil)))))))) ?_
    refine ends_then ?_
    refine cw_cond rfl (fun h50 => ?_) (fun h50 => ?_)
    ·
      have hlt := of_decide_eq_true h50
      obtain ⟨⟨hd0, hd1⟩, he0, he1⟩ := end_rng hwf hrh (a := a) (by omega) (by omega)
      have eE : l.getD (c.Head.getD a.toNat 0).toNat 0 = endH c l a := rfl
      rw [← eE] at he0 he1
      refine cw_skip ?_
      refine ends_then ?_
      refine cw_seq ?_
      refine cw_block ?_
      refine cw_seq ?_
      -- region 7
      refine cw_region ?_
      refine lw_v rfl rfl (ok_move rfl (.n rfl) rfl) ?_
      refine lw_v rfl rfl (ok_fb rfl (.n rfl) Try.underlying29 rfl Try.sizeOf26 (by decide) rfl) ?_
      refine lw_v rfl rfl (ok_ldb rfl (.n rfl) rfl Try.isAgg26 hS (by rfl)) ?_
      refine lw_v rfl rfl (ok_move rfl (.n rfl) rfl) ?_
      refine lw_v rfl rfl (ok_ix rfl (.n rfl) Try.underlying26 Try.sizeOf3 rfl rfl hS (fun _ => ⟨by omega, by omega⟩)) ?_
      refine lw_v rfl rfl (ok_ldx rfl (.n rfl) rfl Try.isAgg3 hS (fun _ => ⟨by omega, by omega⟩) (by rfl)) ?_
      refine lw_v rfl rfl (ok_ix rfl (.n rfl) Try.underlying26 Try.sizeOf3 rfl rfl hS (fun _ => ⟨by omega, by omega⟩)) ?_
      refine lw_v rfl rfl (ok_ldx rfl (.n rfl) rfl Try.isAgg3 hS (fun _ => ⟨by omega, by omega⟩) (by rfl)) ?_
      refine lw_v rfl rfl (ok_assign rfl (.n rfl) rfl) ?_
      refine lw_nil ?_
      refine Ends.keep [(1, .eq _), (2, .eq _), (3, .eq _), (4, .eq _), (11, .eq _), (12, .eq _), (13, .eq _), (14, .eq _)] (.cons rfl (.cons rfl (.cons rfl (.cons rfl (.cons rfl (.cons rfl (.cons rfl (.cons rfl .nil)))))))) ?_
      refine ends_then ?_
      refine cw_seq ?_
      cases hx : decide (0 < res.getD a.toNat 0) with
      | true =>
        -- region 8
        refine cw_region ?_
        refine lw_v rfl rfl (ok_move rfl (.n rfl) rfl) ?_
        refine lw_v rfl rfl (ok_move rfl (.n rfl) rfl) ?_
        refine lw_v rfl rfl (ok_ix rfl (.n rfl) Try.underlying25 Try.sizeOf2 rfl rfl hS (fun _ => ⟨by omega, by omega⟩)) ?_
        refine lw_v rfl rfl (ok_ldx rfl (.n rfl) rfl Try.isAgg2 hS (fun _ => ⟨by omega, by omega⟩) (by rfl)) ?_
        refine lw_v rfl rfl (ok_eq (ok_gtr rfl (.n rfl) rfl rfl) (c' := .bool true) (fun _ => congrArg Value.bool hx)) ?_
        refine lw_v rfl rfl (ok_move rfl (.n rfl) rfl) ?_
        refine lw_on (.s rfl rfl) rfl ?_
        refine lw_v rfl rfl (ok_move rfl (.n rfl) rfl) ?_
        refine lw_on (.s rfl rfl) rfl ?_
        refine lw_v rfl rfl (ok_lss rfl (.n rfl) rfl rfl) ?_
        refine lw_on (.s rfl rfl) rfl ?_
        refine lw_v rfl rfl (ok_move rfl (.n rfl) rfl) ?_
        refine lw_v rfl rfl (ok_move rfl (.s rfl rfl) rfl) ?_
        refine lw_v rfl rfl (ok_move rfl (.s rfl rfl) rfl) ?_
        refine lw_v rfl rfl (ok_leq rfl (.s rfl rfl) rfl rfl) ?_
        refine lw_on (.s rfl rfl) rfl ?_
        refine lw_v rfl rfl (ok_or rfl rfl rfl rfl) ?_
        refine lw_v rfl rfl (ok_pick rfl rfl rfl rfl rfl) ?_
        refine lw_nil ?_
        refine Ends.keep [(1, .eq _), (2, .eq _), (3, .eq _), (4, .eq _), (11, .eq _), (12, .eq _), (13, .eq _), (14, .eq _), (74, .eq _)] (.cons rfl (.cons rfl (.cons rfl (.cons rfl (.cons rfl (.cons rfl (.cons rfl (.cons rfl (.cons rfl .nil))))))))) ?_
        refine ends_then ?_
        refine cw_cond rfl (fun h74 => ?_) (fun h74 => ?_)
        ·
          -- region 9
          refine cw_region ?_
          refine lw_v rfl rfl (ok_move rfl (.n rfl) rfl) ?_
          refine lw_v rfl rfl (ok_move rfl (.n rfl) rfl) ?_
          refine lw_v rfl rfl (ok_assign rfl (.n rfl) rfl) ?_
          refine lw_v rfl rfl (ok_assign rfl (.n rfl) rfl) ?_
          refine lw_nil ?_
          refine in_normal (?_)
          refine Ends.keep [(1, .eq _), (2, .eq _), (3, .eq _), (4, .eq _), (11, .eq _), (12, .eq _), (13, .eq _)] (.cons rfl (.cons rfl (.cons rfl (.cons rfl (.cons rfl (.cons rfl (.cons rfl .nil))))))) ?_
          refine ends_then ?_
          -- region 6
          refine cw_region ?_
          refine lw_v rfl rfl (ok_move rfl (.n rfl) rfl) ?_
          refine lw_v rfl rfl (ok_subi rfl (.n rfl) rfl rfl (fun _ => ⟨by omega, by omega⟩)) ?_
          refine lw_v rfl rfl (ok_assign rfl (.n rfl) rfl) ?_
          refine lw_nil ?_
          -- BACK
          refine ends_back3 (a - 1) _ _ (.cons rfl (.cons rfl (.cons rfl (.cons rfl (.cons rfl (.cons rfl (.cons rfl .nil))))))) ⟨⟨by omega, by omega, ?_⟩, hS⟩ (by omega)
          rw [Bool.or_eq_true, decide_eq_true_eq, decide_eq_true_eq] at h74
          exact least_take' hlt0 ⟨hlt, by omega, of_decide_eq_true hx⟩ h74 he0
        ·
          refine cw_skip ?_
          refine in_normal (?_)
          refine ends_then ?_
          -- region 6
          refine cw_region ?_
          refine lw_v rfl rfl (ok_move rfl (.n rfl) rfl) ?_
          refine lw_v rfl rfl (ok_subi rfl (.n rfl) rfl rfl (fun _ => ⟨by omega, by omega⟩)) ?_
          refine lw_v rfl rfl (ok_assign rfl (.n rfl) rfl) ?_
          refine lw_nil ?_
          -- BACK
          refine ends_back3 (a - 1) b m (.cons rfl (.cons rfl (.cons rfl (.cons rfl (.cons rfl (.cons rfl (.cons rfl .nil))))))) ⟨⟨by omega, by omega, ?_⟩, hS⟩ (by omega)
          rw [Bool.or_eq_false_iff, decide_eq_false_iff_not, decide_eq_false_iff_not] at h74
          exact least_pass' hlt0 (fun ho => ho.2.elim h74.1 h74.2)
      | false =>
        -- region 8
        refine cw_region ?_
        refine lw_v rfl rfl (ok_move rfl (.n rfl) rfl) ?_
        refine lw_v rfl rfl (ok_move rfl (.n rfl) rfl) ?_
        refine lw_v rfl rfl (ok_ix rfl (.n rfl) Try.underlying25 Try.sizeOf2 rfl rfl hS (fun _ => ⟨by omega, by omega⟩)) ?_
        refine lw_v rfl rfl (ok_ldx rfl (.n rfl) rfl Try.isAgg2 hS (fun _ => ⟨by omega, by omega⟩) (by rfl)) ?_
        refine lw_v rfl rfl (ok_eq (ok_gtr rfl (.n rfl) rfl rfl) (c' := .bool false) (fun _ => congrArg Value.bool hx)) ?_
        refine lw_v rfl rfl (ok_move rfl (.n rfl) rfl) ?_
        refine lw_off rfl (.s rfl rfl) rfl rfl ?_
        refine lw_off rfl (.s rfl rfl) rfl rfl ?_
        refine lw_off rfl (.s rfl rfl) rfl rfl ?_
        refine lw_off2 rfl (.s rfl rfl) rfl (undef_ne _) ?_
        refine lw_off2 rfl (.s rfl rfl) rfl (undef_ne _) ?_
        refine lw_off2 rfl (.s rfl rfl) rfl (undef_ne _) ?_
        refine lw_off rfl (.s rfl rfl) rfl rfl ?_
        refine lw_v rfl rfl (ok_pick rfl rfl rfl rfl rfl) ?_
        refine lw_nil ?_
        refine Ends.keep [(1, .eq _), (2, .eq _), (3, .eq _), (4, .eq _), (11, .eq _), (12, .eq _), (13, .eq _), (14, .eq _), (74, .eq _)] (.cons rfl (.cons rfl (.cons rfl (.cons rfl (.cons rfl (.cons rfl (.cons rfl (.cons rfl (.cons rfl .nil))))))))) ?_
        refine ends_then ?_
        refine cw_cond rfl (fun h74 => ?_) (fun h74 => ?_)
        ·
          cases h74
        ·
          refine cw_skip ?_
          refine in_normal (?_)
          refine ends_then ?_
          -- region 6
          refine cw_region ?_
          refine lw_v rfl rfl (ok_move rfl (.n rfl) rfl) ?_
          refine lw_v rfl rfl (ok_subi rfl (.n rfl) rfl rfl (fun _ => ⟨by omega, by omega⟩)) ?_
          refine lw_v rfl rfl (ok_assign rfl (.n rfl) rfl) ?_
          refine lw_nil ?_
          -- BACK
          refine ends_back3 (a - 1) b m (.cons rfl (.cons rfl (.cons rfl (.cons rfl (.cons rfl (.cons rfl (.cons rfl .nil))))))) ⟨⟨by omega, by omega, ?_⟩, hS⟩ (by omega)
          exact least_pass' hlt0 (fun ho => of_decide_eq_false hx ho.1.2.2)
    ·
      have hae : a = c.First.getD (v : Int).toNat 0 - 1 := by have := of_decide_eq_false h50; omega
      refine cw_exit ?_
      refine then_exit (then_exit (in_exit (?_)))
      refine Ends.keep [(11, .eq _), (12, .eq _)] (.cons rfl (.cons rfl .nil)) ?_
      refine ends_then ?_
      refine cw_seq ?_
      refine cw_seq ?_
      -- region 10
      refine cw_region ?_
      refine lw_v rfl rfl (ok_move rfl (.n rfl) rfl) ?_
      refine lw_v rfl rfl (ok_lss rfl (.n rfl) rfl rfl) ?_
      refine lw_nil ?_
      refine Ends.keep [(11, .eq _), (12, .eq _), (78, .eq _)] (.cons rfl (.cons rfl (.cons rfl .nil))) ?_
      refine ends_then ?_
      refine cw_cond rfl (fun h78 => ?_) (fun h78 => ?_)
      ·
        have h78' := of_decide_eq_true h78
        refine cw_seq ?_
        -- region 11
        refine cw_region ?_
        refine lw_v rfl rfl (ok_assign rfl (.n rfl) rfl) ?_
        refine lw_v rfl rfl (ok_assign rfl (.n rfl) rfl) ?_
        refine lw_v rfl rfl (ok_assign rfl (.n rfl) rfl) ?_
        refine lw_nil ?_
        refine Ends.keep [(8, .eq _), (9, .eq _), (10, .eq _)] (.cons rfl (.cons rfl (.cons rfl .nil))) ?_
        refine ends_then ?_
        refine cw_ret ?_
        refine then_ret (?_)
        exact end_ret (res3 Try.results27 rfl rfl rfl) ⟨_, _, _, rfl, hS.below, leastf_none hlt0 hm hae h78'⟩
      ·
        have h78' := of_decide_eq_false h78
        refine cw_skip ?_
        refine ends_then ?_
        refine cw_seq ?_
        -- region 12
        refine cw_region ?_
        refine lw_v rfl rfl (ok_move rfl (.n rfl) rfl) ?_
        refine lw_v rfl rfl (ok_move rfl (.n rfl) rfl) ?_
        refine lw_v rfl rfl (ok_assign rfl (.n rfl) rfl) ?_
        refine lw_v rfl rfl (ok_assign rfl (.n rfl) rfl) ?_
        refine lw_v rfl rfl (ok_assign rfl (.n rfl) rfl) ?_
        refine lw_nil ?_
        refine Ends.keep [(8, .eq _), (9, .eq _), (10, .eq _)] (.cons rfl (.cons rfl (.cons rfl .nil))) ?_
        refine ends_then ?_
        refine cw_ret ?_
        exact end_ret (res3 Try.results27 rfl rfl rfl) ⟨_, _, _, rfl, hS.below, leastf_some hlt0 hm huN hae (by omega)⟩

end Go.Proofs.Ytnpgeohkmdcbkaa.Aq

namespace Go.Proofs.Ytnpgeohkmdcbkaa.Aq

def n06 : Nt := ⟨3, 0, 2, [(0, 1, 5), (1, 2, 5)]⟩
theorem ok06 : NetOk n06 := ⟨by decide, by decide, by decide, by decide, by decide, by decide, by decide, by decide, fun a ha => by
  simp only [n06, List.mem_cons, List.not_mem_nil, or_false] at ha
  rcases ha with rfl | rfl <;> decide⟩
theorem m06 : (resL n06 []).length = 4 := by kernel_rfl
theorem valid06 : validB (makeF n06) (resL n06 []) [3, 1, 0] = true := by kernel_rfl
theorem flat06 : flatL (makeF n06) (resL n06 []) [3, 1, 0] = [2] := by kernel_rfl
theorem steep06 : steepL (makeF n06) (resL n06 []) [3, 2, 0] = [2] := by kernel_rfl
theorem none06 : flatL (makeF n06) (resL n06 []) [3, 0, 0] = [] := by kernel_rfl
theorem sum06 : sumB (makeF n06) [3, 1, 0] = 4 := by kernel_rfl
theorem may06 : mayB (makeF n06) (resL n06 []) [3, 1, 0] = true := by kernel_rfl
theorem least06 : LeastR (makeF n06) (resL n06 []) [3, 1, 0] 1 2 0 true := by
  have f1 : (makeF n06).First.getD 1 0 = 1 := by kernel_rfl
  have f2 : (makeF n06).First.getD 2 0 = 3 := by kernel_rfl
  have r1 : (resL n06 []).getD 1 0 = 0 := by kernel_rfl
  have r2 : (resL n06 []).getD 2 0 = 5 := by kernel_rfl
  have e2 : endH (makeF n06) [3, 1, 0] 2 = 0 := by kernel_rfl
  have key : ∀ a, Opn (makeF n06) (resL n06 []) 1 a → a = 2 := fun a ⟨h1, h2, h3⟩ => by
    rw [f1] at h1
    rw [show (1 + 1 : Nat) = 2 from rfl, f2] at h2
    rcases (by omega : a = 1 ∨ a = 2) with rfl | rfl
    · rw [show (1 : Int).toNat = 1 from rfl, r1] at h3; omega
    · rfl
  refine .inl ⟨may06, by decide, by decide, rfl, ⟨by show (makeF n06).First.getD 1 0 ≤ 2; rw [f1]; decide, by show (2 : Int) < (makeF n06).First.getD 2 0; rw [f2]; decide, by show 0 < (resL n06 []).getD 2 0; rw [r2]; decide⟩, e2.symm, fun a ha => ?_, fun a ha ho => ?_⟩
  · rw [key a ha, e2]; decide
  · have := key a ho; omega
end Go.Proofs.Ytnpgeohkmdcbkaa.Aq

namespace Go.Proofs.Ytnpgeohkmdcbkaa.Aq
open Go Go.RowKit

set_option maxRecDepth 10000 in
/-- acequialaw06.awake. -/
theorem f39 (w : World) : Calls Try.prog 39 #[] w fun e w' => e = .returned (.bool true) ∧ Gr w w' := by
  refine calls_cw Try.func39 rfl Try.ntmps39 rfl ?_
  have hS := St.start w
  refine cw_seq ?_
  -- region 0
  refine cw_region ?_
  refine lw_v rfl rfl (ok_assign rfl (.n rfl) rfl) ?_
  refine lw_nil ?_
  refine Ends.keep [] .nil ?_
  refine ends_then ?_
  refine cw_seq ?_
  -- region 1
  refine cw_region ?_
  refine lw_v rfl rfl (ok_build rfl (.n rfl) Try.underlying82 Try.zeroValue82 pl82 rfl rfl) ?_
  refine lw_v rfl rfl (ok_build rfl (.n rfl) Try.underlying82 Try.zeroValue82 pl82 rfl rfl) ?_
  refine lw_ls (enc := eArc) [(0, 1, 5), (1, 2, 5)] rfl rfl rfl Try.underlying22 Try.sizeOf82 Try.zeroValue82 rfl (by kernel_rfl) rfl (by decide) (by decide) hS ?_
  clear hS; intro A9 c9 w1 _ hS
  refine lw_v rfl rfl (ok_build rfl (.n rfl) Try.underlying24 Try.zeroValue24 pl24 rfl rfl) ?_
  refine lw_alloc rfl rfl rfl Try.zeroValue24 hS ?_
  clear hS; intro b1 w2 _ _ hS
  refine lw_stS rfl rfl rfl rfl rfl (by kernel_rfl) hS rfl (by rfl) (by rfl) ?_
  clear hS; intro w3 hS
  refine lw_nil ?_
  refine Ends.keep [(1, .eq _)] (.cons rfl .nil) ?_
  refine ends_then ?_
  refine cw_seq ?_
  -- region 2
  refine cw_region ?_
  refine lw_v rfl rfl (ok_ldS rfl (.n rfl) rfl Try.isAgg24 Try.sizeOf24 hS rfl) ?_
  refine lw_call (f := 23) (xs := [_, _]) rfl rfl rfl Try.call23 rfl (Calls.mono (f23 n06 A9 c9 [] none 0 _ ok06 (hS.rd A9 (by decide)) ((hS.nils (eInt .i64) 1).ok _ (.head _)) (by decide) (fun x hx => by cases hx)) ?_)
  rintro e w' ⟨q, A6, c6, rfl, hg, hnew, hat, hfr, hap, ho⟩
  replace hS := hS.left hg hat hnew ho hfr hap; clear hg
  refine ⟨_, rfl, ?_⟩
  refine lw_v rfl rfl (ok_move rfl (.n rfl) rfl) ?_
  refine lw_v rfl rfl (ok_extract rfl (.n rfl) rfl rfl) ?_
  refine lw_v rfl rfl (ok_extract rfl (.n rfl) rfl rfl) ?_
  refine lw_alloc rfl rfl rfl Try.zeroValue29 hS ?_
  clear hS; intro b2 w4 _ _ hS
  refine lw_stS rfl rfl rfl rfl rfl (by kernel_rfl) hS rfl (by rfl) (by rfl) ?_
  clear hS; intro w5 hS
  refine lw_v rfl rfl (ok_assign rfl (.n rfl) rfl) ?_
  refine lw_nil ?_
  refine Ends.keep [(2, .eq _), (3, .eq _)] (.cons rfl (.cons rfl .nil)) ?_
  refine ends_then ?_
  refine cw_seq ?_
  refine cw_seq ?_
  -- region 3
  refine cw_region ?_
  refine lw_v rfl rfl (ok_move rfl (.n rfl) rfl) ?_
  refine lw_v rfl rfl (ok_len rfl (.n rfl) Try.underlying25 rfl) ?_
  refine lw_v rfl rfl (ok_neq rfl (.n rfl) rfl rfl) ?_
  refine lw_nil ?_
  refine Ends.keep [(2, .eq _), (3, .eq _), (18, .eq _)] (.cons rfl (.cons rfl (.cons rfl .nil))) ?_
  refine ends_then ?_
  refine cw_cond rfl (fun h18 => ?_) (fun h18 => ?_)
  ·
    exact absurd h18 (by rw [m06]; decide)
  ·
    refine cw_skip ?_
    refine ends_then ?_
    refine cw_seq ?_
    -- region 5
    refine cw_region ?_
    refine lw_v rfl rfl (ok_ldS rfl (.n rfl) rfl Try.isAgg29 Try.sizeOf29 hS rfl) ?_
    refine lw_v rfl rfl (ok_move rfl (.n rfl) rfl) ?_
    refine lw_ls (enc := (eInt .i64)) [3, 1, 0] rfl rfl rfl Try.underlying26 Try.sizeOf3 Try.zeroValue3 rfl (by kernel_rfl) rfl (by decide) (by decide) hS ?_
    clear hS; intro A22 c22 w6 _ hS
    refine lw_call (f := 26) (xs := [_, _, _, _]) rfl rfl rfl Try.call26 rfl (Calls.mono (f26 (makeF n06) q (resL n06 []) [3, 1, 0] 1 A6 c6 A22 c22 _ (makeF_wf ok06) (hS.cs q) (hS.rd A6 (by rw [m06]; decide)) (hS.rd A22 (by decide))) ?_)
    rintro e w' ⟨b, m, ok, rfl, hg, hL⟩
    obtain ⟨rfl, rfl, rfl⟩ := least_unique hL least06
    replace hS := hS.grow hg; clear hg
    refine ⟨_, rfl, ?_⟩
    refine lw_v rfl rfl (ok_move rfl (.n rfl) rfl) ?_
    refine lw_v rfl rfl (ok_extract rfl (.n rfl) rfl rfl) ?_
    refine lw_v rfl rfl (ok_extract rfl (.n rfl) rfl rfl) ?_
    refine lw_v rfl rfl (ok_extract rfl (.n rfl) rfl rfl) ?_
    refine lw_v rfl rfl (ok_assign rfl (.n rfl) rfl) ?_
    refine lw_v rfl rfl (ok_assign rfl (.n rfl) rfl) ?_
    refine lw_v rfl rfl (ok_assign rfl (.n rfl) rfl) ?_
    refine lw_nil ?_
    refine Ends.keep [(2, .eq _), (3, .eq _), (4, .eq _), (5, .eq _), (6, .eq _)] (.cons rfl (.cons rfl (.cons rfl (.cons rfl (.cons rfl .nil))))) ?_
    refine ends_then ?_
    refine cw_seq ?_
    -- region 6
    refine cw_region ?_
    refine lw_v rfl rfl (ok_ldS rfl (.n rfl) rfl Try.isAgg29 Try.sizeOf29 hS rfl) ?_
    refine lw_v rfl rfl (ok_move rfl (.n rfl) rfl) ?_
    refine lw_ls (enc := (eInt .i64)) [3, 1, 0] rfl rfl rfl Try.underlying26 Try.sizeOf3 Try.zeroValue3 rfl (by kernel_rfl) rfl (by decide) (by decide) hS ?_
    clear hS; intro A29 c29 w7 _ hS
    refine lw_call (f := 35) (xs := [_, _, _]) rfl rfl rfl Try.call35 rfl (Calls.mono (f35 (makeF n06) q (resL n06 []) [3, 1, 0] A6 c6 A29 c29 _ (makeF_wf ok06) (hS.cs q) (hS.rd A6 (by rw [m06]; decide)) (hS.rd A29 (by decide))) ?_)
    rintro e w' ⟨rfl, hg⟩
    replace hS := hS.grow hg; clear hg
    rw [valid06]
    refine ⟨_, rfl, ?_⟩
    refine lw_v rfl rfl (ok_move rfl (.n rfl) rfl) ?_
    refine lw_on (.s rfl rfl) rfl ?_
    refine lw_v rfl rfl (ok_ldS rfl (.n rfl) rfl Try.isAgg29 Try.sizeOf29 hS rfl) ?_
    refine lw_on (.s rfl rfl) rfl ?_
    refine lw_v rfl rfl (ok_move rfl (.n rfl) rfl) ?_
    refine lw_on (.s rfl rfl) rfl ?_
    refine lw_ls (enc := (eInt .i64)) [3, 1, 0] rfl rfl rfl Try.underlying26 Try.sizeOf3 Try.zeroValue3 rfl (by kernel_rfl) rfl (by decide) (by decide) hS ?_
    clear hS; intro A34 c34 w8 _ hS
    refine lw_on (.s rfl rfl) rfl ?_
    refine lw_call (f := 33) (xs := [_, _, _]) rfl rfl rfl Try.call33 rfl (Calls.mono (f33 (makeF n06) q (resL n06 []) [3, 1, 0] A6 c6 A34 c34 _ (makeF_wf ok06) (hS.cs q) (hS.rd A6 (by rw [m06]; decide)) (hS.rd A34 (by decide))) ?_)
    rw [flat06]
    rintro e w' ⟨A35, c35, rfl, hg, hfr, ho⟩
    replace hS := hS.new hg _ ho hfr; clear hg ho hfr
    refine ⟨_, rfl, ?_⟩
    refine lw_on (.s rfl rfl) rfl ?_
    refine lw_ls (enc := (eInt .i64)) [2] rfl rfl rfl Try.underlying26 Try.sizeOf3 Try.zeroValue3 rfl (by kernel_rfl) rfl (by decide) (by decide) hS ?_
    clear hS; intro A36 c36 w9 _ hS
    refine lw_on (.s rfl rfl) rfl ?_
    refine lw_call (f := 30) (xs := [_, _]) rfl rfl rfl Try.call30 rfl (Calls.mono (f30 A35 c35 [2] A36 c36 [2] _ (hS.rd A35 (by decide)) (hS.rd A36 (by decide))) ?_)
    rintro e w' ⟨rfl, hg⟩
    replace hS := hS.grow hg; clear hg
    refine ⟨_, rfl, ?_⟩
    refine lw_v rfl rfl (ok_pick rfl rfl rfl rfl rfl) ?_
    refine lw_v rfl rfl (ok_move rfl (.n rfl) rfl) ?_
    refine lw_on (.s rfl rfl) rfl ?_
    refine lw_v rfl rfl (ok_ldS rfl (.n rfl) rfl Try.isAgg29 Try.sizeOf29 hS rfl) ?_
    refine lw_on (.s rfl rfl) rfl ?_
    refine lw_v rfl rfl (ok_move rfl (.n rfl) rfl) ?_
    refine lw_on (.s rfl rfl) rfl ?_
    refine lw_ls (enc := (eInt .i64)) [3, 2, 0] rfl rfl rfl Try.underlying26 Try.sizeOf3 Try.zeroValue3 rfl (by kernel_rfl) rfl (by decide) (by decide) hS ?_
    clear hS; intro A42 c42 w10 _ hS
    refine lw_on (.s rfl rfl) rfl ?_
    refine lw_call (f := 31) (xs := [_, _, _]) rfl rfl rfl Try.call31 rfl (Calls.mono (f31 (makeF n06) q (resL n06 []) [3, 2, 0] A6 c6 A42 c42 _ (makeF_wf ok06) (hS.cs q) (hS.rd A6 (by rw [m06]; decide)) (hS.rd A42 (by decide))) ?_)
    rw [steep06]
    rintro e w' ⟨A43, c43, rfl, hg, hfr, ho⟩
    replace hS := hS.new hg _ ho hfr; clear hg ho hfr
    refine ⟨_, rfl, ?_⟩
    refine lw_on (.s rfl rfl) rfl ?_
    refine lw_ls (enc := (eInt .i64)) [2] rfl rfl rfl Try.underlying26 Try.sizeOf3 Try.zeroValue3 rfl (by kernel_rfl) rfl (by decide) (by decide) hS ?_
    clear hS; intro A44 c44 w11 _ hS
    refine lw_on (.s rfl rfl) rfl ?_
    refine lw_call (f := 30) (xs := [_, _]) rfl rfl rfl Try.call30 rfl (Calls.mono (f30 A43 c43 [2] A44 c44 [2] _ (hS.rd A43 (by decide)) (hS.rd A44 (by decide))) ?_)
    rintro e w' ⟨rfl, hg⟩
    replace hS := hS.grow hg; clear hg
    refine ⟨_, rfl, ?_⟩
    refine lw_v rfl rfl (ok_pick rfl rfl rfl rfl rfl) ?_
    refine lw_v rfl rfl (ok_move rfl (.n rfl) rfl) ?_
    refine lw_on (.s rfl rfl) rfl ?_
    refine lw_v rfl rfl (ok_ldS rfl (.n rfl) rfl Try.isAgg29 Try.sizeOf29 hS rfl) ?_
    refine lw_on (.s rfl rfl) rfl ?_
    refine lw_v rfl rfl (ok_move rfl (.n rfl) rfl) ?_
    refine lw_on (.s rfl rfl) rfl ?_
    refine lw_ls (enc := (eInt .i64)) [3, 0, 0] rfl rfl rfl Try.underlying26 Try.sizeOf3 Try.zeroValue3 rfl (by kernel_rfl) rfl (by decide) (by decide) hS ?_
    clear hS; intro A50 c50 w12 _ hS
    refine lw_on (.s rfl rfl) rfl ?_
    refine lw_call (f := 33) (xs := [_, _, _]) rfl rfl rfl Try.call33 rfl (Calls.mono (f33 (makeF n06) q (resL n06 []) [3, 0, 0] A6 c6 A50 c50 _ (makeF_wf ok06) (hS.cs q) (hS.rd A6 (by rw [m06]; decide)) (hS.rd A50 (by decide))) ?_)
    rw [none06]
    rintro e w' ⟨A51, c51, rfl, hg, hfr, ho⟩
    replace hS := hS.new hg _ ho hfr; clear hg ho hfr
    refine ⟨_, rfl, ?_⟩
    refine lw_on (.s rfl rfl) rfl ?_
    refine lw_v rfl rfl (ok_len rfl (.n rfl) Try.underlying26 rfl) ?_
    refine lw_on (.s rfl rfl) rfl ?_
    refine lw_v rfl rfl (ok_eql rfl (.n rfl) rfl rfl) ?_
    refine lw_v rfl rfl (ok_pick rfl rfl rfl rfl rfl) ?_
    refine lw_v rfl rfl (ok_move rfl (.n rfl) rfl) ?_
    refine lw_on (.s rfl rfl) rfl ?_
    refine lw_v rfl rfl (ok_move rfl (.n rfl) rfl) ?_
    refine lw_on (.s rfl rfl) rfl ?_
    refine lw_v rfl rfl (ok_eql rfl (.n rfl) rfl rfl) ?_
    refine lw_v rfl rfl (ok_pick rfl rfl rfl rfl rfl) ?_
    refine lw_v rfl rfl (ok_move rfl (.n rfl) rfl) ?_
    refine lw_on (.s rfl rfl) rfl ?_
    refine lw_v rfl rfl (ok_move rfl (.n rfl) rfl) ?_
    refine lw_on (.s rfl rfl) rfl ?_
    refine lw_v rfl rfl (ok_eql rfl (.n rfl) rfl rfl) ?_
    refine lw_v rfl rfl (ok_pick rfl rfl rfl rfl rfl) ?_
    refine lw_v rfl rfl (ok_move rfl (.n rfl) rfl) ?_
    refine lw_on (.s rfl rfl) rfl ?_
    refine lw_v rfl rfl (ok_move rfl (.n rfl) rfl) ?_
    refine lw_v rfl rfl (ok_pick rfl rfl rfl rfl rfl) ?_
    refine lw_v rfl rfl (ok_move rfl (.n rfl) rfl) ?_
    refine lw_on (.s rfl rfl) rfl ?_
    refine lw_v rfl rfl (ok_ldS rfl (.n rfl) rfl Try.isAgg29 Try.sizeOf29 hS rfl) ?_
    refine lw_on (.s rfl rfl) rfl ?_
    refine lw_ls (enc := (eInt .i64)) [3, 1, 0] rfl rfl rfl Try.underlying26 Try.sizeOf3 Try.zeroValue3 rfl (by kernel_rfl) rfl (by decide) (by decide) hS ?_
    clear hS; intro A68 c68 w13 _ hS
    refine lw_on (.s rfl rfl) rfl ?_
    refine lw_call (f := 37) (xs := [_, _]) rfl rfl rfl Try.call37 rfl (Calls.mono (f37 (makeF n06) q [3, 1, 0] A68 c68 _ (makeF_wf ok06) (hS.rd A68 (by decide))) ?_)
    rintro e w' ⟨rfl, hg⟩
    replace hS := hS.grow hg; clear hg
    rw [sum06]
    refine ⟨_, rfl, ?_⟩
    refine lw_on (.s rfl rfl) rfl ?_
    refine lw_v rfl rfl (ok_eql rfl (.n rfl) rfl rfl) ?_
    refine lw_v rfl rfl (ok_pick rfl rfl rfl rfl rfl) ?_
    refine lw_v rfl rfl (ok_assign rfl (.n rfl) rfl) ?_
    refine lw_nil ?_
    refine Ends.keep [(0, .eq _)] (.cons rfl .nil) ?_
    refine ends_then ?_
    refine cw_ret ?_
    exact end_ret (res1 Try.results39 rfl) ⟨rfl, hS.below⟩

end Go.Proofs.Ytnpgeohkmdcbkaa.Aq
