/- The walks of dist.Way and of dist.nearer. -/
import Derived.Test.YtnpgeohkmdcbkaaDist
import Derived.Test.YtnpgeohkmdcbkaaPlain13
import Derived.Test.YtnpgeohkmdcbkaaEng17
import Derived.Test.YtnpgeohkmdcbkaaLabC
namespace Go.Proofs.Ytnpgeohkmdcbkaa.Aq
open Go Go.RowKit

set_option maxRecDepth 10000 in
/-- dist.nearer. -/
theorem f92 (c : Cs) (q : Q6) (res D : List Int) (u : Nat) (A1 : Option Addr) (c1 : Nat) (A2 : Option Addr) (c2 : Nat) (w : World) (hwf : WF c) (hc : CsAt c q w) (hr : (sl (eInt .i64) 1 A1 res.length c1 res).p w) (hd : (sl (eInt .i64) 1 A2 D.length c2 D).p w) (hu : u < c.N) (hrl : res.length = c.Head.length) (hDl : D.length = c.N) :
    Calls Try.prog 92 #[csV c q, .slice A1 res.length c1, .slice A2 D.length c2, .int .i64 u] w fun e w' => ∃ z, e = .returned (.int .i64 z) ∧ Gr w w' ∧ ((∃ a : Nat, z = a ∧ NearR c res D u a) ∨ (z = -1 ∧ ∀ b, ¬ PN c res D u b)) := by
  refine calls_cw Try.func92 rfl Try.ntmps92 rfl ?_
  have hS := ((St.ofc hc).args (Nat.le_refl _) _ hr rfl).args (Nat.le_refl _) _ hd rfl
  have hM := hwf.m
  have hN := hwf.hi
  have hlo := hwf.lo
  have hfl := hwf.fl
  obtain ⟨hf0, hf1, hf2⟩ := seg_rng hwf hu
  refine cw_seq ?_
  -- region 0
  refine cw_region ?_
  refine lw_box rfl rfl rfl rfl hS ?_
  clear hS; intro b4 w1 _ _ hS
  refine lw_v rfl rfl (ok_assign rfl (.n rfl) rfl) ?_
  refine lw_nil ?_
  refine Ends.keep [(1, .eq _), (2, .eq _), (3, .eq _), (4, .eq _)] (.cons rfl (.cons rfl (.cons rfl (.cons rfl .nil)))) ?_
  refine ends_then ?_
  refine cw_seq ?_
  refine cw_seq ?_
  -- region 1
  refine cw_region ?_
  refine lw_v rfl rfl (ok_fb rfl (.n rfl) Try.underlying29 rfl Try.sizeOf26 (by decide) rfl) ?_
  refine lw_v rfl rfl (ok_ldb rfl (.n rfl) rfl Try.isAgg26 hS (by rfl)) ?_
  refine lw_v rfl rfl (ok_move rfl (.n rfl) rfl) ?_
  refine lw_v rfl rfl (ok_ix rfl (.n rfl) Try.underlying26 Try.sizeOf3 rfl rfl hS (fun _ => ⟨by omega, by omega⟩)) ?_
  refine lw_v rfl rfl (ok_eq (ok_ldx rfl (.n rfl) rfl Try.isAgg3 hS (fun _ => ⟨by omega, by omega⟩) (by rfl)) (c' := .int .i64 (((c.First.getD u 0).toNat : Nat) : Int)) (fun _ => congrArg (Value.int .i64) (Int.toNat_of_nonneg hf0).symm)) ?_
  refine lw_v rfl rfl (ok_assign rfl (.n rfl) rfl) ?_
  refine lw_nil ?_
  refine Ends.keep [(1, .eq _), (2, .eq _), (3, .eq _), (4, .eq _), (9, .eq _)] (.cons rfl (.cons rfl (.cons rfl (.cons rfl (.cons rfl .nil))))) ?_
  refine ends_then ?_
  refine cw_block ?_
  -- LOOP at region 2: changed live slots [9], kept [1, 2, 3, 4]
  refine cw_loop [(1, .eq _), (2, .eq _), (3, .eq _), (4, .eq _)] (fun a : Nat => [(9, .eq (.int .i64 a))]) (fun a w' => (c.First.getD u 0 ≤ a ∧ a ≤ c.First.getD (u + 1) 0 ∧ ∀ b, b < a → ¬ PN c res D u b) ∧ St w.heap.size w w' [bx b4 (csV c q).cells.toList 29, sl (eInt .i64) 1 A2 D.length c2 D, sl (eInt .i64) 1 A1 res.length c1 res, sl (eInt .i64) 1 q.a0 c.First.length q.c0 c.First, sl (eInt .i64) 1 q.a1 c.Head.length q.c1 c.Head, sl (eInt .i64) 1 q.a2 c.Rev.length q.c2 c.Rev, sl (eInt .i64) 1 q.a3 c.Cap.length q.c3 c.Cap, sl (eInt .i64) 1 q.a4 c.Arc.length q.c4 c.Arc, sl eBool 1 q.a5 c.Back.length q.c5 c.Back]) (fun a => (c.First.getD (u + 1) 0 - a).toNat) (c.First.getD u 0).toNat (.cons rfl (.cons rfl (.cons rfl (.cons rfl .nil)))) (.cons rfl (.cons rfl (.cons rfl (.cons rfl (.cons rfl .nil))))) ⟨⟨by omega, by omega, fun b hb hp => by have := hp.1; omega⟩, hS⟩ ?_
  clear hS
  rintro a wr ⟨⟨ha0, ha1, hno⟩, hS⟩
  refine cw_seq ?_
  refine cw_seq ?_
  -- region 2
  refine cw_region ?_
  refine lw_v rfl rfl (ok_move rfl (.n rfl) rfl) ?_
  refine lw_v rfl rfl (ok_fb rfl (.n rfl) Try.underlying29 rfl Try.sizeOf26 (by decide) rfl) ?_
  refine lw_v rfl rfl (ok_ldb rfl (.n rfl) rfl Try.isAgg26 hS (by rfl)) ?_
  refine lw_v rfl rfl (ok_move rfl (.n rfl) rfl) ?_
  refine lw_v rfl rfl (ok_addi rfl (.n rfl) rfl rfl (fun _ => ⟨by omega, by omega⟩)) ?_
  refine lw_v rfl rfl (ok_ix rfl (.n rfl) Try.underlying26 Try.sizeOf3 rfl rfl hS (fun _ => ⟨by omega, by omega⟩)) ?_
  refine lw_v rfl rfl (ok_ldx rfl (.n rfl) rfl Try.isAgg3 hS (fun _ => ⟨by omega, by omega⟩) (by rfl)) ?_
  refine lw_v rfl rfl (ok_lss rfl (.n rfl) rfl rfl) ?_
  refine lw_nil ?_
  refine Ends.keep [(1, .eq _), (2, .eq _), (3, .eq _), (4, .eq _), (9, .eq _), (22, .eq _)] (.cons rfl (.cons rfl (.cons rfl (.cons rfl (.cons rfl (.cons rfl .nil)))))) ?_
  refine ends_then ?_
  refine cw_cond rfl (fun h22 => ?_) (fun h22 => ?_)
  ·
    have hlt : (a : Int) < c.First.getD (u + 1) 0 := of_decide_eq_true h22
    have haM : a < c.Head.length := by omega
    have hhd : 0 ≤ c.Head.getD (a : Int).toNat 0 ∧ c.Head.getD (a : Int).toNat 0 < c.N := hwf.hd a haM
    refine cw_skip ?_
    refine ends_then ?_
    refine cw_seq ?_
    refine cw_block ?_
    refine cw_seq ?_
    -- region 4
    refine cw_draw (by kernel_rfl) (List.take 18 _) (List.drop 18 _) (List.take_append_drop 18 _).symm (by kernel_rfl) ?_
    refine free_v (ok_move rfl (.n rfl) rfl) ?_
    refine free_v (ok_move rfl (.n rfl) rfl) ?_
    refine free_v (ok_ix rfl (.n rfl) Try.underlying25 Try.sizeOf2 rfl rfl hS (fun _ => ⟨by omega, by omega⟩)) ?_
    refine free_v (ok_ldx rfl (.n rfl) rfl Try.isAgg2 hS (fun _ => ⟨by omega, by omega⟩) (by rfl)) ?_
    refine free_v (ok_gtr rfl (.n rfl) rfl rfl) ?_
    refine free_v (ok_move rfl (.n rfl) rfl) ?_
    refine free_v (ok_move rfl (.s rfl rfl) rfl) ?_
    refine free_v (ok_fb rfl (.s rfl rfl) Try.underlying29 rfl Try.sizeOf26 (by decide) rfl) ?_
    refine free_v (ok_ldb rfl (.s rfl rfl) rfl Try.isAgg26 hS (by rfl)) ?_
    refine free_v (ok_move rfl (.s rfl rfl) rfl) ?_
    refine free_v (ok_ix rfl (.s rfl rfl) Try.underlying26 Try.sizeOf3 rfl rfl hS (fun _ => ⟨by omega, by omega⟩)) ?_
    refine free_v (ok_ldx rfl (.s rfl rfl) rfl Try.isAgg3 hS (fun _ => ⟨by omega, by omega⟩) (by rfl)) ?_
    refine free_v (ok_ix rfl (.s rfl rfl) Try.underlying26 Try.sizeOf3 rfl rfl hS (fun _ => ⟨by omega, by omega⟩)) ?_
    refine free_v (ok_ldx rfl (.s rfl rfl) rfl Try.isAgg3 hS (fun _ => ⟨by omega, by omega⟩) (by rfl)) ?_
    refine free_v (ok_move rfl (.s rfl rfl) rfl) ?_
    refine free_v (ok_move rfl (.s rfl rfl) rfl) ?_
    refine free_v (ok_ix rfl (.s rfl rfl) Try.underlying26 Try.sizeOf3 rfl rfl hS (fun _ => ⟨by omega, by omega⟩)) ?_
    refine free_v (ok_ldx rfl (.s rfl rfl) rfl Try.isAgg3 hS (fun _ => ⟨by omega, by omega⟩) (by rfl)) ?_
    refine free_nil ?_
    intro w2 hg_; replace hS := hS.grow hg_; clear hg_
    refine lw_v rfl rfl (ok_lss rfl (.s rfl rfl) rfl rfl) ?_
    refine lw_v rfl rfl (ok_and rfl rfl rfl rfl) ?_
    refine lw_nil ?_
    refine Ends.keep [(1, .eq _), (2, .eq _), (3, .eq _), (4, .eq _), (9, .eq _), (44, .eq _)] (.cons rfl (.cons rfl (.cons rfl (.cons rfl (.cons rfl (.cons rfl .nil)))))) ?_
    refine ends_then ?_
    refine cw_cond rfl (fun h44 => ?_) (fun h44 => ?_)
    ·
      refine cw_seq ?_
      -- region 5
      refine cw_region ?_
      refine lw_v rfl rfl (ok_move rfl (.n rfl) rfl) ?_
      refine lw_v rfl rfl (ok_assign rfl (.n rfl) rfl) ?_
      refine lw_nil ?_
      refine Ends.keep [(8, .eq _)] (.cons rfl .nil) ?_
      refine ends_then ?_
      refine cw_ret ?_
      refine in_ret (then_ret (then_ret (in_ret (then_ret (?_)))))
      obtain ⟨h1, h2⟩ := and_of h44
      exact end_ret (res1 Try.results92 rfl) ⟨(a : Int), rfl, hS.below, .inl ⟨a, rfl, ⟨ha0, hlt, h1, h2⟩, hno⟩⟩
    ·
      refine cw_skip ?_
      refine in_normal (?_)
      refine ends_then ?_
      -- region 3
      refine cw_region ?_
      refine lw_v rfl rfl (ok_move rfl (.n rfl) rfl) ?_
      refine lw_v rfl rfl (ok_addi rfl (.n rfl) rfl rfl (fun _ => ⟨by omega, by omega⟩)) ?_
      refine lw_v rfl rfl (ok_assign rfl (.n rfl) rfl) ?_
      refine lw_nil ?_
      -- BACK
      refine ends_back (a + 1) (.cons rfl (.cons rfl (.cons rfl (.cons rfl (.cons rfl .nil))))) ⟨⟨by omega, by omega, fun b hb hp => ?_⟩, hS⟩ (by omega)
      rcases Nat.lt_or_ge b a with h | h
      · exact hno b h hp
      · have : b = a := by omega
        subst this; exact nand_of h44 hp.2.2
  ·
    have hge : ¬ (a : Int) < c.First.getD (u + 1) 0 := of_decide_eq_false h22
    refine cw_exit ?_
    refine then_exit (then_exit (in_exit (?_)))
    refine Ends.keep [] .nil ?_
    refine ends_then ?_
    refine cw_seq ?_
    -- region 6
    refine cw_region ?_
    refine lw_v rfl rfl (ok_assign rfl (.n rfl) rfl) ?_
    refine lw_nil ?_
    refine Ends.keep [(8, .eq _)] (.cons rfl .nil) ?_
    refine ends_then ?_
    refine cw_ret ?_
    exact end_ret (res1 Try.results92 rfl) ⟨-1, rfl, hS.below, .inr ⟨rfl, fun b hb => hno b (by have := hb.2.1; omega) hb⟩⟩

set_option maxRecDepth 10000 in
/-- dist.To, where it answers nothing. -/
theorem f41no (c : Cs) (q : Q6) (res : List Int) (t : Int) {m : Nat} (A1 : Option Addr) (c1 : Nat) (w : World) (hwf : WF c) (hc : CsAt c q w) (hr : (sl (eInt .i64) 1 A1 m c1 res).p w) (hno : inB c res t = false) : RetV 41 [csV c q, .slice A1 m c1, .int .i64 t] w (.slice none 0 0) := by
  refine calls_cw Try.func41 rfl Try.ntmps41 rfl ?_
  have hS := (St.ofc hc).args (Nat.le_refl _) _ hr rfl
  have hM := hwf.m
  have hN := hwf.hi
  have hlo := hwf.lo
  have hfl := hwf.fl
  have hrr := hr.2.1
  refine cw_seq ?_
  -- region 0
  refine cw_region ?_
  refine lw_box rfl rfl rfl rfl hS ?_
  clear hS; intro b3 w1 _ _ hS
  refine lw_box rfl rfl rfl rfl hS ?_
  clear hS; intro b4 w2 _ _ hS
  refine lw_v rfl rfl (ok_assign rfl (.n rfl) rfl) ?_
  refine lw_nil ?_
  refine Ends.keep [(2, .eq _), (3, .eq _), (4, .eq _)] (.cons rfl (.cons rfl (.cons rfl .nil))) ?_
  refine ends_then ?_
  refine cw_seq ?_
  refine cw_seq ?_
  -- region 1
  refine cw_region ?_
  refine lw_v rfl rfl (ok_ldS rfl (.n rfl) rfl Try.isAgg29 Try.sizeOf29 hS rfl) ?_
  refine lw_v rfl rfl (ok_ldb rfl (.n rfl) rfl Try.isAgg25 hS (by rfl)) ?_
  refine lw_v rfl rfl (ok_move rfl (.n rfl) rfl) ?_
  refine lw_call (f := 79) (xs := [_, _, _]) rfl rfl rfl Try.call79 rfl (Calls.mono (f79 c q res t A1 c1 _ hwf (hS.cs q) (hS.rd A1 hrr)) ?_)
  rintro e w' ⟨rfl, hg⟩
  replace hS := hS.grow hg; clear hg
  rw [hno]
  refine ⟨_, rfl, ?_⟩
  refine lw_v rfl rfl (ok_not rfl (.n rfl) rfl) ?_
  refine lw_nil ?_
  refine Ends.keep [(2, .eq _), (3, .eq _), (4, .eq _), (11, .eq _)] (.cons rfl (.cons rfl (.cons rfl (.cons rfl .nil)))) ?_
  refine ends_then ?_
  refine cw_cond rfl (fun h11 => ?_) (fun h11 => ?_)
  ·
    refine cw_seq ?_
    -- region 2
    refine cw_region ?_
    refine lw_v rfl rfl (ok_assign rfl (.n rfl) rfl) ?_
    refine lw_nil ?_
    refine Ends.keep [(6, .eq _)] (.cons rfl .nil) ?_
    refine ends_then ?_
    refine cw_ret ?_
    refine then_ret (?_)
    exact end_ret (res1 Try.results41 rfl) ⟨rfl, hS.below⟩
  ·
    cases h11

theorem ap16 {k : Nat} (h : k ≤ 16) : (k + 1) * 8 ≤ 140737488355328 := by omega
theorem ap16b {k : Nat} (h : k ≤ 16) : k + 1 ≤ 140737488355328 := by omega
theorem way_ix {s N : Int} {k : Nat} {b : Bool} (hg : ((b || decide (s < 0)) || decide (N ≤ s)) = false) (h : N = (k : Int)) : 0 ≤ s ∧ s < (k : Int) := by
  rw [Bool.or_eq_false_iff, Bool.or_eq_false_iff, decide_eq_false_iff_not, decide_eq_false_iff_not] at hg
  omega
theorem way_no {i : Bool} {s N d : Int} (h : i = true ∧ 0 ≤ s ∧ s < N ∧ d < N) (h2 : (((false || decide (s < 0)) || decide (N ≤ s)) || decide (d = N)) = true) : False := by
  rw [decide_eq_false (by omega), decide_eq_false (by omega), decide_eq_false (by omega)] at h2
  cases h2
theorem way_yes0 {s N d : Int} (h2 : (((false || decide (s < 0)) || decide (N ≤ s)) || decide (d = N)) = false) : 0 ≤ s ∧ s < N ∧ ¬ d = N := by
  rw [Bool.or_eq_false_iff, Bool.or_eq_false_iff, Bool.or_eq_false_iff, decide_eq_false_iff_not, decide_eq_false_iff_not, decide_eq_false_iff_not] at h2
  omega
theorem way_bad {c : Cs} {res D : List Int} {u a1 : Nat} {z : Int} (hz : (∃ a : Nat, z = a ∧ NearR c res D u a) ∨ (z = -1 ∧ ∀ b, ¬ PN c res D u b)) (h1 : NearR c res D u a1) (h : decide (z < 0) = true) : False := by
  have := of_decide_eq_true h
  rcases hz with ⟨a, rfl, _⟩ | ⟨_, h2⟩
  · omega
  · exact h2 a1 h1.1
theorem way_step {c : Cs} {res D : List Int} {u a x : Nat} (hna : NearR c res D u a) (hx : c.Head.getD a 0 = (x : Int)) (hd : D.getD x 0 = D.getD u 0 - 1) (h0 : 0 < D.getD u 0) : wayL c res D (D.getD u 0).toNat u = (a : Int) :: wayL c res D (D.getD x 0).toNat x := by
  have e : (D.getD u 0).toNat = (D.getD x 0).toNat + 1 := by omega
  rw [e]
  unfold wayL
  rw [nearA_eq hna, hx]
  cases h : (D.getD x 0).toNat <;> rfl
set_option maxRecDepth 10000 in
/-- dist.Way. -/
theorem f54 (c : Cs) (q : Q6) (res : List Int) (s t : Int) (A1 : Option Addr) (c1 : Nat) (w : World) (hwf : WF c) (hc : CsAt c q w) (hr : (sl (eInt .i64) 1 A1 res.length c1 res).p w) :
    Calls Try.prog 54 #[csV c q, .slice A1 res.length c1, .int .i64 s, .int .i64 t] w fun e w' => ∃ A c', e = .returned (.tuple #[.slice A (wayF c res s t).length c', .bool (wayB c res s t)]) ∧ Gr w w' ∧ (∀ b, (own (eInt .i64) 1 3 A (wayF c res s t).length c' (wayF c res s t)).fp b → w.heap.size ≤ b) ∧ (own (eInt .i64) 1 3 A (wayF c res s t).length c' (wayF c res s t)).p w' := by
  cases hin : inB c res t with
  | false =>
    refine calls_cw Try.func54 rfl Try.ntmps54 rfl ?_
    have hS := (St.ofc hc).args (Nat.le_refl _) _ hr rfl
    have hM := hwf.m
    have hN := hwf.hi
    have hlo := hwf.lo
    have hfl := hwf.fl
    have hrr := hr.2.1
    have hwb : wayB c res s t = false := by unfold wayB; rw [hin]; rfl
    unfold wayF
    rw [if_neg (by rw [hwb]; decide), hwb]
    refine cw_seq ?_
    -- region 0
    refine cw_region ?_
    refine lw_box rfl rfl rfl rfl hS ?_
    clear hS; intro b4 w1 _ _ hS
    refine lw_v rfl rfl (ok_assign rfl (.n rfl) rfl) ?_
    refine lw_v rfl rfl (ok_assign rfl (.n rfl) rfl) ?_
    refine lw_nil ?_
    refine Ends.keep [(1, .eq _), (2, .eq _), (3, .eq _), (4, .eq _)] (.cons rfl (.cons rfl (.cons rfl (.cons rfl .nil)))) ?_
    refine ends_then ?_
    refine cw_seq ?_
    -- region 1
    refine cw_region ?_
    refine lw_v rfl rfl (ok_ldS rfl (.n rfl) rfl Try.isAgg29 Try.sizeOf29 hS rfl) ?_
    refine lw_v rfl rfl (ok_move rfl (.n rfl) rfl) ?_
    refine lw_v rfl rfl (ok_move rfl (.n rfl) rfl) ?_
    refine lw_call (f := 41) (xs := [_, _, _]) rfl rfl rfl Try.call41 rfl (Calls.mono (f41no c q res t A1 c1 _ hwf (hS.cs q) (hS.rd A1 hrr) hin) ?_)
    rintro e w' ⟨rfl, hg⟩
    replace hS := hS.grow hg; clear hg
    replace hS := hS.nils (eInt .i64) 1
    refine ⟨_, rfl, ?_⟩
    refine lw_v rfl rfl (ok_assign rfl (.n rfl) rfl) ?_
    refine lw_nil ?_
    refine Ends.keep [(1, .eq _), (2, .eq _), (3, .eq _), (4, .eq _), (10, .eq _)] (.cons rfl (.cons rfl (.cons rfl (.cons rfl (.cons rfl .nil))))) ?_
    refine ends_then ?_
    refine cw_seq ?_
    refine cw_seq ?_
    -- region 2
    refine cw_draw (by kernel_rfl) (List.take 19 _) (List.drop 19 _) (List.take_append_drop 19 _).symm (by kernel_rfl) ?_
    refine free_v (ok_move rfl (.n rfl) rfl) ?_
    refine free_v (ok_eqnil rfl (.n rfl) Try.underlying26 rfl rfl) ?_
    refine free_v (ok_move rfl (.n rfl) rfl) ?_
    refine free_v (ok_move rfl (.s rfl rfl) rfl) ?_
    refine free_v (ok_lss rfl (.s rfl rfl) rfl rfl) ?_
    refine free_v (ok_or rfl rfl rfl rfl) ?_
    refine free_v (ok_move rfl (.n rfl) rfl) ?_
    refine free_v (ok_move rfl (.s rfl rfl) rfl) ?_
    refine free_v (ok_fb rfl (.s rfl rfl) Try.underlying29 rfl Try.sizeOf3 (by decide) rfl) ?_
    refine free_v (ok_ldb rfl (.s rfl rfl) rfl Try.isAgg3 hS (by rfl)) ?_
    refine free_v (ok_geq rfl (.s rfl rfl) rfl rfl) ?_
    refine free_v (ok_or rfl rfl rfl rfl) ?_
    refine free_v (ok_move rfl (.n rfl) rfl) ?_
    refine free_v (ok_move rfl (.s rfl rfl) rfl) ?_
    refine free_v (ok_move rfl (.s rfl rfl) rfl) ?_
    refine free_v (ok_ix rfl (.s rfl rfl) Try.underlying26 Try.sizeOf3 rfl rfl hS (fun hg => by cases hg)) ?_
    refine free_v (ok_ldx rfl (.s rfl rfl) rfl Try.isAgg3 hS (fun hg => by cases hg) (by rfl)) ?_
    refine free_v (ok_fb rfl (.s rfl rfl) Try.underlying29 rfl Try.sizeOf3 (by decide) rfl) ?_
    refine free_v (ok_ldb rfl (.s rfl rfl) rfl Try.isAgg3 hS (by rfl)) ?_
    refine free_nil ?_
    intro w2 hg_; replace hS := hS.grow hg_; clear hg_
    refine lw_v rfl rfl (ok_eql rfl (.s rfl rfl) rfl rfl) ?_
    refine lw_v rfl rfl (ok_or rfl rfl rfl rfl) ?_
    refine lw_nil ?_
    refine Ends.keep [(1, .eq _), (2, .eq _), (3, .eq _), (4, .eq _), (10, .eq _), (38, .eq _)] (.cons rfl (.cons rfl (.cons rfl (.cons rfl (.cons rfl (.cons rfl .nil)))))) ?_
    refine ends_then ?_
    refine cw_cond rfl (fun h38 => ?_) (fun h38 => ?_)
    ·
      replace hS := hS.nil (eInt .i64) 1 3
      refine cw_seq ?_
      -- region 3
      refine cw_region ?_
      refine lw_v rfl rfl (ok_assign rfl (.n rfl) rfl) ?_
      refine lw_v rfl rfl (ok_assign rfl (.n rfl) rfl) ?_
      refine lw_nil ?_
      refine Ends.keep [(8, .eq _), (9, .eq _)] (.cons rfl (.cons rfl .nil)) ?_
      refine ends_then ?_
      refine cw_ret ?_
      refine then_ret (?_)
      exact end_ret (res2 Try.results54 rfl rfl) ⟨none, 0, rfl, hS.below, fun b hb => hS.ge _ (.head _) rfl b hb, hS.ok _ (.head _)⟩
    ·
      cases h38
  | true =>
    refine calls_cw Try.func54 rfl Try.ntmps54 rfl ?_
    have hS := (St.ofc hc).args (Nat.le_refl _) _ hr rfl
    have hM := hwf.m
    have hN := hwf.hi
    have hlo := hwf.lo
    have hfl := hwf.fl
    have hrr := hr.2.1
    obtain ⟨hrl, ht0, htN⟩ := inB_iff.1 hin
    obtain ⟨v, rfl⟩ : ∃ v : Nat, t = (v : Int) := ⟨t.toNat, by omega⟩
    have hL := toL_low hin
    refine cw_seq ?_
    -- region 0
    refine cw_region ?_
    refine lw_box rfl rfl rfl rfl hS ?_
    clear hS; intro b4 w1 _ _ hS
    refine lw_v rfl rfl (ok_assign rfl (.n rfl) rfl) ?_
    refine lw_v rfl rfl (ok_assign rfl (.n rfl) rfl) ?_
    refine lw_nil ?_
    refine Ends.keep [(1, .eq _), (2, .eq _), (3, .eq _), (4, .eq _)] (.cons rfl (.cons rfl (.cons rfl (.cons rfl .nil)))) ?_
    refine ends_then ?_
    refine cw_seq ?_
    -- region 1
    refine cw_region ?_
    refine lw_v rfl rfl (ok_ldS rfl (.n rfl) rfl Try.isAgg29 Try.sizeOf29 hS rfl) ?_
    refine lw_v rfl rfl (ok_move rfl (.n rfl) rfl) ?_
    refine lw_v rfl rfl (ok_move rfl (.n rfl) rfl) ?_
    refine lw_call (f := 41) (xs := [_, _, _]) rfl rfl rfl Try.call41 rfl (Calls.mono (f41 c q res v A1 c1 _ hwf (hS.cs q) (hS.rd A1 hrr)) ?_)
    rintro e w' ⟨A17, c17, rfl, hg, hfr, ho⟩
    replace hS := hS.new hg _ ho hfr; clear hg ho hfr
    unfold wayF
    have hwb := wayB_iff (c := c) (res := res) (s := s) (t := (v : Int))
    have hL : Low c.N (Edge c res) (hTo c.N v) (toL c res v) := hL
    generalize toL c res (v : Int) = D at hS hL hwb ⊢
    have hDl := hL.len
    have hAn : A17.isNone = false := by
      obtain ⟨g0, hg0, _⟩ := own_nn (hS.ok _ (.head _)) (by omega)
      rw [hg0]; rfl
    replace hS := hS.freeze .here (by omega)
    refine ⟨_, rfl, ?_⟩
    refine lw_v rfl rfl (ok_assign rfl (.n rfl) rfl) ?_
    refine lw_nil ?_
    refine Ends.keep [(1, .eq _), (2, .eq _), (3, .eq _), (4, .eq _), (10, .eq _)] (.cons rfl (.cons rfl (.cons rfl (.cons rfl (.cons rfl .nil))))) ?_
    refine ends_then ?_
    refine cw_seq ?_
    refine cw_seq ?_
    -- region 2
    refine cw_draw (by kernel_rfl) (List.take 19 _) (List.drop 19 _) (List.take_append_drop 19 _).symm (by kernel_rfl) ?_
    refine free_v (ok_move rfl (.n rfl) rfl) ?_
    refine free_v (ok_eq (ok_eqnil rfl (.n rfl) Try.underlying26 rfl rfl) (c' := .bool false) (fun _ => congrArg Value.bool hAn)) ?_
    refine free_v (ok_move rfl (.n rfl) rfl) ?_
    refine free_v (ok_move rfl (.s rfl rfl) rfl) ?_
    refine free_v (ok_lss rfl (.s rfl rfl) rfl rfl) ?_
    refine free_v (ok_or rfl rfl rfl rfl) ?_
    refine free_v (ok_move rfl (.n rfl) rfl) ?_
    refine free_v (ok_move rfl (.s rfl rfl) rfl) ?_
    refine free_v (ok_fb rfl (.s rfl rfl) Try.underlying29 rfl Try.sizeOf3 (by decide) rfl) ?_
    refine free_v (ok_ldb rfl (.s rfl rfl) rfl Try.isAgg3 hS (by rfl)) ?_
    refine free_v (ok_geq rfl (.s rfl rfl) rfl rfl) ?_
    refine free_v (ok_or rfl rfl rfl rfl) ?_
    refine free_v (ok_move rfl (.n rfl) rfl) ?_
    refine free_v (ok_move rfl (.s rfl rfl) rfl) ?_
    refine free_v (ok_move rfl (.s rfl rfl) rfl) ?_
    refine free_v (ok_ix rfl (.s rfl rfl) Try.underlying26 Try.sizeOf3 rfl rfl hS (fun hg => way_ix hg (by omega))) ?_
    refine free_v (ok_ldx rfl (.s rfl rfl) rfl Try.isAgg3 hS (fun hg => way_ix hg (by omega)) (by rfl)) ?_
    refine free_v (ok_fb rfl (.s rfl rfl) Try.underlying29 rfl Try.sizeOf3 (by decide) rfl) ?_
    refine free_v (ok_ldb rfl (.s rfl rfl) rfl Try.isAgg3 hS (by rfl)) ?_
    refine free_nil ?_
    intro w2 hg_; replace hS := hS.grow hg_; clear hg_
    refine lw_v rfl rfl (ok_eql rfl (.s rfl rfl) rfl rfl) ?_
    refine lw_v rfl rfl (ok_or rfl rfl rfl rfl) ?_
    refine lw_nil ?_
    refine Ends.keep [(1, .eq _), (2, .eq _), (3, .eq _), (4, .eq _), (10, .eq _), (38, .eq _)] (.cons rfl (.cons rfl (.cons rfl (.cons rfl (.cons rfl (.cons rfl .nil)))))) ?_
    refine ends_then ?_
    refine cw_cond rfl (fun h38 => ?_) (fun h38 => ?_)
    ·
      have hno : ¬ wayB c res s v = true := fun h => way_no (hwb.1 h) h38
      rw [if_neg hno, Bool.eq_false_iff.2 hno]
      replace hS := hS.nil (eInt .i64) 1 3
      refine cw_seq ?_
      -- region 3
      refine cw_region ?_
      refine lw_v rfl rfl (ok_assign rfl (.n rfl) rfl) ?_
      refine lw_v rfl rfl (ok_assign rfl (.n rfl) rfl) ?_
      refine lw_nil ?_
      refine Ends.keep [(8, .eq _), (9, .eq _)] (.cons rfl (.cons rfl .nil)) ?_
      refine ends_then ?_
      refine cw_ret ?_
      refine then_ret (?_)
      exact end_ret (res2 Try.results54 rfl rfl) ⟨none, 0, rfl, hS.below, fun b hb => hS.ge _ (.head _) rfl b hb, hS.ok _ (.head _)⟩
    ·
      obtain ⟨hs0, hs1, hs2n⟩ := way_yes0 h38
      have hs3 := hL.le_N (v := s.toNat) (by omega)
      have hs2 : D.getD s.toNat 0 < c.N := by omega
      rw [if_pos (hwb.2 ⟨hin, hs0, hs1, hs2⟩), hwb.2 ⟨hin, hs0, hs1, hs2⟩]
      obtain ⟨s0, rfl⟩ : ∃ s0 : Nat, s = (s0 : Int) := ⟨s.toNat, by omega⟩
      have hsN : s0 < c.N := by omega
      have hsD : D.getD s0 0 < c.N := hs2
      refine cw_skip ?_
      refine ends_then ?_
      refine cw_seq ?_
      -- region 4
      refine cw_region ?_
      refine lw_v rfl rfl (ok_assign rfl (.n rfl) rfl) ?_
      refine lw_nil ?_
      refine Ends.keep [(1, .eq _), (2, .eq _), (3, .eq _), (4, .eq _), (10, .eq _), (11, .eq _)] (.cons rfl (.cons rfl (.cons rfl (.cons rfl (.cons rfl (.cons rfl .nil)))))) ?_
      refine ends_then ?_
      refine cw_seq ?_
      refine cw_seq ?_
      -- region 5
      refine cw_region ?_
      refine lw_v rfl rfl (ok_eq (ok_move rfl (.n rfl) rfl) (c' := .int .i64 (s0 : Int)) (fun _ => rfl)) ?_
      refine lw_v rfl rfl (ok_assign rfl (.n rfl) rfl) ?_
      refine lw_nil ?_
      refine Ends.keep [(1, .eq _), (3, .eq _), (4, .eq _), (10, .eq _), (11, .eq _), (12, .eq _)] (.cons rfl (.cons rfl (.cons rfl (.cons rfl (.cons rfl (.cons rfl .nil)))))) ?_
      refine ends_then ?_
      refine cw_block ?_
      -- LOOP at region 6: changed live slots [11, 12], kept [1, 3, 4, 10]
      refine cw_loop4 [(1, .eq _), (3, .eq _), (4, .eq _), (10, .eq _)] (fun (u : Nat) (A' : Option Addr) (c' : Nat) (out : List Int) => [(11, .eq (.slice A' out.length c')), (12, .eq (.int .i64 u))]) (fun u A' c' out w' => (u < c.N ∧ D.getD u 0 < c.N ∧ out.length ≤ 16 - (D.getD u 0).toNat ∧ out ++ wayL c res D (D.getD u 0).toNat u = wayL c res D (D.getD s0 0).toNat s0) ∧ St w.heap.size w w' [own (eInt .i64) 1 3 A' out.length c' out, sl (eInt .i64) 1 A17 D.length c17 D, bx b4 (csV c q).cells.toList 29, sl (eInt .i64) 1 A1 res.length c1 res, sl (eInt .i64) 1 q.a0 c.First.length q.c0 c.First, sl (eInt .i64) 1 q.a1 c.Head.length q.c1 c.Head, sl (eInt .i64) 1 q.a2 c.Rev.length q.c2 c.Rev, sl (eInt .i64) 1 q.a3 c.Cap.length q.c3 c.Cap, sl (eInt .i64) 1 q.a4 c.Arc.length q.c4 c.Arc, sl eBool 1 q.a5 c.Back.length q.c5 c.Back]) (fun u _ _ _ => (D.getD u 0).toNat) s0 none 0 [] (.cons rfl (.cons rfl (.cons rfl (.cons rfl .nil)))) (.cons rfl (.cons rfl (.cons rfl (.cons rfl (.cons rfl (.cons rfl .nil)))))) ⟨⟨hsN, hsD, Nat.zero_le _, rfl⟩, hS.nil (eInt .i64) 1 3⟩ ?_
      clear hS
      rintro u A' c' out wr ⟨⟨huN, huD, hol, how⟩, hS⟩
      have hu0 := hL.le_N huN
      have ho16 : out.length ≤ 16 := by omega
      refine cw_seq ?_
      refine cw_seq ?_
      -- region 6
      refine cw_region ?_
      refine lw_v rfl rfl (ok_move rfl (.n rfl) rfl) ?_
      refine lw_v rfl rfl (ok_move rfl (.n rfl) rfl) ?_
      refine lw_v rfl rfl (ok_neq rfl (.n rfl) rfl rfl) ?_
      refine lw_nil ?_
      refine Ends.keep [(1, .eq _), (3, .eq _), (4, .eq _), (10, .eq _), (11, .eq _), (12, .eq _), (42, .eq _)] (.cons rfl (.cons rfl (.cons rfl (.cons rfl (.cons rfl (.cons rfl (.cons rfl .nil))))))) ?_
      refine ends_then ?_
      refine cw_cond rfl (fun h42 => ?_) (fun h42 => ?_)
      ·
        have hne : u ≠ v := fun e => by subst e; simp at h42
        have hup : 0 < D.getD u 0 := by
          rcases hL.why u huN with e | ⟨w2, w1, _, e⟩
          · unfold hTo at e; rw [if_neg hne] at e; omega
          · have := hL.nn w2 w1; omega
        obtain ⟨a1, ha1⟩ := near_ex hwf hL huN hup huD
        refine cw_skip ?_
        refine ends_then ?_
        refine cw_block ?_
        refine cw_seq ?_
        -- region 7
        refine cw_region ?_
        refine lw_v rfl rfl (ok_ldS rfl (.n rfl) rfl Try.isAgg29 Try.sizeOf29 hS rfl) ?_
        refine lw_v rfl rfl (ok_move rfl (.n rfl) rfl) ?_
        refine lw_v rfl rfl (ok_move rfl (.n rfl) rfl) ?_
        refine lw_v rfl rfl (ok_move rfl (.n rfl) rfl) ?_
        refine lw_call (f := 92) (xs := [_, _, _, _]) rfl rfl rfl Try.call92 rfl (Calls.mono (f92 c q res D u A1 c1 A17 c17 _ hwf (hS.cs q) (hS.rd A1 hrr) (hS.rd A17 (by omega)) huN hrl hDl) ?_)
        rintro e w' ⟨z, rfl, hg, hz⟩
        replace hS := hS.grow hg; clear hg
        refine ⟨_, rfl, ?_⟩
        refine lw_v rfl rfl (ok_assign rfl (.n rfl) rfl) ?_
        refine lw_nil ?_
        refine Ends.keep [(1, .eq _), (3, .eq _), (4, .eq _), (10, .eq _), (11, .eq _), (13, .eq _)] (.cons rfl (.cons rfl (.cons rfl (.cons rfl (.cons rfl (.cons rfl .nil)))))) ?_
        refine ends_then ?_
        refine cw_seq ?_
        refine cw_seq ?_
        -- region 8
        refine cw_region ?_
        refine lw_v rfl rfl (ok_move rfl (.n rfl) rfl) ?_
        refine lw_v rfl rfl (ok_lss rfl (.n rfl) rfl rfl) ?_
        refine lw_nil ?_
        refine Ends.keep [(1, .eq _), (3, .eq _), (4, .eq _), (10, .eq _), (11, .eq _), (13, .eq _), (49, .eq _)] (.cons rfl (.cons rfl (.cons rfl (.cons rfl (.cons rfl (.cons rfl (.cons rfl .nil))))))) ?_
        refine ends_then ?_
        refine cw_cond rfl (fun h49 => ?_) (fun h49 => ?_)
        ·
          exact (way_bad hz ha1 h49).elim
        ·
          obtain ⟨a, rfl, hna⟩ : ∃ a : Nat, z = a ∧ NearR c res D u a := by
            rcases hz with h | ⟨h, _⟩
            · exact h
            · subst h; simp at h49
          clear hz
          obtain ⟨haM, hat, hxN', hxD'⟩ := near_is hwf hL huN hna.1
          obtain ⟨x, hx', hxN⟩ := head_at hwf haM
          have hx : c.Head.getD (a : Int).toNat 0 = (x : Int) := hx'
          have hxD : D.getD x 0 = D.getD u 0 - 1 := by rw [hx'] at hxD'; exact hxD'
          refine cw_skip ?_
          refine ends_then ?_
          refine cw_seq ?_
          -- region 10
          refine cw_region ?_
          refine lw_v rfl rfl (ok_move rfl (.n rfl) rfl) ?_
          refine lw_v rfl rfl (ok_move rfl (.n rfl) rfl) ?_
          refine lw_ls (enc := (eInt .i64)) [(a : Int)] rfl rfl rfl Try.underlying26 Try.sizeOf3 Try.zeroValue3 rfl (by kernel_rfl) rfl (by decide) (by decide) hS ?_
          clear hS; intro A52 c52 w3 _ hS
          refine lw_append (enc := (eInt .i64)) rfl rfl rfl Try.underlying26 info3 rfl rfl rfl hS (by decide) (ap16 ho16) (ap16b ho16) ?_
          intro A53 c53 w4 hS1; replace hS := hS1 _ (Rep.r); clear hS1
          refine lw_v rfl rfl (ok_assign rfl (.n rfl) rfl) ?_
          refine lw_nil ?_
          refine Ends.keep [(1, .eq _), (3, .eq _), (4, .eq _), (10, .eq _), (11, .eq _), (13, .eq _)] (.cons rfl (.cons rfl (.cons rfl (.cons rfl (.cons rfl (.cons rfl .nil)))))) ?_
          refine ends_then ?_
          -- region 11
          refine cw_region ?_
          refine lw_v rfl rfl (ok_fb rfl (.n rfl) Try.underlying29 rfl Try.sizeOf26 (by decide) rfl) ?_
          refine lw_v rfl rfl (ok_ldb rfl (.n rfl) rfl Try.isAgg26 hS (by rfl)) ?_
          refine lw_v rfl rfl (ok_move rfl (.n rfl) rfl) ?_
          refine lw_v rfl rfl (ok_ix rfl (.n rfl) Try.underlying26 Try.sizeOf3 rfl rfl hS (fun _ => ⟨by omega, by omega⟩)) ?_
          refine lw_v rfl rfl (ok_eq (ok_ldx rfl (.n rfl) rfl Try.isAgg3 hS (fun _ => ⟨by omega, by omega⟩) (by rfl)) (c' := .int .i64 (x : Int)) (fun _ => congrArg (Value.int .i64) hx)) ?_
          refine lw_v rfl rfl (ok_assign rfl (.n rfl) rfl) ?_
          refine lw_nil ?_
          refine in_normal (?_)
          -- BACK
          have hxlt : D.getD x 0 < c.N := by omega
          have hmu : (D.getD x 0).toNat < (D.getD u 0).toNat := by omega
          have hol2 : (out ++ [(a : Int)]).length ≤ 16 - (D.getD x 0).toNat := by rw [List.length_append, List.length_singleton]; omega
          refine ends_back4 x A53 c53 (out ++ [(a : Int)]) (.cons rfl (.cons rfl (.cons rfl (.cons rfl (.cons rfl (.cons rfl .nil)))))) ⟨⟨hxN, hxlt, hol2, ?_⟩, hS.tail⟩ hmu
          rw [← how, way_step hna hx' hxD hup, List.append_assoc]
          rfl
      ·
        refine cw_exit ?_
        refine then_exit (then_exit (in_exit (?_)))
        refine Ends.keep [(11, .eq _)] (.cons rfl .nil) ?_
        refine ends_then ?_
        refine cw_seq ?_
        -- region 12
        refine cw_region ?_
        refine lw_v rfl rfl (ok_move rfl (.n rfl) rfl) ?_
        refine lw_v rfl rfl (ok_assign rfl (.n rfl) rfl) ?_
        refine lw_v rfl rfl (ok_assign rfl (.n rfl) rfl) ?_
        refine lw_nil ?_
        refine Ends.keep [(8, .eq _), (9, .eq _)] (.cons rfl (.cons rfl .nil)) ?_
        refine ends_then ?_
        refine cw_ret ?_
        have huv : u = v := by
          have : decide ((u : Int) = v) = true := by simpa using h42
          have := of_decide_eq_true this
          omega
        have hout : out = wayL c res D (D.getD s0 0).toNat s0 := by
          rw [← how, huv, hL.at_t (by omega)]
          exact (List.append_nil _).symm
        refine end_ret (res2 Try.results54 rfl rfl) ⟨A', c', ?_, hS.below, ?_, ?_⟩
        · show _ = Ending.returned (.tuple #[.slice A' (wayL c res D (D.getD s0 0).toNat s0).length c', .bool true]); rw [← hout]
        · show ∀ b, (own (eInt .i64) 1 3 A' (wayL c res D (D.getD s0 0).toNat s0).length c' (wayL c res D (D.getD s0 0).toNat s0)).fp b → _; rw [← hout]; exact fun b hb => hS.ge _ (.head _) rfl b hb
        · show (own (eInt .i64) 1 3 A' (wayL c res D (D.getD s0 0).toNat s0).length c' (wayL c res D (D.getD s0 0).toNat s0)).p _; rw [← hout]; exact hS.ok _ (.head _)


end Go.Proofs.Ytnpgeohkmdcbkaa.Aq
