/- The walks of dist.Way and of dist.nearer. The walks of acequiaref05.To and From. The walks of acequiaref05.Way and Rows. No condition but those that each lemma names. -/
import Derived.Test.YtnpgeohkmdcbkaaB5
import Derived.Test.YtnpgeohkmdcbkaaB2
import Derived.Test.YtnpgeohkmdcbkaaB4
namespace Go.Proofs.Ytnpgeohkmdcbkaa.Aq
open Go Go.RowKit

set_option maxRecDepth 10000 in
/-- dist.nearer. -/
theorem f92 (c : Cs) (q : Q6) (res D : List Int) (u : Nat) (A1 : Option Addr) (c1 : Nat) (A2 : Option Addr) (c2 : Nat) (w : World) (hwf : WF c) (hc : CsAt c q w) (hr : (sl (eInt .i64) 1 A1 res.length c1 res).p w) (hd : (sl (eInt .i64) 1 A2 D.length c2 D).p w) (hu : u < c.N) (hrl : res.length = c.Head.length) (hDl : D.length = c.N) :
    Calls Try.prog 92 #[csV c q, .slice A1 res.length c1, .slice A2 D.length c2, .int .i64 u] w fun e w' => ∃ z, e = .returned (.int .i64 z) ∧ Gr w w' ∧ ((∃ a : Nat, z = a ∧ NearR c res D u a) ∨ (z = -1 ∧ ∀ b, ¬ PN c res D u b)) := by
  refine calls_cw Try.func92 rfl Try.ntmps92 rfl ?_
  have hS := ((St.ofc hc).args (Nat.le_refl _) _ hr rfl).args (Nat.le_refl _) _ hd rfl
  have hM := hwf.m
  have hN := hwf.hi
  have hlo := hwf.lo
  have hfl := hwf.fl
  obtain ⟨hf0, hf1, hf2⟩ := seg_rng hwf hu
  refine cw_seq ?_
  -- region 0
  refine cw_region ?_
  refine lw_box rfl rfl rfl rfl hS ?_
  clear hS; intro b4 w1 _ _ hS
  refine lw_v rfl rfl (ok_assign rfl (.n rfl) rfl) ?_
  refine lw_nil ?_
  refine Ends.keep [(1, .eq _), (2, .eq _), (3, .eq _), (4, .eq _)] (.cons rfl (.cons rfl (.cons rfl (.cons rfl .nil)))) ?_
  refine ends_then ?_
  refine cw_seq ?_
  refine cw_seq ?_
  -- region 1
  refine cw_region ?_
  refine lw_v rfl rfl (ok_fb rfl (.n rfl) Try.underlying29 rfl Try.sizeOf26 (by decide) rfl) ?_
  refine lw_v rfl rfl (ok_ldb rfl (.n rfl) rfl Try.isAgg26 hS (by rfl)) ?_
  refine lw_v rfl rfl (ok_move rfl (.n rfl) rfl) ?_
  refine lw_v rfl rfl (ok_ix rfl (.n rfl) Try.underlying26 Try.sizeOf3 rfl rfl hS (fun _ => ⟨by omega, by omega⟩)) ?_
  refine lw_v rfl rfl (ok_eq (ok_ldx rfl (.n rfl) rfl Try.isAgg3 hS (fun _ => ⟨by omega, by omega⟩) (by rfl)) (c' := .int .i64 (((c.First.getD u 0).toNat : Nat) : Int)) (fun _ => congrArg (Value.int .i64) (Int.toNat_of_nonneg hf0).symm)) ?_
  refine lw_v rfl rfl (ok_assign rfl (.n rfl) rfl) ?_
  refine lw_nil ?_
  refine Ends.keep [(1, .eq _), (2, .eq _), (3, .eq _), (4, .eq _), (9, .eq _)] (.cons rfl (.cons rfl (.cons rfl (.cons rfl (.cons rfl .nil))))) ?_
  refine ends_then ?_
  refine cw_block ?_
  -- LOOP at region 2: changed live slots [9], kept [1, 2, 3, 4]
  refine cw_loop [(1, .eq _), (2, .eq _), (3, .eq _), (4, .eq _)] (fun a : Nat => [(9, .eq (.int .i64 a))]) (fun a w' => (c.First.getD u 0 ≤ a ∧ a ≤ c.First.getD (u + 1) 0 ∧ ∀ b, b < a → ¬ PN c res D u b) ∧ St w.heap.size w w' [bx b4 (csV c q).cells.toList 29, sl (eInt .i64) 1 A2 D.length c2 D, sl (eInt .i64) 1 A1 res.length c1 res, sl (eInt .i64) 1 q.a0 c.First.length q.c0 c.First, sl (eInt .i64) 1 q.a1 c.Head.length q.c1 c.Head, sl (eInt .i64) 1 q.a2 c.Rev.length q.c2 c.Rev, sl (eInt .i64) 1 q.a3 c.Cap.length q.c3 c.Cap, sl (eInt .i64) 1 q.a4 c.Arc.length q.c4 c.Arc, sl eBool 1 q.a5 c.Back.length q.c5 c.Back]) (fun a => (c.First.getD (u + 1) 0 - a).toNat) (c.First.getD u 0).toNat (.cons rfl (.cons rfl (.cons rfl (.cons rfl .nil)))) (.cons rfl (.cons rfl (.cons rfl (.cons rfl (.cons rfl .nil))))) ⟨⟨by omega, by omega, fun b hb hp => by have := hp.1; omega⟩, hS⟩ ?_
  clear hS
  rintro a wr ⟨⟨ha0, ha1, hno⟩, hS⟩
  refine cw_seq ?_
  refine cw_seq ?_
  -- region 2
  refine cw_region ?_
  refine lw_v rfl rfl (ok_move rfl (.n rfl) rfl) ?_
  refine lw_v rfl rfl (ok_fb rfl (.n rfl) Try.underlying29 rfl Try.sizeOf26 (by decide) rfl) ?_
  refine lw_v rfl rfl (ok_ldb rfl (.n rfl) rfl Try.isAgg26 hS (by rfl)) ?_
  refine lw_v rfl rfl (ok_move rfl (.n rfl) rfl) ?_
  refine lw_v rfl rfl (ok_addi rfl (.n rfl) rfl rfl (fun _ => ⟨by omega, by omega⟩)) ?_
  refine lw_v rfl rfl (ok_ix rfl (.n rfl) Try.underlying26 Try.sizeOf3 rfl rfl hS (fun _ => ⟨by omega, by omega⟩)) ?_
  refine lw_v rfl rfl (ok_ldx rfl (.n rfl) rfl Try.isAgg3 hS (fun _ => ⟨by omega, by omega⟩) (by rfl)) ?_
  refine lw_v rfl rfl (ok_lss rfl (.n rfl) rfl rfl) ?_
  refine lw_nil ?_
  refine Ends.keep [(1, .eq _), (2, .eq _), (3, .eq _), (4, .eq _), (9, .eq _), (22, .eq _)] (.cons rfl (.cons rfl (.cons rfl (.cons rfl (.cons rfl (.cons rfl .nil)))))) ?_
  refine ends_then ?_
  refine cw_cond rfl (fun h22 => ?_) (fun h22 => ?_)
  ·
    have hlt : (a : Int) < c.First.getD (u + 1) 0 := of_decide_eq_true h22
    have haM : a < c.Head.length := by omega
    have hhd : 0 ≤ c.Head.getD (a : Int).toNat 0 ∧ c.Head.getD (a : Int).toNat 0 < c.N := hwf.hd a haM
    refine cw_skip ?_
    refine ends_then ?_
    refine cw_seq ?_
    refine cw_block ?_
    refine cw_seq ?_
    -- region 4
    refine cw_draw (by kernel_rfl) (List.take 18 _) (List.drop 18 _) (List.take_append_drop 18 _).symm (by kernel_rfl) ?_
    refine free_v (ok_move rfl (.n rfl) rfl) ?_
    refine free_v (ok_move rfl (.n rfl) rfl) ?_
    refine free_v (ok_ix rfl (.n rfl) Try.underlying25 Try.sizeOf2 rfl rfl hS (fun _ => ⟨by omega, by omega⟩)) ?_
    refine free_v (ok_ldx rfl (.n rfl) rfl Try.isAgg2 hS (fun _ => ⟨by omega, by omega⟩) (by rfl)) ?_
    refine free_v (ok_gtr rfl (.n rfl) rfl rfl) ?_
    refine free_v (ok_move rfl (.n rfl) rfl) ?_
    refine free_v (ok_move rfl (.s rfl rfl) rfl) ?_
    refine free_v (ok_fb rfl (.s rfl rfl) Try.underlying29 rfl Try.sizeOf26 (by decide) rfl) ?_
    refine free_v (ok_ldb rfl (.s rfl rfl) rfl Try.isAgg26 hS (by rfl)) ?_
    refine free_v (ok_move rfl (.s rfl rfl) rfl) ?_
    refine free_v (ok_ix rfl (.s rfl rfl) Try.underlying26 Try.sizeOf3 rfl rfl hS (fun _ => ⟨by omega, by omega⟩)) ?_
    refine free_v (ok_ldx rfl (.s rfl rfl) rfl Try.isAgg3 hS (fun _ => ⟨by omega, by omega⟩) (by rfl)) ?_
    refine free_v (ok_ix rfl (.s rfl rfl) Try.underlying26 Try.sizeOf3 rfl rfl hS (fun _ => ⟨by omega, by omega⟩)) ?_
    refine free_v (ok_ldx rfl (.s rfl rfl) rfl Try.isAgg3 hS (fun _ => ⟨by omega, by omega⟩) (by rfl)) ?_
    refine free_v (ok_move rfl (.s rfl rfl) rfl) ?_
    refine free_v (ok_move rfl (.s rfl rfl) rfl) ?_
    refine free_v (ok_ix rfl (.s rfl rfl) Try.underlying26 Try.sizeOf3 rfl rfl hS (fun _ => ⟨by omega, by omega⟩)) ?_
    refine free_v (ok_ldx rfl (.s rfl rfl) rfl Try.isAgg3 hS (fun _ => ⟨by omega, by omega⟩) (by rfl)) ?_
    refine free_nil ?_
    intro w2 hg_; replace hS := hS.grow hg_; clear hg_
    refine lw_v rfl rfl (ok_lss rfl (.s rfl rfl) rfl rfl) ?_
    refine lw_v rfl rfl (ok_and rfl rfl rfl rfl) ?_
    refine lw_nil ?_
    refine Ends.keep [(1, .eq _), (2, .eq _), (3, .eq _), (4, .eq _), (9, .eq _), (44, .eq _)] (.cons rfl (.cons rfl (.cons rfl (.cons rfl (.cons rfl (.cons rfl .nil)))))) ?_
    refine ends_then ?_
    refine cw_cond rfl (fun h44 => ?_) (fun h44 => ?_)
    ·
      refine cw_seq ?_
      -- region 5
      refine cw_region ?_
      refine lw_v rfl rfl (ok_move rfl (.n rfl) rfl) ?_
      refine lw_v rfl rfl (ok_assign rfl (.n rfl) rfl) ?_
      refine lw_nil ?_
      refine Ends.keep [(8, .eq _)] (.cons rfl .nil) ?_
      refine ends_then ?_
      refine cw_ret ?_
      refine in_ret (then_ret (then_ret (in_ret (then_ret (?_)))))
      obtain ⟨h1, h2⟩ := and_of h44
      exact end_ret (res1 Try.results92 rfl) ⟨(a : Int), rfl, hS.below, .inl ⟨a, rfl, ⟨ha0, hlt, h1, h2⟩, hno⟩⟩
    ·
      refine cw_skip ?_
      refine in_normal (?_)
      refine ends_then ?_
      -- region 3
      refine cw_region ?_
      refine lw_v rfl rfl (ok_move rfl (.n rfl) rfl) ?_
      refine lw_v rfl rfl (ok_addi rfl (.n rfl) rfl rfl (fun _ => ⟨by omega, by omega⟩)) ?_
      refine lw_v rfl rfl (ok_assign rfl (.n rfl) rfl) ?_
      refine lw_nil ?_
      -- BACK
      refine ends_back (a + 1) (.cons rfl (.cons rfl (.cons rfl (.cons rfl (.cons rfl .nil))))) ⟨⟨by omega, by omega, fun b hb hp => ?_⟩, hS⟩ (by omega)
      rcases Nat.lt_or_ge b a with h | h
      · exact hno b h hp
      · have : b = a := by omega
        subst this; exact nand_of h44 hp.2.2
  ·
    have hge : ¬ (a : Int) < c.First.getD (u + 1) 0 := of_decide_eq_false h22
    refine cw_exit ?_
    refine then_exit (then_exit (in_exit (?_)))
    refine Ends.keep [] .nil ?_
    refine ends_then ?_
    refine cw_seq ?_
    -- region 6
    refine cw_region ?_
    refine lw_v rfl rfl (ok_assign rfl (.n rfl) rfl) ?_
    refine lw_nil ?_
    refine Ends.keep [(8, .eq _)] (.cons rfl .nil) ?_
    refine ends_then ?_
    refine cw_ret ?_
    exact end_ret (res1 Try.results92 rfl) ⟨-1, rfl, hS.below, .inr ⟨rfl, fun b hb => hno b (by have := hb.2.1; omega) hb⟩⟩

set_option maxRecDepth 10000 in
/-- dist.To, where it answers nothing. -/
theorem f41no (c : Cs) (q : Q6) (res : List Int) (t : Int) {m : Nat} (A1 : Option Addr) (c1 : Nat) (w : World) (hwf : WF c) (hc : CsAt c q w) (hr : (sl (eInt .i64) 1 A1 m c1 res).p w) (hno : inB c res t = false) : RetV 41 [csV c q, .slice A1 m c1, .int .i64 t] w (.slice none 0 0) := by
  refine calls_cw Try.func41 rfl Try.ntmps41 rfl ?_
  have hS := (St.ofc hc).args (Nat.le_refl _) _ hr rfl
  have hM := hwf.m
  have hN := hwf.hi
  have hlo := hwf.lo
  have hfl := hwf.fl
  have hrr := hr.2.1
  refine cw_seq ?_
  -- region 0
  refine cw_region ?_
  refine lw_box rfl rfl rfl rfl hS ?_
  clear hS; intro b3 w1 _ _ hS
  refine lw_box rfl rfl rfl rfl hS ?_
  clear hS; intro b4 w2 _ _ hS
  refine lw_v rfl rfl (ok_assign rfl (.n rfl) rfl) ?_
  refine lw_nil ?_
  refine Ends.keep [(2, .eq _), (3, .eq _), (4, .eq _)] (.cons rfl (.cons rfl (.cons rfl .nil))) ?_
  refine ends_then ?_
  refine cw_seq ?_
  refine cw_seq ?_
  -- region 1
  refine cw_region ?_
  refine lw_v rfl rfl (ok_ldS rfl (.n rfl) rfl Try.isAgg29 Try.sizeOf29 hS rfl) ?_
  refine lw_v rfl rfl (ok_ldb rfl (.n rfl) rfl Try.isAgg25 hS (by rfl)) ?_
  refine lw_v rfl rfl (ok_move rfl (.n rfl) rfl) ?_
  refine lw_call (f := 79) (xs := [_, _, _]) rfl rfl rfl Try.call79 rfl (Calls.mono (f79 c q res t A1 c1 _ hwf (hS.cs q) (hS.rd A1 hrr)) ?_)
  rintro e w' ⟨rfl, hg⟩
  replace hS := hS.grow hg; clear hg
  rw [hno]
  refine ⟨_, rfl, ?_⟩
  refine lw_v rfl rfl (ok_not rfl (.n rfl) rfl) ?_
  refine lw_nil ?_
  refine Ends.keep [(2, .eq _), (3, .eq _), (4, .eq _), (11, .eq _)] (.cons rfl (.cons rfl (.cons rfl (.cons rfl .nil)))) ?_
  refine ends_then ?_
  refine cw_cond rfl (fun h11 => ?_) (fun h11 => ?_)
  ·
    refine cw_seq ?_
    -- region 2
    refine cw_region ?_
    refine lw_v rfl rfl (ok_assign rfl (.n rfl) rfl) ?_
    refine lw_nil ?_
    refine Ends.keep [(6, .eq _)] (.cons rfl .nil) ?_
    refine ends_then ?_
    refine cw_ret ?_
    refine then_ret (?_)
    exact end_ret (res1 Try.results41 rfl) ⟨rfl, hS.below⟩
  ·
    cases h11

theorem ap16 {k : Nat} (h : k ≤ 16) : (k + 1) * 8 ≤ 140737488355328 := by omega
theorem ap16b {k : Nat} (h : k ≤ 16) : k + 1 ≤ 140737488355328 := by omega
theorem way_ix {s N : Int} {k : Nat} {b : Bool} (hg : ((b || decide (s < 0)) || decide (N ≤ s)) = false) (h : N = (k : Int)) : 0 ≤ s ∧ s < (k : Int) := by
  rw [Bool.or_eq_false_iff, Bool.or_eq_false_iff, decide_eq_false_iff_not, decide_eq_false_iff_not] at hg
  omega
theorem way_no {i : Bool} {s N d : Int} (h : i = true ∧ 0 ≤ s ∧ s < N ∧ d < N) (h2 : (((false || decide (s < 0)) || decide (N ≤ s)) || decide (d = N)) = true) : False := by
  rw [decide_eq_false (by omega), decide_eq_false (by omega), decide_eq_false (by omega)] at h2
  cases h2
theorem way_yes0 {s N d : Int} (h2 : (((false || decide (s < 0)) || decide (N ≤ s)) || decide (d = N)) = false) : 0 ≤ s ∧ s < N ∧ ¬ d = N := by
  rw [Bool.or_eq_false_iff, Bool.or_eq_false_iff, Bool.or_eq_false_iff, decide_eq_false_iff_not, decide_eq_false_iff_not, decide_eq_false_iff_not] at h2
  omega
theorem way_bad {c : Cs} {res D : List Int} {u a1 : Nat} {z : Int} (hz : (∃ a : Nat, z = a ∧ NearR c res D u a) ∨ (z = -1 ∧ ∀ b, ¬ PN c res D u b)) (h1 : NearR c res D u a1) (h : decide (z < 0) = true) : False := by
  have := of_decide_eq_true h
  rcases hz with ⟨a, rfl, _⟩ | ⟨_, h2⟩
  · omega
  · exact h2 a1 h1.1
theorem way_step {c : Cs} {res D : List Int} {u a x : Nat} (hna : NearR c res D u a) (hx : c.Head.getD a 0 = (x : Int)) (hd : D.getD x 0 = D.getD u 0 - 1) (h0 : 0 < D.getD u 0) : wayL c res D (D.getD u 0).toNat u = (a : Int) :: wayL c res D (D.getD x 0).toNat x := by
  have e : (D.getD u 0).toNat = (D.getD x 0).toNat + 1 := by omega
  rw [e]
  unfold wayL
  rw [nearA_eq hna, hx]
  cases h : (D.getD x 0).toNat <;> rfl
set_option maxRecDepth 10000 in
/-- dist.Way. -/
theorem f54 (c : Cs) (q : Q6) (res : List Int) (s t : Int) (A1 : Option Addr) (c1 : Nat) (w : World) (hwf : WF c) (hc : CsAt c q w) (hr : (sl (eInt .i64) 1 A1 res.length c1 res).p w) :
    Calls Try.prog 54 #[csV c q, .slice A1 res.length c1, .int .i64 s, .int .i64 t] w fun e w' => ∃ A c', e = .returned (.tuple #[.slice A (wayF c res s t).length c', .bool (wayB c res s t)]) ∧ Gr w w' ∧ (∀ b, (own (eInt .i64) 1 3 A (wayF c res s t).length c' (wayF c res s t)).fp b → w.heap.size ≤ b) ∧ (own (eInt .i64) 1 3 A (wayF c res s t).length c' (wayF c res s t)).p w' := by
  cases hin : inB c res t with
  | false =>
    refine calls_cw Try.func54 rfl Try.ntmps54 rfl ?_
    have hS := (St.ofc hc).args (Nat.le_refl _) _ hr rfl
    have hM := hwf.m
    have hN := hwf.hi
    have hlo := hwf.lo
    have hfl := hwf.fl
    have hrr := hr.2.1
    have hwb : wayB c res s t = false := by unfold wayB; rw [hin]; rfl
    unfold wayF
    rw [if_neg (by rw [hwb]; decide), hwb]
    refine cw_seq ?_
    -- region 0
    refine cw_region ?_
    refine lw_box rfl rfl rfl rfl hS ?_
    clear hS; intro b4 w1 _ _ hS
    refine lw_v rfl rfl (ok_assign rfl (.n rfl) rfl) ?_
    refine lw_v rfl rfl (ok_assign rfl (.n rfl) rfl) ?_
    refine lw_nil ?_
    refine Ends.keep [(1, .eq _), (2, .eq _), (3, .eq _), (4, .eq _)] (.cons rfl (.cons rfl (.cons rfl (.cons rfl .nil)))) ?_
    refine ends_then ?_
    refine cw_seq ?_
    -- region 1
    refine cw_region ?_
    refine lw_v rfl rfl (ok_ldS rfl (.n rfl) rfl Try.isAgg29 Try.sizeOf29 hS rfl) ?_
    refine lw_v rfl rfl (ok_move rfl (.n rfl) rfl) ?_
    refine lw_v rfl rfl (ok_move rfl (.n rfl) rfl) ?_
    refine lw_call (f := 41) (xs := [_, _, _]) rfl rfl rfl Try.call41 rfl (Calls.mono (f41no c q res t A1 c1 _ hwf (hS.cs q) (hS.rd A1 hrr) hin) ?_)
    rintro e w' ⟨rfl, hg⟩
    replace hS := hS.grow hg; clear hg
    replace hS := hS.nils (eInt .i64) 1
    refine ⟨_, rfl, ?_⟩
    refine lw_v rfl rfl (ok_assign rfl (.n rfl) rfl) ?_
    refine lw_nil ?_
    refine Ends.keep [(1, .eq _), (2, .eq _), (3, .eq _), (4, .eq _), (10, .eq _)] (.cons rfl (.cons rfl (.cons rfl (.cons rfl (.cons rfl .nil))))) ?_
    refine ends_then ?_
    refine cw_seq ?_
    refine cw_seq ?_
    -- region 2
    refine cw_draw (by kernel_rfl) (List.take 19 _) (List.drop 19 _) (List.take_append_drop 19 _).symm (by kernel_rfl) ?_
    refine free_v (ok_move rfl (.n rfl) rfl) ?_
    refine free_v (ok_eqnil rfl (.n rfl) Try.underlying26 rfl rfl) ?_
    refine free_v (ok_move rfl (.n rfl) rfl) ?_
    refine free_v (ok_move rfl (.s rfl rfl) rfl) ?_
    refine free_v (ok_lss rfl (.s rfl rfl) rfl rfl) ?_
    refine free_v (ok_or rfl rfl rfl rfl) ?_
    refine free_v (ok_move rfl (.n rfl) rfl) ?_
    refine free_v (ok_move rfl (.s rfl rfl) rfl) ?_
    refine free_v (ok_fb rfl (.s rfl rfl) Try.underlying29 rfl Try.sizeOf3 (by decide) rfl) ?_
    refine free_v (ok_ldb rfl (.s rfl rfl) rfl Try.isAgg3 hS (by rfl)) ?_
    refine free_v (ok_geq rfl (.s rfl rfl) rfl rfl) ?_
    refine free_v (ok_or rfl rfl rfl rfl) ?_
    refine free_v (ok_move rfl (.n rfl) rfl) ?_
    refine free_v (ok_move rfl (.s rfl rfl) rfl) ?_
    refine free_v (ok_move rfl (.s rfl rfl) rfl) ?_
    refine free_v (ok_ix rfl (.s rfl rfl) Try.underlying26 Try.sizeOf3 rfl rfl hS (fun hg => by cases hg)) ?_
    refine free_v (ok_ldx rfl (.s rfl rfl) rfl Try.isAgg3 hS (fun hg => by cases hg) (by rfl)) ?_
    refine free_v (ok_fb rfl (.s rfl rfl) Try.underlying29 rfl Try.sizeOf3 (by decide) rfl) ?_
    refine free_v (ok_ldb rfl (.s rfl rfl) rfl Try.isAgg3 hS (by rfl)) ?_
    refine free_nil ?_
    intro w2 hg_; replace hS := hS.grow hg_; clear hg_
    refine lw_v rfl rfl (ok_eql rfl (.s rfl rfl) rfl rfl) ?_
    refine lw_v rfl rfl (ok_or rfl rfl rfl rfl) ?_
    refine lw_nil ?_
    refine Ends.keep [(1, .eq _), (2, .eq _), (3, .eq _), (4, .eq _), (10, .eq _), (38, .eq _)] (.cons rfl (.cons rfl (.cons rfl (.cons rfl (.cons rfl (.cons rfl .nil)))))) ?_
    refine ends_then ?_
    refine cw_cond rfl (fun h38 => ?_) (fun h38 => ?_)
    ·
      replace hS := hS.nil (eInt .i64) 1 3
      refine cw_seq ?_
      -- region 3
      refine cw_region ?_
      refine lw_v rfl rfl (ok_assign rfl (.n rfl) rfl) ?_
      refine lw_v rfl rfl (ok_assign rfl (.n rfl) rfl) ?_
      refine lw_nil ?_
      refine Ends.keep [(8, .eq _), (9, .eq _)] (.cons rfl (.cons rfl .nil)) ?_
      refine ends_then ?_
      refine cw_ret ?_
      refine then_ret (?_)
      exact end_ret (res2 Try.results54 rfl rfl) ⟨none, 0, rfl, hS.below, fun b hb => hS.ge _ (.head _) rfl b hb, hS.ok _ (.head _)⟩
    ·
      cases h38
  | true =>
    refine calls_cw Try.func54 rfl Try.ntmps54 rfl ?_
    have hS := (St.ofc hc).args (Nat.le_refl _) _ hr rfl
    have hM := hwf.m
    have hN := hwf.hi
    have hlo := hwf.lo
    have hfl := hwf.fl
    have hrr := hr.2.1
    obtain ⟨hrl, ht0, htN⟩ := inB_iff.1 hin
    obtain ⟨v, rfl⟩ : ∃ v : Nat, t = (v : Int) := ⟨t.toNat, by omega⟩
    have hL := toL_low hin
    refine cw_seq ?_
    -- region 0
    refine cw_region ?_
    refine lw_box rfl rfl rfl rfl hS ?_
    clear hS; intro b4 w1 _ _ hS
    refine lw_v rfl rfl (ok_assign rfl (.n rfl) rfl) ?_
    refine lw_v rfl rfl (ok_assign rfl (.n rfl) rfl) ?_
    refine lw_nil ?_
    refine Ends.keep [(1, .eq _), (2, .eq _), (3, .eq _), (4, .eq _)] (.cons rfl (.cons rfl (.cons rfl (.cons rfl .nil)))) ?_
    refine ends_then ?_
    refine cw_seq ?_
    -- region 1
    refine cw_region ?_
    refine lw_v rfl rfl (ok_ldS rfl (.n rfl) rfl Try.isAgg29 Try.sizeOf29 hS rfl) ?_
    refine lw_v rfl rfl (ok_move rfl (.n rfl) rfl) ?_
    refine lw_v rfl rfl (ok_move rfl (.n rfl) rfl) ?_
    refine lw_call (f := 41) (xs := [_, _, _]) rfl rfl rfl Try.call41 rfl (Calls.mono (f41 c q res v A1 c1 _ hwf (hS.cs q) (hS.rd A1 hrr)) ?_)
    rintro e w' ⟨A17, c17, rfl, hg, hfr, ho⟩
    replace hS := hS.new hg _ ho hfr; clear hg ho hfr
    unfold wayF
    have hwb := wayB_iff (c := c) (res := res) (s := s) (t := (v : Int))
    have hL : Low c.N (Edge c res) (hTo c.N v) (toL c res v) := hL
    generalize toL c res (v : Int) = D at hS hL hwb ⊢
    have hDl := hL.len
    have hAn : A17.isNone = false := by
      obtain ⟨g0, hg0, _⟩ := own_nn (hS.ok _ (.head _)) (by omega)
      rw [hg0]; rfl
    replace hS := hS.freeze .here (by omega)
    refine ⟨_, rfl, ?_⟩
    refine lw_v rfl rfl (ok_assign rfl (.n rfl) rfl) ?_
    refine lw_nil ?_
    refine Ends.keep [(1, .eq _), (2, .eq _), (3, .eq _), (4, .eq _), (10, .eq _)] (.cons rfl (.cons rfl (.cons rfl (.cons rfl (.cons rfl .nil))))) ?_
    refine ends_then ?_
    refine cw_seq ?_
    refine cw_seq ?_
    -- region 2
    refine cw_draw (by kernel_rfl) (List.take 19 _) (List.drop 19 _) (List.take_append_drop 19 _).symm (by kernel_rfl) ?_
    refine free_v (ok_move rfl (.n rfl) rfl) ?_
    refine free_v (ok_eq (ok_eqnil rfl (.n rfl) Try.underlying26 rfl rfl) (c' := .bool false) (fun _ => congrArg Value.bool hAn)) ?_
    refine free_v (ok_move rfl (.n rfl) rfl) ?_
    refine free_v (ok_move rfl (.s rfl rfl) rfl) ?_
    refine free_v (ok_lss rfl (.s rfl rfl) rfl rfl) ?_
    refine free_v (ok_or rfl rfl rfl rfl) ?_
    refine free_v (ok_move rfl (.n rfl) rfl) ?_
    refine free_v (ok_move rfl (.s rfl rfl) rfl) ?_
    refine free_v (ok_fb rfl (.s rfl rfl) Try.underlying29 rfl Try.sizeOf3 (by decide) rfl) ?_
    refine free_v (ok_ldb rfl (.s rfl rfl) rfl Try.isAgg3 hS (by rfl)) ?_
    refine free_v (ok_geq rfl (.s rfl rfl) rfl rfl) ?_
    refine free_v (ok_or rfl rfl rfl rfl) ?_
    refine free_v (ok_move rfl (.n rfl) rfl) ?_
    refine free_v (ok_move rfl (.s rfl rfl) rfl) ?_
    refine free_v (ok_move rfl (.s rfl rfl) rfl) ?_
    refine free_v (ok_ix rfl (.s rfl rfl) Try.underlying26 Try.sizeOf3 rfl rfl hS (fun hg => way_ix hg (by omega))) ?_
    refine free_v (ok_ldx rfl (.s rfl rfl) rfl Try.isAgg3 hS (fun hg => way_ix hg (by omega)) (by rfl)) ?_
    refine free_v (ok_fb rfl (.s rfl rfl) Try.underlying29 rfl Try.sizeOf3 (by decide) rfl) ?_
    refine free_v (ok_ldb rfl (.s rfl rfl) rfl Try.isAgg3 hS (by rfl)) ?_
    refine free_nil ?_
    intro w2 hg_; replace hS := hS.grow hg_; clear hg_
    refine lw_v rfl rfl (ok_eql rfl (.s rfl rfl) rfl rfl) ?_
    refine lw_v rfl rfl (ok_or rfl rfl rfl rfl) ?_
    refine lw_nil ?_
    refine Ends.keep [(1, .eq _), (2, .eq _), (3, .eq _), (4, .eq _), (10, .eq _), (38, .eq _)] (.cons rfl (.cons rfl (.cons rfl (.cons rfl (.cons rfl (.cons rfl .nil)))))) ?_
    refine ends_then ?_
    refine cw_cond rfl (fun h38 => ?_) (fun h38 => ?_)
    ·
      have hno : ¬ wayB c res s v = true := fun h => way_no (hwb.1 h) h38
      rw [if_neg hno, Bool.eq_false_iff.2 hno]
      replace hS := hS.nil (eInt .i64) 1 3
      refine cw_seq ?_
      -- region 3
      refine cw_region ?_
      refine lw_v rfl rfl (ok_assign rfl (.n rfl) rfl) ?_
      refine lw_v rfl rfl (ok_assign rfl (.n rfl) rfl) ?_
      refine lw_nil ?_
      refine Ends.keep [(8, .eq _), (9, .eq _)] (.cons rfl (.cons rfl .nil)) ?_
      refine ends_then ?_
      refine cw_ret ?_
      refine then_ret (?_)
      exact end_ret (res2 Try.results54 rfl rfl) ⟨none, 0, rfl, hS.below, fun b hb => hS.ge _ (.head _) rfl b hb, hS.ok _ (.head _)⟩
    ·
      obtain ⟨hs0, hs1, hs2n⟩ := way_yes0 h38
      have hs3 := hL.le_N (v := s.toNat) (by omega)
      have hs2 : D.getD s.toNat 0 < c.N := by omega
      rw [if_pos (hwb.2 ⟨hin, hs0, hs1, hs2⟩), hwb.2 ⟨hin, hs0, hs1, hs2⟩]
      obtain ⟨s0, rfl⟩ : ∃ s0 : Nat, s = (s0 : Int) := ⟨s.toNat, by omega⟩
      have hsN : s0 < c.N := by omega
      have hsD : D.getD s0 0 < c.N := hs2
      refine cw_skip ?_
      refine ends_then ?_
      refine cw_seq ?_
      -- region 4
      refine cw_region ?_
      refine lw_v rfl rfl (ok_assign rfl (.n rfl) rfl) ?_
      refine lw_nil ?_
      refine Ends.keep [(1, .eq _), (2, .eq _), (3, .eq _), (4, .eq _), (10, .eq _), (11, .eq _)] (.cons rfl (.cons rfl (.cons rfl (.cons rfl (.cons rfl (.cons rfl .nil)))))) ?_
      refine ends_then ?_
      refine cw_seq ?_
      refine cw_seq ?_
      -- region 5
      refine cw_region ?_
      refine lw_v rfl rfl (ok_eq (ok_move rfl (.n rfl) rfl) (c' := .int .i64 (s0 : Int)) (fun _ => rfl)) ?_
      refine lw_v rfl rfl (ok_assign rfl (.n rfl) rfl) ?_
      refine lw_nil ?_
      refine Ends.keep [(1, .eq _), (3, .eq _), (4, .eq _), (10, .eq _), (11, .eq _), (12, .eq _)] (.cons rfl (.cons rfl (.cons rfl (.cons rfl (.cons rfl (.cons rfl .nil)))))) ?_
      refine ends_then ?_
      refine cw_block ?_
      -- LOOP at region 6: changed live slots [11, 12], kept [1, 3, 4, 10]
      refine cw_loop4 [(1, .eq _), (3, .eq _), (4, .eq _), (10, .eq _)] (fun (u : Nat) (A' : Option Addr) (c' : Nat) (out : List Int) => [(11, .eq (.slice A' out.length c')), (12, .eq (.int .i64 u))]) (fun u A' c' out w' => (u < c.N ∧ D.getD u 0 < c.N ∧ out.length ≤ 16 - (D.getD u 0).toNat ∧ out ++ wayL c res D (D.getD u 0).toNat u = wayL c res D (D.getD s0 0).toNat s0) ∧ St w.heap.size w w' [own (eInt .i64) 1 3 A' out.length c' out, sl (eInt .i64) 1 A17 D.length c17 D, bx b4 (csV c q).cells.toList 29, sl (eInt .i64) 1 A1 res.length c1 res, sl (eInt .i64) 1 q.a0 c.First.length q.c0 c.First, sl (eInt .i64) 1 q.a1 c.Head.length q.c1 c.Head, sl (eInt .i64) 1 q.a2 c.Rev.length q.c2 c.Rev, sl (eInt .i64) 1 q.a3 c.Cap.length q.c3 c.Cap, sl (eInt .i64) 1 q.a4 c.Arc.length q.c4 c.Arc, sl eBool 1 q.a5 c.Back.length q.c5 c.Back]) (fun u _ _ _ => (D.getD u 0).toNat) s0 none 0 [] (.cons rfl (.cons rfl (.cons rfl (.cons rfl .nil)))) (.cons rfl (.cons rfl (.cons rfl (.cons rfl (.cons rfl (.cons rfl .nil)))))) ⟨⟨hsN, hsD, Nat.zero_le _, rfl⟩, hS.nil (eInt .i64) 1 3⟩ ?_
      clear hS
      rintro u A' c' out wr ⟨⟨huN, huD, hol, how⟩, hS⟩
      have hu0 := hL.le_N huN
      have ho16 : out.length ≤ 16 := by omega
      refine cw_seq ?_
      refine cw_seq ?_
      -- region 6
      refine cw_region ?_
      refine lw_v rfl rfl (ok_move rfl (.n rfl) rfl) ?_
      refine lw_v rfl rfl (ok_move rfl (.n rfl) rfl) ?_
      refine lw_v rfl rfl (ok_neq rfl (.n rfl) rfl rfl) ?_
      refine lw_nil ?_
      refine Ends.keep [(1, .eq _), (3, .eq _), (4, .eq _), (10, .eq _), (11, .eq _), (12, .eq _), (42, .eq _)] (.cons rfl (.cons rfl (.cons rfl (.cons rfl (.cons rfl (.cons rfl (.cons rfl .nil))))))) ?_
      refine ends_then ?_
      refine cw_cond rfl (fun h42 => ?_) (fun h42 => ?_)
      ·
        have hne : u ≠ v := fun e => by subst e; simp at h42
        have hup : 0 < D.getD u 0 := by
          rcases hL.why u huN with e | ⟨w2, w1, _, e⟩
          · unfold hTo at e; rw [if_neg hne] at e; omega
          · have := hL.nn w2 w1; omega
        obtain ⟨a1, ha1⟩ := near_ex hwf hL huN hup huD
        refine cw_skip ?_
        refine ends_then ?_
        refine cw_block ?_
        refine cw_seq ?_
        -- region 7
        refine cw_region ?_
        refine lw_v rfl rfl (ok_ldS rfl (.n rfl) rfl Try.isAgg29 Try.sizeOf29 hS rfl) ?_
        refine lw_v rfl rfl (ok_move rfl (.n rfl) rfl) ?_
        refine lw_v rfl rfl (ok_move rfl (.n rfl) rfl) ?_
        refine lw_v rfl rfl (ok_move rfl (.n rfl) rfl) ?_
        refine lw_call (f := 92) (xs := [_, _, _, _]) rfl rfl rfl Try.call92 rfl (Calls.mono (f92 c q res D u A1 c1 A17 c17 _ hwf (hS.cs q) (hS.rd A1 hrr) (hS.rd A17 (by omega)) huN hrl hDl) ?_)
        rintro e w' ⟨z, rfl, hg, hz⟩
        replace hS := hS.grow hg; clear hg
        refine ⟨_, rfl, ?_⟩
        refine lw_v rfl rfl (ok_assign rfl (.n rfl) rfl) ?_
        refine lw_nil ?_
        refine Ends.keep [(1, .eq _), (3, .eq _), (4, .eq _), (10, .eq _), (11, .eq _), (13, .eq _)] (.cons rfl (.cons rfl (.cons rfl (.cons rfl (.cons rfl (.cons rfl .nil)))))) ?_
        refine ends_then ?_
        refine cw_seq ?_
        refine cw_seq ?_
        -- region 8
        refine cw_region ?_
        refine lw_v rfl rfl (ok_move rfl (.n rfl) rfl) ?_
        refine lw_v rfl rfl (ok_lss rfl (.n rfl) rfl rfl) ?_
        refine lw_nil ?_
        refine Ends.keep [(1, .eq _), (3, .eq _), (4, .eq _), (10, .eq _), (11, .eq _), (13, .eq _), (49, .eq _)] (.cons rfl (.cons rfl (.cons rfl (.cons rfl (.cons rfl (.cons rfl (.cons rfl .nil))))))) ?_
        refine ends_then ?_
        refine cw_cond rfl (fun h49 => ?_) (fun h49 => ?_)
        ·
          exact (way_bad hz ha1 h49).elim
        ·
          obtain ⟨a, rfl, hna⟩ : ∃ a : Nat, z = a ∧ NearR c res D u a := by
            rcases hz with h | ⟨h, _⟩
            · exact h
            · subst h; simp at h49
          clear hz
          obtain ⟨haM, hat, hxN', hxD'⟩ := near_is hwf hL huN hna.1
          obtain ⟨x, hx', hxN⟩ := head_at hwf haM
          have hx : c.Head.getD (a : Int).toNat 0 = (x : Int) := hx'
          have hxD : D.getD x 0 = D.getD u 0 - 1 := by rw [hx'] at hxD'; exact hxD'
          refine cw_skip ?_
          refine ends_then ?_
          refine cw_seq ?_
          -- region 10
          refine cw_region ?_
          refine lw_v rfl rfl (ok_move rfl (.n rfl) rfl) ?_
          refine lw_v rfl rfl (ok_move rfl (.n rfl) rfl) ?_
          refine lw_ls (enc := (eInt .i64)) [(a : Int)] rfl rfl rfl Try.underlying26 Try.sizeOf3 Try.zeroValue3 rfl (by kernel_rfl) rfl (by decide) (by decide) hS ?_
          clear hS; intro A52 c52 w3 _ hS
          refine lw_append (enc := (eInt .i64)) rfl rfl rfl Try.underlying26 info3 rfl rfl rfl hS (by decide) (ap16 ho16) (ap16b ho16) ?_
          intro A53 c53 w4 hS1; replace hS := hS1 _ (Rep.r); clear hS1
          refine lw_v rfl rfl (ok_assign rfl (.n rfl) rfl) ?_
          refine lw_nil ?_
          refine Ends.keep [(1, .eq _), (3, .eq _), (4, .eq _), (10, .eq _), (11, .eq _), (13, .eq _)] (.cons rfl (.cons rfl (.cons rfl (.cons rfl (.cons rfl (.cons rfl .nil)))))) ?_
          refine ends_then ?_
          -- region 11
          refine cw_region ?_
          refine lw_v rfl rfl (ok_fb rfl (.n rfl) Try.underlying29 rfl Try.sizeOf26 (by decide) rfl) ?_
          refine lw_v rfl rfl (ok_ldb rfl (.n rfl) rfl Try.isAgg26 hS (by rfl)) ?_
          refine lw_v rfl rfl (ok_move rfl (.n rfl) rfl) ?_
          refine lw_v rfl rfl (ok_ix rfl (.n rfl) Try.underlying26 Try.sizeOf3 rfl rfl hS (fun _ => ⟨by omega, by omega⟩)) ?_
          refine lw_v rfl rfl (ok_eq (ok_ldx rfl (.n rfl) rfl Try.isAgg3 hS (fun _ => ⟨by omega, by omega⟩) (by rfl)) (c' := .int .i64 (x : Int)) (fun _ => congrArg (Value.int .i64) hx)) ?_
          refine lw_v rfl rfl (ok_assign rfl (.n rfl) rfl) ?_
          refine lw_nil ?_
          refine in_normal (?_)
          -- BACK
          have hxlt : D.getD x 0 < c.N := by omega
          have hmu : (D.getD x 0).toNat < (D.getD u 0).toNat := by omega
          have hol2 : (out ++ [(a : Int)]).length ≤ 16 - (D.getD x 0).toNat := by rw [List.length_append, List.length_singleton]; omega
          refine ends_back4 x A53 c53 (out ++ [(a : Int)]) (.cons rfl (.cons rfl (.cons rfl (.cons rfl (.cons rfl (.cons rfl .nil)))))) ⟨⟨hxN, hxlt, hol2, ?_⟩, hS.tail⟩ hmu
          rw [← how, way_step hna hx' hxD hup, List.append_assoc]
          rfl
      ·
        refine cw_exit ?_
        refine then_exit (then_exit (in_exit (?_)))
        refine Ends.keep [(11, .eq _)] (.cons rfl .nil) ?_
        refine ends_then ?_
        refine cw_seq ?_
        -- region 12
        refine cw_region ?_
        refine lw_v rfl rfl (ok_move rfl (.n rfl) rfl) ?_
        refine lw_v rfl rfl (ok_assign rfl (.n rfl) rfl) ?_
        refine lw_v rfl rfl (ok_assign rfl (.n rfl) rfl) ?_
        refine lw_nil ?_
        refine Ends.keep [(8, .eq _), (9, .eq _)] (.cons rfl (.cons rfl .nil)) ?_
        refine ends_then ?_
        refine cw_ret ?_
        have huv : u = v := by
          have : decide ((u : Int) = v) = true := by simpa using h42
          have := of_decide_eq_true this
          omega
        have hout : out = wayL c res D (D.getD s0 0).toNat s0 := by
          rw [← how, huv, hL.at_t (by omega)]
          exact (List.append_nil _).symm
        refine end_ret (res2 Try.results54 rfl rfl) ⟨A', c', ?_, hS.below, ?_, ?_⟩
        · show _ = Ending.returned (.tuple #[.slice A' (wayL c res D (D.getD s0 0).toNat s0).length c', .bool true]); rw [← hout]
        · show ∀ b, (own (eInt .i64) 1 3 A' (wayL c res D (D.getD s0 0).toNat s0).length c' (wayL c res D (D.getD s0 0).toNat s0)).fp b → _; rw [← hout]; exact fun b hb => hS.ge _ (.head _) rfl b hb
        · show (own (eInt .i64) 1 3 A' (wayL c res D (D.getD s0 0).toNat s0).length c' (wayL c res D (D.getD s0 0).toNat s0)).p _; rw [← hout]; exact hS.ok _ (.head _)


end Go.Proofs.Ytnpgeohkmdcbkaa.Aq

namespace Go.Proofs.Ytnpgeohkmdcbkaa.Aq
open Go Go.RowKit

theorem pre_rng {N t : Nat} {E : Nat → Nat → Prop} {D : List Int} (p : LowPre N E (hTo N t) D) {v : Nat} (hv : v < N) : 0 ≤ D.getD v 0 ∧ D.getD v 0 ≤ N := by
  refine ⟨p.nn v hv, Int.le_trans (p.le v hv) ?_⟩
  unfold hTo; split <;> omega

set_option maxHeartbeats 1000000 in
set_option maxRecDepth 10000 in
/-- acequiaref05.To. -/
theorem f56 (c : Cs) (q : Q6) (res : List Int) (t : Int) {m : Nat} (A1 : Option Addr) (c1 : Nat) (w : World) (hwf : WF c) (hc : CsAt c q w) (hr : (sl (eInt .i64) 1 A1 m c1 res).p w) : RetL 56 [csV c q, .slice A1 m c1, .int .i64 t] w (toL c res t) := by
  refine calls_cw Try.func56 rfl Try.ntmps56 rfl ?_
  have hS := (St.ofc hc).args (Nat.le_refl _) _ hr rfl
  have hM := hwf.m
  have hN := hwf.hi
  have hlo := hwf.lo
  have hfl := hwf.fl
  have hrr := hr.2.1
  have hrl := hr.1.1
  refine cw_seq ?_
  -- region 0
  refine cw_region ?_
  refine lw_box rfl rfl rfl rfl hS ?_
  clear hS; intro b3 w1 _ _ hS
  refine lw_v rfl rfl (ok_assign rfl (.n rfl) rfl) ?_
  refine lw_nil ?_
  refine Ends.keep [(1, .eq _), (2, .eq _), (3, .eq _)] (.cons rfl (.cons rfl (.cons rfl .nil))) ?_
  refine ends_then ?_
  refine cw_seq ?_
  refine cw_seq ?_
  -- region 1
  refine cw_region ?_
  refine lw_v rfl rfl (ok_move rfl (.n rfl) rfl) ?_
  refine lw_v rfl rfl (ok_len rfl (.n rfl) Try.underlying25 rfl) ?_
  refine lw_v rfl rfl (ok_fb rfl (.n rfl) Try.underlying29 rfl Try.sizeOf26 (by decide) rfl) ?_
  refine lw_v rfl rfl (ok_ldb rfl (.n rfl) rfl Try.isAgg26 hS (by rfl)) ?_
  refine lw_v rfl rfl (ok_len rfl (.n rfl) Try.underlying26 rfl) ?_
  refine lw_v rfl rfl (ok_neq rfl (.n rfl) rfl rfl) ?_
  refine lw_v rfl rfl (ok_move rfl (.n rfl) rfl) ?_
  refine lw_v rfl rfl (ok_move rfl (.s rfl rfl) rfl) ?_
  refine lw_v rfl rfl (ok_lss rfl (.s rfl rfl) rfl rfl) ?_
  refine lw_v rfl rfl (ok_or rfl rfl rfl rfl) ?_
  refine lw_v rfl rfl (ok_move rfl (.n rfl) rfl) ?_
  refine lw_v rfl rfl (ok_move rfl (.s rfl rfl) rfl) ?_
  refine lw_v rfl rfl (ok_fb rfl (.s rfl rfl) Try.underlying29 rfl Try.sizeOf3 (by decide) rfl) ?_
  refine lw_v rfl rfl (ok_ldb rfl (.s rfl rfl) rfl Try.isAgg3 hS (by rfl)) ?_
  refine lw_v rfl rfl (ok_geq rfl (.s rfl rfl) rfl rfl) ?_
  refine lw_v rfl rfl (ok_or rfl rfl rfl rfl) ?_
  refine lw_nil ?_
  refine Ends.keep [(1, .eq _), (2, .eq _), (3, .eq _), (27, .eq _)] (.cons rfl (.cons rfl (.cons rfl (.cons rfl .nil)))) ?_
  refine ends_then ?_
  refine cw_cond rfl (fun h27 => ?_) (fun h27 => ?_)
  ·
    have hno : inB c res t = false := by rw [← hrl, ref_in] at h27; simpa using h27
    replace hS := hS.nil (eInt .i64) 1 3
    refine cw_seq ?_
    -- region 2
    refine cw_region ?_
    refine lw_v rfl rfl (ok_assign rfl (.n rfl) rfl) ?_
    refine lw_nil ?_
    refine Ends.keep [(6, .eq _)] (.cons rfl .nil) ?_
    refine ends_then ?_
    refine cw_ret ?_
    refine then_ret (?_)
    rw [toL_no hno]
    exact end_ret (res1 Try.results56 rfl) ⟨none, 0, rfl, hS.below, fun b hb => hS.ge _ (.head _) rfl b hb, hS.ok _ (.head _)⟩
  ·
    have hin : inB c res t = true := by rw [← hrl, ref_in] at h27; simpa using h27
    obtain ⟨hrm, ht0, htN⟩ := inB_iff.1 hin
    obtain ⟨v, rfl⟩ : ∃ v : Nat, t = (v : Int) := ⟨t.toNat, by omega⟩
    have hvN : v < c.N := by omega
    refine cw_skip ?_
    refine ends_then ?_
    refine cw_seq ?_
    -- region 3
    refine cw_region ?_
    refine lw_v rfl rfl (ok_assign rfl (.n rfl) rfl) ?_
    refine lw_nil ?_
    refine Ends.keep [(1, .eq _), (2, .eq _), (3, .eq _), (7, .eq _)] (.cons rfl (.cons rfl (.cons rfl (.cons rfl .nil)))) ?_
    refine ends_then ?_
    refine cw_seq ?_
    refine cw_seq ?_
    -- region 4
    refine cw_region ?_
    refine lw_v rfl rfl (ok_assign rfl (.n rfl) rfl) ?_
    refine lw_nil ?_
    refine Ends.keep [(1, .eq _), (2, .eq _), (3, .eq _), (7, .eq _), (8, .eq _)] (.cons rfl (.cons rfl (.cons rfl (.cons rfl (.cons rfl .nil))))) ?_
    refine ends_then ?_
    refine cw_block ?_
    -- LOOP at region 5: changed live slots [7, 8], kept [1, 2, 3]
    refine cw_loop3 [(1, .eq _), (2, .eq _), (3, .eq _)] (fun (k : Nat) (A' : Option Addr) (c' : Nat) => [(7, .eq (.slice A' (List.replicate k (c.N : Int)).length c')), (8, .eq (.int .i64 k))]) (fun k A' c' w' => k ≤ c.N ∧ St w.heap.size w w' [own (eInt .i64) 1 3 A' (List.replicate k (c.N : Int)).length c' (List.replicate k (c.N : Int)), bx b3 (csV c q).cells.toList 29, sl (eInt .i64) 1 A1 m c1 res, sl (eInt .i64) 1 q.a0 c.First.length q.c0 c.First, sl (eInt .i64) 1 q.a1 c.Head.length q.c1 c.Head, sl (eInt .i64) 1 q.a2 c.Rev.length q.c2 c.Rev, sl (eInt .i64) 1 q.a3 c.Cap.length q.c3 c.Cap, sl (eInt .i64) 1 q.a4 c.Arc.length q.c4 c.Arc, sl eBool 1 q.a5 c.Back.length q.c5 c.Back]) (fun k _ _ => c.N - k) 0 none 0 (.cons rfl (.cons rfl (.cons rfl .nil))) (.cons rfl (.cons rfl (.cons rfl (.cons rfl (.cons rfl .nil))))) ⟨Nat.zero_le _, hS.nil (eInt .i64) 1 3⟩ ?_
    clear hS
    rintro k A' c' wr ⟨hk, hS⟩
    have hrepl : (List.replicate k (c.N : Int)).length = k := List.length_replicate
    refine cw_seq ?_
    refine cw_seq ?_
    -- region 5
    refine cw_region ?_
    refine lw_v rfl rfl (ok_move rfl (.n rfl) rfl) ?_
    refine lw_v rfl rfl (ok_fb rfl (.n rfl) Try.underlying29 rfl Try.sizeOf3 (by decide) rfl) ?_
    refine lw_v rfl rfl (ok_ldb rfl (.n rfl) rfl Try.isAgg3 hS (by rfl)) ?_
    refine lw_v rfl rfl (ok_lss rfl (.n rfl) rfl rfl) ?_
    refine lw_nil ?_
    refine Ends.keep [(1, .eq _), (2, .eq _), (3, .eq _), (7, .eq _), (8, .eq _), (31, .eq _)] (.cons rfl (.cons rfl (.cons rfl (.cons rfl (.cons rfl (.cons rfl .nil)))))) ?_
    refine ends_then ?_
    refine cw_cond rfl (fun h31 => ?_) (fun h31 => ?_)
    ·
      have hkN : k < c.N := by have := of_decide_eq_true h31; omega
      refine cw_skip ?_
      refine ends_then ?_
      refine cw_seq ?_
      refine cw_block ?_
      -- region 7
      refine cw_region ?_
      refine lw_v rfl rfl (ok_move rfl (.n rfl) rfl) ?_
      refine lw_v rfl rfl (ok_fb rfl (.n rfl) Try.underlying29 rfl Try.sizeOf3 (by decide) rfl) ?_
      refine lw_v rfl rfl (ok_eq (ok_ldb rfl (.n rfl) rfl Try.isAgg3 hS (by rfl)) (c' := .int .i64 (c.N : Int)) (fun _ => rfl)) ?_
      refine lw_ls (enc := (eInt .i64)) [(c.N : Int)] rfl rfl rfl Try.underlying26 Try.sizeOf3 Try.zeroValue3 rfl (by kernel_rfl) rfl (by decide) (by decide) hS ?_
      clear hS; intro A37 c37 w2 _ hS
      refine lw_append (enc := (eInt .i64)) rfl rfl rfl Try.underlying26 info3 rfl rfl rfl hS (by decide) (by omega) (by omega) ?_
      intro A38 c38 w3 hS1; replace hS := hS1 _ (Rep.r); clear hS1
      refine lw_v rfl rfl (ok_assign rfl (.n rfl) rfl) ?_
      refine lw_nil ?_
      refine in_normal (?_)
      refine Ends.keep [(1, .eq _), (2, .eq _), (3, .eq _), (7, .eq _), (8, .eq _)] (.cons rfl (.cons rfl (.cons rfl (.cons rfl (.cons rfl .nil))))) ?_
      refine ends_then ?_
      -- region 6
      refine cw_region ?_
      refine lw_v rfl rfl (ok_move rfl (.n rfl) rfl) ?_
      refine lw_v rfl rfl (ok_addi rfl (.n rfl) rfl rfl (fun _ => ⟨by omega, by omega⟩)) ?_
      refine lw_v rfl rfl (ok_assign rfl (.n rfl) rfl) ?_
      refine lw_nil ?_
      -- BACK
      replace hS := hS.tail
      rw [← List.replicate_succ'] at hS ⊢
      exact ends_back3 (k + 1) A38 c38 (.cons rfl (.cons rfl (.cons rfl (.cons rfl (.cons rfl .nil))))) ⟨by omega, hS⟩ (by omega)
    ·
      have hke : k = c.N := by have := of_decide_eq_false h31; omega
      rw [hke] at hS hrepl ⊢
      rw [hrepl] at hS ⊢
      refine cw_exit ?_
      refine then_exit (then_exit (in_exit (?_)))
      refine Ends.keep [(1, .eq _), (2, .eq _), (3, .eq _), (7, .eq _)] (.cons rfl (.cons rfl (.cons rfl (.cons rfl .nil)))) ?_
      refine ends_then ?_
      refine cw_seq ?_
      -- region 8
      refine cw_region ?_
      refine lw_v rfl rfl (ok_move rfl (.n rfl) rfl) ?_
      refine lw_v rfl rfl (ok_move rfl (.n rfl) rfl) ?_
      refine lw_v rfl rfl (ok_ix rfl (.n rfl) Try.underlying26 Try.sizeOf3 rfl rfl hS (fun _ => ⟨by omega, by omega⟩)) ?_
      refine lw_stx (enc := (eInt .i64)) (_) rfl rfl rfl rfl rfl rfl Try.sizeOf3 hS (⟨by omega, by omega⟩) ?_
      clear hS; intro w4 hS
      refine lw_nil ?_
      refine Ends.keep [(1, .eq _), (3, .eq _), (7, .eq _)] (.cons rfl (.cons rfl (.cons rfl .nil))) ?_
      refine ends_then ?_
      refine cw_seq ?_
      refine cw_seq ?_
      -- region 9
      refine cw_region ?_
      refine lw_v rfl rfl (ok_assign rfl (.n rfl) rfl) ?_
      refine lw_nil ?_
      refine Ends.keep [(1, .eq _), (3, .eq _), (7, .eq _), (9, .eq _)] (.cons rfl (.cons rfl (.cons rfl (.cons rfl .nil)))) ?_
      refine ends_then ?_
      refine cw_block ?_
      -- LOOP at region 10: changed live slots [9], kept [1, 3, 7]
      refine cw_loop2 [(1, .eq _), (3, .eq _), (7, .eq _)] (fun (more : Bool) (D : List Int) => [(9, .eq (.bool more))]) (fun more D w' => (LowPre c.N (EE c res true) (hTo c.N v) D ∧ (more = false → Low c.N (EE c res true) (hTo c.N v) D)) ∧ St w.heap.size w w' [own (eInt .i64) 1 3 A' c.N c' D, bx b3 (csV c q).cells.toList 29, sl (eInt .i64) 1 A1 m c1 res, sl (eInt .i64) 1 q.a0 c.First.length q.c0 c.First, sl (eInt .i64) 1 q.a1 c.Head.length q.c1 c.Head, sl (eInt .i64) 1 q.a2 c.Rev.length q.c2 c.Rev, sl (eInt .i64) 1 q.a3 c.Cap.length q.c3 c.Cap, sl (eInt .i64) 1 q.a4 c.Arc.length q.c4 c.Arc, sl eBool 1 q.a5 c.Back.length q.c5 c.Back]) (fun more D => muM more D) true _ (.cons rfl (.cons rfl (.cons rfl .nil))) (.cons rfl (.cons rfl (.cons rfl (.cons rfl .nil)))) ⟨⟨LowPre.start (by simp) (fun x hx => by rw [set_get (by simpa using hvN)]; unfold hTo; simp [hx]) (hTo_nn _ _), fun h => by cases h⟩, hS⟩ ?_
      clear hS
      rintro more D0 wr ⟨⟨hpre0, hlow⟩, hS⟩
      refine cw_seq ?_
      refine cw_seq ?_
      -- region 10
      refine cw_region ?_
      refine lw_v rfl rfl (ok_move rfl (.n rfl) rfl) ?_
      refine lw_nil ?_
      refine Ends.keep [(1, .eq _), (3, .eq _), (7, .eq _), (42, .eq _)] (.cons rfl (.cons rfl (.cons rfl (.cons rfl .nil)))) ?_
      refine ends_then ?_
      refine cw_cond rfl (fun h42 => ?_) (fun h42 => ?_)
      ·
        refine cw_skip ?_
        refine ends_then ?_
        refine cw_block ?_
        refine cw_seq ?_
        -- region 11
        refine cw_region ?_
        refine lw_v rfl rfl (ok_assign rfl (.n rfl) rfl) ?_
        refine lw_nil ?_
        refine Ends.keep [(1, .eq _), (3, .eq _), (7, .eq _), (9, .eq _)] (.cons rfl (.cons rfl (.cons rfl (.cons rfl .nil)))) ?_
        refine ends_then ?_
        refine cw_seq ?_
        -- region 12
        refine cw_region ?_
        refine lw_v rfl rfl (ok_assign rfl (.n rfl) rfl) ?_
        refine lw_nil ?_
        refine Ends.keep [(1, .eq _), (3, .eq _), (7, .eq _), (9, .eq _), (10, .eq _)] (.cons rfl (.cons rfl (.cons rfl (.cons rfl (.cons rfl .nil))))) ?_
        refine ends_then ?_
        refine cw_block ?_
        -- LOOP at region 13: changed live slots [9, 10], kept [1, 3, 7]
        refine cw_loop3 [(1, .eq _), (3, .eq _), (7, .eq _)] (fun (u : Nat) (more : Bool) (D : List Int) => [(9, .eq (.bool more)), (10, .eq (.int .i64 u))]) (fun u more D w' => (u ≤ c.N ∧ PassI c.N (EE c res true) (hTo c.N v) (srcOf c true) (dstOf c true) (fun b => 0 < res.getD b 0) D0 more D (c.First.getD u 0).toNat) ∧ St w.heap.size w w' [own (eInt .i64) 1 3 A' c.N c' D, bx b3 (csV c q).cells.toList 29, sl (eInt .i64) 1 A1 m c1 res, sl (eInt .i64) 1 q.a0 c.First.length q.c0 c.First, sl (eInt .i64) 1 q.a1 c.Head.length q.c1 c.Head, sl (eInt .i64) 1 q.a2 c.Rev.length q.c2 c.Rev, sl (eInt .i64) 1 q.a3 c.Cap.length q.c3 c.Cap, sl (eInt .i64) 1 q.a4 c.Arc.length q.c4 c.Arc, sl eBool 1 q.a5 c.Back.length q.c5 c.Back]) (fun u _ _ => c.N - u) 0 false D0 (.cons rfl (.cons rfl (.cons rfl .nil))) (.cons rfl (.cons rfl (.cons rfl (.cons rfl (.cons rfl .nil))))) ⟨⟨Nat.zero_le _, by rw [hwf.f0]; exact PassI.start hpre0⟩, hS⟩ ?_
        clear hS
        rintro u more D wr ⟨⟨hu, hps⟩, hS⟩
        refine cw_seq ?_
        refine cw_seq ?_
        -- region 13
        refine cw_region ?_
        refine lw_v rfl rfl (ok_move rfl (.n rfl) rfl) ?_
        refine lw_v rfl rfl (ok_fb rfl (.n rfl) Try.underlying29 rfl Try.sizeOf3 (by decide) rfl) ?_
        refine lw_v rfl rfl (ok_ldb rfl (.n rfl) rfl Try.isAgg3 hS (by rfl)) ?_
        refine lw_v rfl rfl (ok_lss rfl (.n rfl) rfl rfl) ?_
        refine lw_nil ?_
        refine Ends.keep [(1, .eq _), (3, .eq _), (7, .eq _), (9, .eq _), (10, .eq _), (46, .eq _)] (.cons rfl (.cons rfl (.cons rfl (.cons rfl (.cons rfl (.cons rfl .nil)))))) ?_
        refine ends_then ?_
        refine cw_cond rfl (fun h46 => ?_) (fun h46 => ?_)
        ·
          have huN : u < c.N := by have := of_decide_eq_true h46; omega
          obtain ⟨hf0, hf1, hf2⟩ := seg_rng hwf huN
          refine cw_skip ?_
          refine ends_then ?_
          refine cw_seq ?_
          refine cw_block ?_
          refine cw_seq ?_
          -- region 15
          refine cw_region ?_
          refine lw_v rfl rfl (ok_fb rfl (.n rfl) Try.underlying29 rfl Try.sizeOf26 (by decide) rfl) ?_
          refine lw_v rfl rfl (ok_ldb rfl (.n rfl) rfl Try.isAgg26 hS (by rfl)) ?_
          refine lw_v rfl rfl (ok_move rfl (.n rfl) rfl) ?_
          refine lw_v rfl rfl (ok_ix rfl (.n rfl) Try.underlying26 Try.sizeOf3 rfl rfl hS (fun _ => ⟨by omega, by omega⟩)) ?_
          refine lw_v rfl rfl (ok_eq (ok_ldx rfl (.n rfl) rfl Try.isAgg3 hS (fun _ => ⟨by omega, by omega⟩) (by rfl)) (c' := .int .i64 (((c.First.getD u 0).toNat : Nat) : Int)) (fun _ => congrArg (Value.int .i64) (Int.toNat_of_nonneg hf0).symm)) ?_
          refine lw_v rfl rfl (ok_assign rfl (.n rfl) rfl) ?_
          refine lw_nil ?_
          refine Ends.keep [(1, .eq _), (3, .eq _), (7, .eq _), (9, .eq _), (10, .eq _), (11, .eq _)] (.cons rfl (.cons rfl (.cons rfl (.cons rfl (.cons rfl (.cons rfl .nil)))))) ?_
          refine ends_then ?_
          refine cw_block ?_
          -- LOOP at region 16: changed live slots [9, 11], kept [1, 3, 7, 10]
          refine cw_loop3 [(1, .eq _), (3, .eq _), (7, .eq _), (10, .eq _)] (fun (a : Nat) (more : Bool) (D : List Int) => [(9, .eq (.bool more)), (11, .eq (.int .i64 a))]) (fun a more D w' => ((c.First.getD u 0 ≤ a ∧ a ≤ c.First.getD (u + 1) 0) ∧ PassI c.N (EE c res true) (hTo c.N v) (srcOf c true) (dstOf c true) (fun b => 0 < res.getD b 0) D0 more D a) ∧ St w.heap.size w w' [own (eInt .i64) 1 3 A' c.N c' D, bx b3 (csV c q).cells.toList 29, sl (eInt .i64) 1 A1 m c1 res, sl (eInt .i64) 1 q.a0 c.First.length q.c0 c.First, sl (eInt .i64) 1 q.a1 c.Head.length q.c1 c.Head, sl (eInt .i64) 1 q.a2 c.Rev.length q.c2 c.Rev, sl (eInt .i64) 1 q.a3 c.Cap.length q.c3 c.Cap, sl (eInt .i64) 1 q.a4 c.Arc.length q.c4 c.Arc, sl eBool 1 q.a5 c.Back.length q.c5 c.Back]) (fun a _ _ => (c.First.getD (u + 1) 0 - a).toNat) (c.First.getD u 0).toNat more D (.cons rfl (.cons rfl (.cons rfl (.cons rfl .nil)))) (.cons rfl (.cons rfl (.cons rfl (.cons rfl (.cons rfl (.cons rfl .nil)))))) ⟨⟨⟨by omega, by omega⟩, hps⟩, hS⟩ ?_
          clear hS
          clear hps D more
          rintro a more D wr ⟨⟨⟨ha0, ha1⟩, hps⟩, hS⟩
          have hDl := hps.pre.len
          refine cw_seq ?_
          refine cw_seq ?_
          -- region 16
          refine cw_region ?_
          refine lw_v rfl rfl (ok_move rfl (.n rfl) rfl) ?_
          refine lw_v rfl rfl (ok_fb rfl (.n rfl) Try.underlying29 rfl Try.sizeOf26 (by decide) rfl) ?_
          refine lw_v rfl rfl (ok_ldb rfl (.n rfl) rfl Try.isAgg26 hS (by rfl)) ?_
          refine lw_v rfl rfl (ok_move rfl (.n rfl) rfl) ?_
          refine lw_v rfl rfl (ok_addi rfl (.n rfl) rfl rfl (fun _ => ⟨by omega, by omega⟩)) ?_
          refine lw_v rfl rfl (ok_ix rfl (.n rfl) Try.underlying26 Try.sizeOf3 rfl rfl hS (fun _ => ⟨by omega, by omega⟩)) ?_
          refine lw_v rfl rfl (ok_ldx rfl (.n rfl) rfl Try.isAgg3 hS (fun _ => ⟨by omega, by omega⟩) (by rfl)) ?_
          refine lw_v rfl rfl (ok_lss rfl (.n rfl) rfl rfl) ?_
          refine lw_nil ?_
          refine Ends.keep [(1, .eq _), (3, .eq _), (7, .eq _), (9, .eq _), (10, .eq _), (11, .eq _), (61, .eq _)] (.cons rfl (.cons rfl (.cons rfl (.cons rfl (.cons rfl (.cons rfl (.cons rfl .nil))))))) ?_
          refine ends_then ?_
          refine cw_cond rfl (fun h61 => ?_) (fun h61 => ?_)
          ·
            have hlt : (a : Int) < c.First.getD (u + 1) 0 := of_decide_eq_true h61
            have haM : a < c.Head.length := by omega
            obtain ⟨x, hx', hxN⟩ := head_at hwf haM
            have hx : c.Head.getD (a : Int).toNat 0 = (x : Int) := hx'
            have htl := tail_eq hwf huN ha0 hlt
            have hDu : 0 ≤ D.getD (u : Int).toNat 0 ∧ D.getD (u : Int).toNat 0 ≤ c.N := pre_rng hps.pre huN
            have hDx : 0 ≤ D.getD (x : Int).toNat 0 ∧ D.getD (x : Int).toNat 0 ≤ c.N := pre_rng hps.pre hxN
            refine cw_skip ?_
            refine ends_then ?_
            refine cw_seq ?_
            refine cw_block ?_
            refine cw_seq ?_
            -- region 18
            refine cw_draw (by kernel_rfl) (List.take 19 _) (List.drop 19 _) (List.take_append_drop 19 _).symm (by kernel_rfl) ?_
            refine free_v (ok_move rfl (.n rfl) rfl) ?_
            refine free_v (ok_move rfl (.n rfl) rfl) ?_
            refine free_v (ok_ix rfl (.n rfl) Try.underlying25 Try.sizeOf2 rfl rfl hS (fun _ => ⟨by omega, by omega⟩)) ?_
            refine free_v (ok_ldx rfl (.n rfl) rfl Try.isAgg2 hS (fun _ => ⟨by omega, by omega⟩) (by rfl)) ?_
            refine free_v (ok_gtr rfl (.n rfl) rfl rfl) ?_
            refine free_v (ok_move rfl (.n rfl) rfl) ?_
            refine free_v (ok_move rfl (.s rfl rfl) rfl) ?_
            refine free_v (ok_fb rfl (.s rfl rfl) Try.underlying29 rfl Try.sizeOf26 (by decide) rfl) ?_
            refine free_v (ok_ldb rfl (.s rfl rfl) rfl Try.isAgg26 hS (by rfl)) ?_
            refine free_v (ok_move rfl (.s rfl rfl) rfl) ?_
            refine free_v (ok_ix rfl (.s rfl rfl) Try.underlying26 Try.sizeOf3 rfl rfl hS (fun _ => ⟨by omega, by omega⟩)) ?_
            refine free_v (ok_eq (ok_ldx rfl (.s rfl rfl) rfl Try.isAgg3 hS (fun _ => ⟨by omega, by omega⟩) (by rfl)) (c' := .int .i64 (x : Int)) (fun _ => congrArg (Value.int .i64) hx)) ?_
            refine free_v (ok_ix rfl (.s rfl rfl) Try.underlying26 Try.sizeOf3 rfl rfl hS (fun _ => ⟨by omega, by omega⟩)) ?_
            refine free_v (ok_ldx rfl (.s rfl rfl) rfl Try.isAgg3 hS (fun _ => ⟨by omega, by omega⟩) (by rfl)) ?_
            refine free_v (ok_addi rfl (.s rfl rfl) rfl rfl (fun _ => ⟨by omega, by omega⟩)) ?_
            refine free_v (ok_move rfl (.s rfl rfl) rfl) ?_
            refine free_v (ok_move rfl (.s rfl rfl) rfl) ?_
            refine free_v (ok_ix rfl (.s rfl rfl) Try.underlying26 Try.sizeOf3 rfl rfl hS (fun _ => ⟨by omega, by omega⟩)) ?_
            refine free_v (ok_ldx rfl (.s rfl rfl) rfl Try.isAgg3 hS (fun _ => ⟨by omega, by omega⟩) (by rfl)) ?_
            refine free_nil ?_
            intro w5 hg_; replace hS := hS.grow hg_; clear hg_
            refine lw_v rfl rfl (ok_lss rfl (.s rfl rfl) rfl rfl) ?_
            refine lw_v rfl rfl (ok_and rfl rfl rfl rfl) ?_
            refine lw_nil ?_
            refine Ends.keep [(1, .eq _), (3, .eq _), (7, .eq _), (9, .eq _), (10, .eq _), (11, .eq _), (84, .eq _)] (.cons rfl (.cons rfl (.cons rfl (.cons rfl (.cons rfl (.cons rfl (.cons rfl .nil))))))) ?_
            refine ends_then ?_
            refine cw_cond rfl (fun h84 => ?_) (fun h84 => ?_)
            ·
              refine cw_seq ?_
              -- region 19
              refine cw_region ?_
              refine lw_v rfl rfl (ok_move rfl (.n rfl) rfl) ?_
              refine lw_v rfl rfl (ok_move rfl (.n rfl) rfl) ?_
              refine lw_v rfl rfl (ok_move rfl (.n rfl) rfl) ?_
              refine lw_v rfl rfl (ok_fb rfl (.n rfl) Try.underlying29 rfl Try.sizeOf26 (by decide) rfl) ?_
              refine lw_v rfl rfl (ok_ldb rfl (.n rfl) rfl Try.isAgg26 hS (by rfl)) ?_
              refine lw_v rfl rfl (ok_move rfl (.n rfl) rfl) ?_
              refine lw_v rfl rfl (ok_ix rfl (.n rfl) Try.underlying26 Try.sizeOf3 rfl rfl hS (fun _ => ⟨by omega, by omega⟩)) ?_
              refine lw_v rfl rfl (ok_eq (ok_ldx rfl (.n rfl) rfl Try.isAgg3 hS (fun _ => ⟨by omega, by omega⟩) (by rfl)) (c' := .int .i64 (x : Int)) (fun _ => congrArg (Value.int .i64) hx)) ?_
              refine lw_v rfl rfl (ok_ix rfl (.n rfl) Try.underlying26 Try.sizeOf3 rfl rfl hS (fun _ => ⟨by omega, by omega⟩)) ?_
              refine lw_v rfl rfl (ok_ldx rfl (.n rfl) rfl Try.isAgg3 hS (fun _ => ⟨by omega, by omega⟩) (by rfl)) ?_
              refine lw_v rfl rfl (ok_addi rfl (.n rfl) rfl rfl (fun _ => ⟨by omega, by omega⟩)) ?_
              refine lw_v rfl rfl (ok_ix rfl (.n rfl) Try.underlying26 Try.sizeOf3 rfl rfl hS (fun _ => ⟨by omega, by omega⟩)) ?_
              refine lw_stx (enc := (eInt .i64)) (_) rfl rfl rfl rfl rfl rfl Try.sizeOf3 hS (⟨by omega, by omega⟩) ?_
              clear hS; intro w6 hS
              refine lw_nil ?_
              refine Ends.keep [(1, .eq _), (3, .eq _), (7, .eq _), (10, .eq _), (11, .eq _)] (.cons rfl (.cons rfl (.cons rfl (.cons rfl (.cons rfl .nil))))) ?_
              refine ends_then ?_
              -- region 20
              refine cw_region ?_
              refine lw_v rfl rfl (ok_assign rfl (.n rfl) rfl) ?_
              refine lw_nil ?_
              refine in_normal (?_)
              refine Ends.keep [(1, .eq _), (3, .eq _), (7, .eq _), (9, .eq _), (10, .eq _), (11, .eq _)] (.cons rfl (.cons rfl (.cons rfl (.cons rfl (.cons rfl (.cons rfl .nil)))))) ?_
              refine ends_then ?_
              -- region 17
              refine cw_region ?_
              refine lw_v rfl rfl (ok_move rfl (.n rfl) rfl) ?_
              refine lw_v rfl rfl (ok_addi rfl (.n rfl) rfl rfl (fun _ => ⟨by omega, by omega⟩)) ?_
              refine lw_v rfl rfl (ok_assign rfl (.n rfl) rfl) ?_
              refine lw_nil ?_
              -- BACK
              refine ends_back3 (a + 1) true _ (.cons rfl (.cons rfl (.cons rfl (.cons rfl (.cons rfl (.cons rfl .nil)))))) ⟨⟨⟨by omega, by omega⟩, hps.step huN hxN (show EE c res true u x from ⟨a, haM, htl, by rw [hx']; rfl, (and_of h84).1⟩) (and_of h84).2⟩, hS⟩ (by omega)
            ·
              refine cw_skip ?_
              refine in_normal (?_)
              refine ends_then ?_
              -- region 17
              refine cw_region ?_
              refine lw_v rfl rfl (ok_move rfl (.n rfl) rfl) ?_
              refine lw_v rfl rfl (ok_addi rfl (.n rfl) rfl rfl (fun _ => ⟨by omega, by omega⟩)) ?_
              refine lw_v rfl rfl (ok_assign rfl (.n rfl) rfl) ?_
              refine lw_nil ?_
              -- BACK
              refine ends_back3 (a + 1) more D (.cons rfl (.cons rfl (.cons rfl (.cons rfl (.cons rfl (.cons rfl .nil)))))) ⟨⟨⟨by omega, by omega⟩, hps.skip fun ho => ?_⟩, hS⟩ (by omega)
              have h85 := nand_of h84
              show D.getD (tailOf c a) 0 ≤ D.getD (c.Head.getD a 0).toNat 0 + 1
              rw [htl, show (c.Head.getD a 0).toNat = x by rw [hx']; rfl]
              exact Int.not_lt.1 fun h => h85 ⟨ho, h⟩
          ·
            have hge : ¬ (a : Int) < c.First.getD (u + 1) 0 := of_decide_eq_false h61
            refine cw_exit ?_
            refine then_exit (then_exit (in_exit (?_)))
            refine in_normal (?_)
            refine Ends.keep [(1, .eq _), (3, .eq _), (7, .eq _), (9, .eq _), (10, .eq _)] (.cons rfl (.cons rfl (.cons rfl (.cons rfl (.cons rfl .nil))))) ?_
            refine ends_then ?_
            -- region 14
            refine cw_region ?_
            refine lw_v rfl rfl (ok_move rfl (.n rfl) rfl) ?_
            refine lw_v rfl rfl (ok_addi rfl (.n rfl) rfl rfl (fun _ => ⟨by omega, by omega⟩)) ?_
            refine lw_v rfl rfl (ok_assign rfl (.n rfl) rfl) ?_
            refine lw_nil ?_
            -- BACK
            refine ends_back3 (u + 1) more D (.cons rfl (.cons rfl (.cons rfl (.cons rfl (.cons rfl .nil))))) ⟨⟨by omega, by rw [show (c.First.getD (u + 1) 0).toNat = a by omega]; exact hps⟩, hS⟩ (by omega)
        ·
          have hge : ¬ u < c.N := by have := of_decide_eq_false h46; omega
          refine cw_exit ?_
          refine then_exit (then_exit (in_exit (?_)))
          refine in_normal (?_)
          -- BACK
          refine ends_back2 more D (.cons rfl (.cons rfl (.cons rfl (.cons rfl .nil)))) ⟨⟨hps.pre, fun hm => ?_⟩, hS⟩ (by subst h42; exact mu_pass hps)
          subst hm
          have hps2 := hps
          rw [show u = c.N by omega, hwf.fN, Int.toNat_natCast] at hps2
          exact hps2.low fun x y _ _ he => by obtain ⟨b, h1, h2, h3, h4⟩ := arc_ee he; exact ⟨b, h1, h2, h3, h4⟩
      ·
        refine cw_exit ?_
        refine then_exit (then_exit (in_exit (?_)))
        refine Ends.keep [(7, .eq _)] (.cons rfl .nil) ?_
        refine ends_then ?_
        refine cw_seq ?_
        -- region 21
        refine cw_region ?_
        refine lw_v rfl rfl (ok_move rfl (.n rfl) rfl) ?_
        refine lw_v rfl rfl (ok_assign rfl (.n rfl) rfl) ?_
        refine lw_nil ?_
        refine Ends.keep [(6, .eq _)] (.cons rfl .nil) ?_
        refine ends_then ?_
        refine cw_ret ?_
        have hL := hlow h42
        have e : toL c res (v : Int) = D0 := toL_eq hin hL
        have hDl := hL.len
        rw [e]
        refine end_ret (res1 Try.results56 rfl) ⟨A', c', by rw [hDl], hS.below, ?_, ?_⟩
        · rw [hDl]; exact fun b hb => hS.ge _ (.head _) rfl b hb
        · rw [hDl]; exact hS.ok _ (.head _)

set_option maxHeartbeats 1000000 in
set_option maxRecDepth 10000 in
/-- acequiaref05.From. -/
theorem f57 (c : Cs) (q : Q6) (res : List Int) (t : Int) {m : Nat} (A1 : Option Addr) (c1 : Nat) (w : World) (hwf : WF c) (hc : CsAt c q w) (hr : (sl (eInt .i64) 1 A1 m c1 res).p w) : RetL 57 [csV c q, .slice A1 m c1, .int .i64 t] w (fromL c res t) := by
  refine calls_cw Try.func57 rfl Try.ntmps57 rfl ?_
  have hS := (St.ofc hc).args (Nat.le_refl _) _ hr rfl
  have hM := hwf.m
  have hN := hwf.hi
  have hlo := hwf.lo
  have hfl := hwf.fl
  have hrr := hr.2.1
  have hrl := hr.1.1
  refine cw_seq ?_
  -- region 0
  refine cw_region ?_
  refine lw_box rfl rfl rfl rfl hS ?_
  clear hS; intro b3 w1 _ _ hS
  refine lw_v rfl rfl (ok_assign rfl (.n rfl) rfl) ?_
  refine lw_nil ?_
  refine Ends.keep [(1, .eq _), (2, .eq _), (3, .eq _)] (.cons rfl (.cons rfl (.cons rfl .nil))) ?_
  refine ends_then ?_
  refine cw_seq ?_
  refine cw_seq ?_
  -- region 1
  refine cw_region ?_
  refine lw_v rfl rfl (ok_move rfl (.n rfl) rfl) ?_
  refine lw_v rfl rfl (ok_len rfl (.n rfl) Try.underlying25 rfl) ?_
  refine lw_v rfl rfl (ok_fb rfl (.n rfl) Try.underlying29 rfl Try.sizeOf26 (by decide) rfl) ?_
  refine lw_v rfl rfl (ok_ldb rfl (.n rfl) rfl Try.isAgg26 hS (by rfl)) ?_
  refine lw_v rfl rfl (ok_len rfl (.n rfl) Try.underlying26 rfl) ?_
  refine lw_v rfl rfl (ok_neq rfl (.n rfl) rfl rfl) ?_
  refine lw_v rfl rfl (ok_move rfl (.n rfl) rfl) ?_
  refine lw_v rfl rfl (ok_move rfl (.s rfl rfl) rfl) ?_
  refine lw_v rfl rfl (ok_lss rfl (.s rfl rfl) rfl rfl) ?_
  refine lw_v rfl rfl (ok_or rfl rfl rfl rfl) ?_
  refine lw_v rfl rfl (ok_move rfl (.n rfl) rfl) ?_
  refine lw_v rfl rfl (ok_move rfl (.s rfl rfl) rfl) ?_
  refine lw_v rfl rfl (ok_fb rfl (.s rfl rfl) Try.underlying29 rfl Try.sizeOf3 (by decide) rfl) ?_
  refine lw_v rfl rfl (ok_ldb rfl (.s rfl rfl) rfl Try.isAgg3 hS (by rfl)) ?_
  refine lw_v rfl rfl (ok_geq rfl (.s rfl rfl) rfl rfl) ?_
  refine lw_v rfl rfl (ok_or rfl rfl rfl rfl) ?_
  refine lw_nil ?_
  refine Ends.keep [(1, .eq _), (2, .eq _), (3, .eq _), (27, .eq _)] (.cons rfl (.cons rfl (.cons rfl (.cons rfl .nil)))) ?_
  refine ends_then ?_
  refine cw_cond rfl (fun h27 => ?_) (fun h27 => ?_)
  ·
    have hno : inB c res t = false := by rw [← hrl, ref_in] at h27; simpa using h27
    replace hS := hS.nil (eInt .i64) 1 3
    refine cw_seq ?_
    -- region 2
    refine cw_region ?_
    refine lw_v rfl rfl (ok_assign rfl (.n rfl) rfl) ?_
    refine lw_nil ?_
    refine Ends.keep [(6, .eq _)] (.cons rfl .nil) ?_
    refine ends_then ?_
    refine cw_ret ?_
    refine then_ret (?_)
    rw [fromL_no hno]
    exact end_ret (res1 Try.results57 rfl) ⟨none, 0, rfl, hS.below, fun b hb => hS.ge _ (.head _) rfl b hb, hS.ok _ (.head _)⟩
  ·
    have hin : inB c res t = true := by rw [← hrl, ref_in] at h27; simpa using h27
    obtain ⟨hrm, ht0, htN⟩ := inB_iff.1 hin
    obtain ⟨v, rfl⟩ : ∃ v : Nat, t = (v : Int) := ⟨t.toNat, by omega⟩
    have hvN : v < c.N := by omega
    refine cw_skip ?_
    refine ends_then ?_
    refine cw_seq ?_
    -- region 3
    refine cw_region ?_
    refine lw_v rfl rfl (ok_assign rfl (.n rfl) rfl) ?_
    refine lw_nil ?_
    refine Ends.keep [(1, .eq _), (2, .eq _), (3, .eq _), (7, .eq _)] (.cons rfl (.cons rfl (.cons rfl (.cons rfl .nil)))) ?_
    refine ends_then ?_
    refine cw_seq ?_
    refine cw_seq ?_
    -- region 4
    refine cw_region ?_
    refine lw_v rfl rfl (ok_assign rfl (.n rfl) rfl) ?_
    refine lw_nil ?_
    refine Ends.keep [(1, .eq _), (2, .eq _), (3, .eq _), (7, .eq _), (8, .eq _)] (.cons rfl (.cons rfl (.cons rfl (.cons rfl (.cons rfl .nil))))) ?_
    refine ends_then ?_
    refine cw_block ?_
    -- LOOP at region 5: changed live slots [7, 8], kept [1, 2, 3]
    refine cw_loop3 [(1, .eq _), (2, .eq _), (3, .eq _)] (fun (k : Nat) (A' : Option Addr) (c' : Nat) => [(7, .eq (.slice A' (List.replicate k (c.N : Int)).length c')), (8, .eq (.int .i64 k))]) (fun k A' c' w' => k ≤ c.N ∧ St w.heap.size w w' [own (eInt .i64) 1 3 A' (List.replicate k (c.N : Int)).length c' (List.replicate k (c.N : Int)), bx b3 (csV c q).cells.toList 29, sl (eInt .i64) 1 A1 m c1 res, sl (eInt .i64) 1 q.a0 c.First.length q.c0 c.First, sl (eInt .i64) 1 q.a1 c.Head.length q.c1 c.Head, sl (eInt .i64) 1 q.a2 c.Rev.length q.c2 c.Rev, sl (eInt .i64) 1 q.a3 c.Cap.length q.c3 c.Cap, sl (eInt .i64) 1 q.a4 c.Arc.length q.c4 c.Arc, sl eBool 1 q.a5 c.Back.length q.c5 c.Back]) (fun k _ _ => c.N - k) 0 none 0 (.cons rfl (.cons rfl (.cons rfl .nil))) (.cons rfl (.cons rfl (.cons rfl (.cons rfl (.cons rfl .nil))))) ⟨Nat.zero_le _, hS.nil (eInt .i64) 1 3⟩ ?_
    clear hS
    rintro k A' c' wr ⟨hk, hS⟩
    have hrepl : (List.replicate k (c.N : Int)).length = k := List.length_replicate
    refine cw_seq ?_
    refine cw_seq ?_
    -- region 5
    refine cw_region ?_
    refine lw_v rfl rfl (ok_move rfl (.n rfl) rfl) ?_
    refine lw_v rfl rfl (ok_fb rfl (.n rfl) Try.underlying29 rfl Try.sizeOf3 (by decide) rfl) ?_
    refine lw_v rfl rfl (ok_ldb rfl (.n rfl) rfl Try.isAgg3 hS (by rfl)) ?_
    refine lw_v rfl rfl (ok_lss rfl (.n rfl) rfl rfl) ?_
    refine lw_nil ?_
    refine Ends.keep [(1, .eq _), (2, .eq _), (3, .eq _), (7, .eq _), (8, .eq _), (31, .eq _)] (.cons rfl (.cons rfl (.cons rfl (.cons rfl (.cons rfl (.cons rfl .nil)))))) ?_
    refine ends_then ?_
    refine cw_cond rfl (fun h31 => ?_) (fun h31 => ?_)
    ·
      have hkN : k < c.N := by have := of_decide_eq_true h31; omega
      refine cw_skip ?_
      refine ends_then ?_
      refine cw_seq ?_
      refine cw_block ?_
      -- region 7
      refine cw_region ?_
      refine lw_v rfl rfl (ok_move rfl (.n rfl) rfl) ?_
      refine lw_v rfl rfl (ok_fb rfl (.n rfl) Try.underlying29 rfl Try.sizeOf3 (by decide) rfl) ?_
      refine lw_v rfl rfl (ok_eq (ok_ldb rfl (.n rfl) rfl Try.isAgg3 hS (by rfl)) (c' := .int .i64 (c.N : Int)) (fun _ => rfl)) ?_
      refine lw_ls (enc := (eInt .i64)) [(c.N : Int)] rfl rfl rfl Try.underlying26 Try.sizeOf3 Try.zeroValue3 rfl (by kernel_rfl) rfl (by decide) (by decide) hS ?_
      clear hS; intro A37 c37 w2 _ hS
      refine lw_append (enc := (eInt .i64)) rfl rfl rfl Try.underlying26 info3 rfl rfl rfl hS (by decide) (by omega) (by omega) ?_
      intro A38 c38 w3 hS1; replace hS := hS1 _ (Rep.r); clear hS1
      refine lw_v rfl rfl (ok_assign rfl (.n rfl) rfl) ?_
      refine lw_nil ?_
      refine in_normal (?_)
      refine Ends.keep [(1, .eq _), (2, .eq _), (3, .eq _), (7, .eq _), (8, .eq _)] (.cons rfl (.cons rfl (.cons rfl (.cons rfl (.cons rfl .nil))))) ?_
      refine ends_then ?_
      -- region 6
      refine cw_region ?_
      refine lw_v rfl rfl (ok_move rfl (.n rfl) rfl) ?_
      refine lw_v rfl rfl (ok_addi rfl (.n rfl) rfl rfl (fun _ => ⟨by omega, by omega⟩)) ?_
      refine lw_v rfl rfl (ok_assign rfl (.n rfl) rfl) ?_
      refine lw_nil ?_
      -- BACK
      replace hS := hS.tail
      rw [← List.replicate_succ'] at hS ⊢
      exact ends_back3 (k + 1) A38 c38 (.cons rfl (.cons rfl (.cons rfl (.cons rfl (.cons rfl .nil))))) ⟨by omega, hS⟩ (by omega)
    ·
      have hke : k = c.N := by have := of_decide_eq_false h31; omega
      rw [hke] at hS hrepl ⊢
      rw [hrepl] at hS ⊢
      refine cw_exit ?_
      refine then_exit (then_exit (in_exit (?_)))
      refine Ends.keep [(1, .eq _), (2, .eq _), (3, .eq _), (7, .eq _)] (.cons rfl (.cons rfl (.cons rfl (.cons rfl .nil)))) ?_
      refine ends_then ?_
      refine cw_seq ?_
      -- region 8
      refine cw_region ?_
      refine lw_v rfl rfl (ok_move rfl (.n rfl) rfl) ?_
      refine lw_v rfl rfl (ok_move rfl (.n rfl) rfl) ?_
      refine lw_v rfl rfl (ok_ix rfl (.n rfl) Try.underlying26 Try.sizeOf3 rfl rfl hS (fun _ => ⟨by omega, by omega⟩)) ?_
      refine lw_stx (enc := (eInt .i64)) (_) rfl rfl rfl rfl rfl rfl Try.sizeOf3 hS (⟨by omega, by omega⟩) ?_
      clear hS; intro w4 hS
      refine lw_nil ?_
      refine Ends.keep [(1, .eq _), (3, .eq _), (7, .eq _)] (.cons rfl (.cons rfl (.cons rfl .nil))) ?_
      refine ends_then ?_
      refine cw_seq ?_
      refine cw_seq ?_
      -- region 9
      refine cw_region ?_
      refine lw_v rfl rfl (ok_assign rfl (.n rfl) rfl) ?_
      refine lw_nil ?_
      refine Ends.keep [(1, .eq _), (3, .eq _), (7, .eq _), (9, .eq _)] (.cons rfl (.cons rfl (.cons rfl (.cons rfl .nil)))) ?_
      refine ends_then ?_
      refine cw_block ?_
      -- LOOP at region 10: changed live slots [9], kept [1, 3, 7]
      refine cw_loop2 [(1, .eq _), (3, .eq _), (7, .eq _)] (fun (more : Bool) (D : List Int) => [(9, .eq (.bool more))]) (fun more D w' => (LowPre c.N (EE c res false) (hTo c.N v) D ∧ (more = false → Low c.N (EE c res false) (hTo c.N v) D)) ∧ St w.heap.size w w' [own (eInt .i64) 1 3 A' c.N c' D, bx b3 (csV c q).cells.toList 29, sl (eInt .i64) 1 A1 m c1 res, sl (eInt .i64) 1 q.a0 c.First.length q.c0 c.First, sl (eInt .i64) 1 q.a1 c.Head.length q.c1 c.Head, sl (eInt .i64) 1 q.a2 c.Rev.length q.c2 c.Rev, sl (eInt .i64) 1 q.a3 c.Cap.length q.c3 c.Cap, sl (eInt .i64) 1 q.a4 c.Arc.length q.c4 c.Arc, sl eBool 1 q.a5 c.Back.length q.c5 c.Back]) (fun more D => muM more D) true _ (.cons rfl (.cons rfl (.cons rfl .nil))) (.cons rfl (.cons rfl (.cons rfl (.cons rfl .nil)))) ⟨⟨LowPre.start (by simp) (fun x hx => by rw [set_get (by simpa using hvN)]; unfold hTo; simp [hx]) (hTo_nn _ _), fun h => by cases h⟩, hS⟩ ?_
      clear hS
      rintro more D0 wr ⟨⟨hpre0, hlow⟩, hS⟩
      refine cw_seq ?_
      refine cw_seq ?_
      -- region 10
      refine cw_region ?_
      refine lw_v rfl rfl (ok_move rfl (.n rfl) rfl) ?_
      refine lw_nil ?_
      refine Ends.keep [(1, .eq _), (3, .eq _), (7, .eq _), (42, .eq _)] (.cons rfl (.cons rfl (.cons rfl (.cons rfl .nil)))) ?_
      refine ends_then ?_
      refine cw_cond rfl (fun h42 => ?_) (fun h42 => ?_)
      ·
        refine cw_skip ?_
        refine ends_then ?_
        refine cw_block ?_
        refine cw_seq ?_
        -- region 11
        refine cw_region ?_
        refine lw_v rfl rfl (ok_assign rfl (.n rfl) rfl) ?_
        refine lw_nil ?_
        refine Ends.keep [(1, .eq _), (3, .eq _), (7, .eq _), (9, .eq _)] (.cons rfl (.cons rfl (.cons rfl (.cons rfl .nil)))) ?_
        refine ends_then ?_
        refine cw_seq ?_
        -- region 12
        refine cw_region ?_
        refine lw_v rfl rfl (ok_assign rfl (.n rfl) rfl) ?_
        refine lw_nil ?_
        refine Ends.keep [(1, .eq _), (3, .eq _), (7, .eq _), (9, .eq _), (10, .eq _)] (.cons rfl (.cons rfl (.cons rfl (.cons rfl (.cons rfl .nil))))) ?_
        refine ends_then ?_
        refine cw_block ?_
        -- LOOP at region 13: changed live slots [9, 10], kept [1, 3, 7]
        refine cw_loop3 [(1, .eq _), (3, .eq _), (7, .eq _)] (fun (u : Nat) (more : Bool) (D : List Int) => [(9, .eq (.bool more)), (10, .eq (.int .i64 u))]) (fun u more D w' => (u ≤ c.N ∧ PassI c.N (EE c res false) (hTo c.N v) (srcOf c false) (dstOf c false) (fun b => 0 < res.getD b 0) D0 more D (c.First.getD u 0).toNat) ∧ St w.heap.size w w' [own (eInt .i64) 1 3 A' c.N c' D, bx b3 (csV c q).cells.toList 29, sl (eInt .i64) 1 A1 m c1 res, sl (eInt .i64) 1 q.a0 c.First.length q.c0 c.First, sl (eInt .i64) 1 q.a1 c.Head.length q.c1 c.Head, sl (eInt .i64) 1 q.a2 c.Rev.length q.c2 c.Rev, sl (eInt .i64) 1 q.a3 c.Cap.length q.c3 c.Cap, sl (eInt .i64) 1 q.a4 c.Arc.length q.c4 c.Arc, sl eBool 1 q.a5 c.Back.length q.c5 c.Back]) (fun u _ _ => c.N - u) 0 false D0 (.cons rfl (.cons rfl (.cons rfl .nil))) (.cons rfl (.cons rfl (.cons rfl (.cons rfl (.cons rfl .nil))))) ⟨⟨Nat.zero_le _, by rw [hwf.f0]; exact PassI.start hpre0⟩, hS⟩ ?_
        clear hS
        rintro u more D wr ⟨⟨hu, hps⟩, hS⟩
        refine cw_seq ?_
        refine cw_seq ?_
        -- region 13
        refine cw_region ?_
        refine lw_v rfl rfl (ok_move rfl (.n rfl) rfl) ?_
        refine lw_v rfl rfl (ok_fb rfl (.n rfl) Try.underlying29 rfl Try.sizeOf3 (by decide) rfl) ?_
        refine lw_v rfl rfl (ok_ldb rfl (.n rfl) rfl Try.isAgg3 hS (by rfl)) ?_
        refine lw_v rfl rfl (ok_lss rfl (.n rfl) rfl rfl) ?_
        refine lw_nil ?_
        refine Ends.keep [(1, .eq _), (3, .eq _), (7, .eq _), (9, .eq _), (10, .eq _), (46, .eq _)] (.cons rfl (.cons rfl (.cons rfl (.cons rfl (.cons rfl (.cons rfl .nil)))))) ?_
        refine ends_then ?_
        refine cw_cond rfl (fun h46 => ?_) (fun h46 => ?_)
        ·
          have huN : u < c.N := by have := of_decide_eq_true h46; omega
          obtain ⟨hf0, hf1, hf2⟩ := seg_rng hwf huN
          refine cw_skip ?_
          refine ends_then ?_
          refine cw_seq ?_
          refine cw_block ?_
          refine cw_seq ?_
          -- region 15
          refine cw_region ?_
          refine lw_v rfl rfl (ok_fb rfl (.n rfl) Try.underlying29 rfl Try.sizeOf26 (by decide) rfl) ?_
          refine lw_v rfl rfl (ok_ldb rfl (.n rfl) rfl Try.isAgg26 hS (by rfl)) ?_
          refine lw_v rfl rfl (ok_move rfl (.n rfl) rfl) ?_
          refine lw_v rfl rfl (ok_ix rfl (.n rfl) Try.underlying26 Try.sizeOf3 rfl rfl hS (fun _ => ⟨by omega, by omega⟩)) ?_
          refine lw_v rfl rfl (ok_eq (ok_ldx rfl (.n rfl) rfl Try.isAgg3 hS (fun _ => ⟨by omega, by omega⟩) (by rfl)) (c' := .int .i64 (((c.First.getD u 0).toNat : Nat) : Int)) (fun _ => congrArg (Value.int .i64) (Int.toNat_of_nonneg hf0).symm)) ?_
          refine lw_v rfl rfl (ok_assign rfl (.n rfl) rfl) ?_
          refine lw_nil ?_
          refine Ends.keep [(1, .eq _), (3, .eq _), (7, .eq _), (9, .eq _), (10, .eq _), (11, .eq _)] (.cons rfl (.cons rfl (.cons rfl (.cons rfl (.cons rfl (.cons rfl .nil)))))) ?_
          refine ends_then ?_
          refine cw_block ?_
          -- LOOP at region 16: changed live slots [9, 11], kept [1, 3, 7, 10]
          refine cw_loop3 [(1, .eq _), (3, .eq _), (7, .eq _), (10, .eq _)] (fun (a : Nat) (more : Bool) (D : List Int) => [(9, .eq (.bool more)), (11, .eq (.int .i64 a))]) (fun a more D w' => ((c.First.getD u 0 ≤ a ∧ a ≤ c.First.getD (u + 1) 0) ∧ PassI c.N (EE c res false) (hTo c.N v) (srcOf c false) (dstOf c false) (fun b => 0 < res.getD b 0) D0 more D a) ∧ St w.heap.size w w' [own (eInt .i64) 1 3 A' c.N c' D, bx b3 (csV c q).cells.toList 29, sl (eInt .i64) 1 A1 m c1 res, sl (eInt .i64) 1 q.a0 c.First.length q.c0 c.First, sl (eInt .i64) 1 q.a1 c.Head.length q.c1 c.Head, sl (eInt .i64) 1 q.a2 c.Rev.length q.c2 c.Rev, sl (eInt .i64) 1 q.a3 c.Cap.length q.c3 c.Cap, sl (eInt .i64) 1 q.a4 c.Arc.length q.c4 c.Arc, sl eBool 1 q.a5 c.Back.length q.c5 c.Back]) (fun a _ _ => (c.First.getD (u + 1) 0 - a).toNat) (c.First.getD u 0).toNat more D (.cons rfl (.cons rfl (.cons rfl (.cons rfl .nil)))) (.cons rfl (.cons rfl (.cons rfl (.cons rfl (.cons rfl (.cons rfl .nil)))))) ⟨⟨⟨by omega, by omega⟩, hps⟩, hS⟩ ?_
          clear hS
          clear hps D more
          rintro a more D wr ⟨⟨⟨ha0, ha1⟩, hps⟩, hS⟩
          have hDl := hps.pre.len
          refine cw_seq ?_
          refine cw_seq ?_
          -- region 16
          refine cw_region ?_
          refine lw_v rfl rfl (ok_move rfl (.n rfl) rfl) ?_
          refine lw_v rfl rfl (ok_fb rfl (.n rfl) Try.underlying29 rfl Try.sizeOf26 (by decide) rfl) ?_
          refine lw_v rfl rfl (ok_ldb rfl (.n rfl) rfl Try.isAgg26 hS (by rfl)) ?_
          refine lw_v rfl rfl (ok_move rfl (.n rfl) rfl) ?_
          refine lw_v rfl rfl (ok_addi rfl (.n rfl) rfl rfl (fun _ => ⟨by omega, by omega⟩)) ?_
          refine lw_v rfl rfl (ok_ix rfl (.n rfl) Try.underlying26 Try.sizeOf3 rfl rfl hS (fun _ => ⟨by omega, by omega⟩)) ?_
          refine lw_v rfl rfl (ok_ldx rfl (.n rfl) rfl Try.isAgg3 hS (fun _ => ⟨by omega, by omega⟩) (by rfl)) ?_
          refine lw_v rfl rfl (ok_lss rfl (.n rfl) rfl rfl) ?_
          refine lw_nil ?_
          refine Ends.keep [(1, .eq _), (3, .eq _), (7, .eq _), (9, .eq _), (10, .eq _), (11, .eq _), (61, .eq _)] (.cons rfl (.cons rfl (.cons rfl (.cons rfl (.cons rfl (.cons rfl (.cons rfl .nil))))))) ?_
          refine ends_then ?_
          refine cw_cond rfl (fun h61 => ?_) (fun h61 => ?_)
          ·
            have hlt : (a : Int) < c.First.getD (u + 1) 0 := of_decide_eq_true h61
            have haM : a < c.Head.length := by omega
            obtain ⟨x, hx', hxN⟩ := head_at hwf haM
            have hx : c.Head.getD (a : Int).toNat 0 = (x : Int) := hx'
            have htl := tail_eq hwf huN ha0 hlt
            have hDu : 0 ≤ D.getD (u : Int).toNat 0 ∧ D.getD (u : Int).toNat 0 ≤ c.N := pre_rng hps.pre huN
            have hDx : 0 ≤ D.getD (x : Int).toNat 0 ∧ D.getD (x : Int).toNat 0 ≤ c.N := pre_rng hps.pre hxN
            refine cw_skip ?_
            refine ends_then ?_
            refine cw_seq ?_
            refine cw_block ?_
            refine cw_seq ?_
            -- region 18
            refine cw_draw (by kernel_rfl) (List.take 19 _) (List.drop 19 _) (List.take_append_drop 19 _).symm (by kernel_rfl) ?_
            refine free_v (ok_move rfl (.n rfl) rfl) ?_
            refine free_v (ok_move rfl (.n rfl) rfl) ?_
            refine free_v (ok_ix rfl (.n rfl) Try.underlying25 Try.sizeOf2 rfl rfl hS (fun _ => ⟨by omega, by omega⟩)) ?_
            refine free_v (ok_ldx rfl (.n rfl) rfl Try.isAgg2 hS (fun _ => ⟨by omega, by omega⟩) (by rfl)) ?_
            refine free_v (ok_gtr rfl (.n rfl) rfl rfl) ?_
            refine free_v (ok_move rfl (.n rfl) rfl) ?_
            refine free_v (ok_move rfl (.s rfl rfl) rfl) ?_
            refine free_v (ok_move rfl (.s rfl rfl) rfl) ?_
            refine free_v (ok_ix rfl (.s rfl rfl) Try.underlying26 Try.sizeOf3 rfl rfl hS (fun _ => ⟨by omega, by omega⟩)) ?_
            refine free_v (ok_ldx rfl (.s rfl rfl) rfl Try.isAgg3 hS (fun _ => ⟨by omega, by omega⟩) (by rfl)) ?_
            refine free_v (ok_addi rfl (.s rfl rfl) rfl rfl (fun _ => ⟨by omega, by omega⟩)) ?_
            refine free_v (ok_move rfl (.s rfl rfl) rfl) ?_
            refine free_v (ok_fb rfl (.s rfl rfl) Try.underlying29 rfl Try.sizeOf26 (by decide) rfl) ?_
            refine free_v (ok_ldb rfl (.s rfl rfl) rfl Try.isAgg26 hS (by rfl)) ?_
            refine free_v (ok_move rfl (.s rfl rfl) rfl) ?_
            refine free_v (ok_ix rfl (.s rfl rfl) Try.underlying26 Try.sizeOf3 rfl rfl hS (fun _ => ⟨by omega, by omega⟩)) ?_
            refine free_v (ok_eq (ok_ldx rfl (.s rfl rfl) rfl Try.isAgg3 hS (fun _ => ⟨by omega, by omega⟩) (by rfl)) (c' := .int .i64 (x : Int)) (fun _ => congrArg (Value.int .i64) hx)) ?_
            refine free_v (ok_ix rfl (.s rfl rfl) Try.underlying26 Try.sizeOf3 rfl rfl hS (fun _ => ⟨by omega, by omega⟩)) ?_
            refine free_v (ok_ldx rfl (.s rfl rfl) rfl Try.isAgg3 hS (fun _ => ⟨by omega, by omega⟩) (by rfl)) ?_
            refine free_nil ?_
            intro w5 hg_; replace hS := hS.grow hg_; clear hg_
            refine lw_v rfl rfl (ok_lss rfl (.s rfl rfl) rfl rfl) ?_
            refine lw_v rfl rfl (ok_and rfl rfl rfl rfl) ?_
            refine lw_nil ?_
            refine Ends.keep [(1, .eq _), (3, .eq _), (7, .eq _), (9, .eq _), (10, .eq _), (11, .eq _), (84, .eq _)] (.cons rfl (.cons rfl (.cons rfl (.cons rfl (.cons rfl (.cons rfl (.cons rfl .nil))))))) ?_
            refine ends_then ?_
            refine cw_cond rfl (fun h84 => ?_) (fun h84 => ?_)
            ·
              refine cw_seq ?_
              -- region 19
              refine cw_draw (by kernel_rfl) (List.take 11 _) (List.drop 11 _) (List.take_append_drop 11 _).symm (by kernel_rfl) ?_
              refine free_v (ok_move rfl (.n rfl) rfl) ?_
              refine free_v (ok_fb rfl (.n rfl) Try.underlying29 rfl Try.sizeOf26 (by decide) rfl) ?_
              refine free_v (ok_ldb rfl (.n rfl) rfl Try.isAgg26 hS (by rfl)) ?_
              refine free_v (ok_move rfl (.n rfl) rfl) ?_
              refine free_v (ok_ix rfl (.n rfl) Try.underlying26 Try.sizeOf3 rfl rfl hS (fun _ => ⟨by omega, by omega⟩)) ?_
              refine free_v (ok_eq (ok_ldx rfl (.n rfl) rfl Try.isAgg3 hS (fun _ => ⟨by omega, by omega⟩) (by rfl)) (c' := .int .i64 (x : Int)) (fun _ => congrArg (Value.int .i64) hx)) ?_
              refine free_v (ok_move rfl (.n rfl) rfl) ?_
              refine free_v (ok_move rfl (.n rfl) rfl) ?_
              refine free_v (ok_ix rfl (.n rfl) Try.underlying26 Try.sizeOf3 rfl rfl hS (fun _ => ⟨by omega, by omega⟩)) ?_
              refine free_v (ok_ldx rfl (.n rfl) rfl Try.isAgg3 hS (fun _ => ⟨by omega, by omega⟩) (by rfl)) ?_
              refine free_v (ok_addi rfl (.n rfl) rfl rfl (fun _ => ⟨by omega, by omega⟩)) ?_
              refine free_nil ?_
              intro w6 hg_; replace hS := hS.grow hg_; clear hg_
              refine lw_v rfl rfl (ok_ix rfl (.n rfl) Try.underlying26 Try.sizeOf3 rfl rfl hS (fun _ => ⟨by omega, by omega⟩)) ?_
              refine lw_stx (enc := (eInt .i64)) (_) rfl rfl rfl rfl rfl rfl Try.sizeOf3 hS (⟨by omega, by omega⟩) ?_
              clear hS; intro w7 hS
              refine lw_nil ?_
              refine Ends.keep [(1, .eq _), (3, .eq _), (7, .eq _), (10, .eq _), (11, .eq _)] (.cons rfl (.cons rfl (.cons rfl (.cons rfl (.cons rfl .nil))))) ?_
              refine ends_then ?_
              -- region 20
              refine cw_region ?_
              refine lw_v rfl rfl (ok_assign rfl (.n rfl) rfl) ?_
              refine lw_nil ?_
              refine in_normal (?_)
              refine Ends.keep [(1, .eq _), (3, .eq _), (7, .eq _), (9, .eq _), (10, .eq _), (11, .eq _)] (.cons rfl (.cons rfl (.cons rfl (.cons rfl (.cons rfl (.cons rfl .nil)))))) ?_
              refine ends_then ?_
              -- region 17
              refine cw_region ?_
              refine lw_v rfl rfl (ok_move rfl (.n rfl) rfl) ?_
              refine lw_v rfl rfl (ok_addi rfl (.n rfl) rfl rfl (fun _ => ⟨by omega, by omega⟩)) ?_
              refine lw_v rfl rfl (ok_assign rfl (.n rfl) rfl) ?_
              refine lw_nil ?_
              -- BACK
              refine ends_back3 (a + 1) true _ (.cons rfl (.cons rfl (.cons rfl (.cons rfl (.cons rfl (.cons rfl .nil)))))) ⟨⟨⟨by omega, by omega⟩, hps.step hxN huN (show EE c res false x u from ⟨a, haM, htl, by rw [hx']; rfl, (and_of h84).1⟩) (and_of h84).2⟩, hS⟩ (by omega)
            ·
              refine cw_skip ?_
              refine in_normal (?_)
              refine ends_then ?_
              -- region 17
              refine cw_region ?_
              refine lw_v rfl rfl (ok_move rfl (.n rfl) rfl) ?_
              refine lw_v rfl rfl (ok_addi rfl (.n rfl) rfl rfl (fun _ => ⟨by omega, by omega⟩)) ?_
              refine lw_v rfl rfl (ok_assign rfl (.n rfl) rfl) ?_
              refine lw_nil ?_
              -- BACK
              refine ends_back3 (a + 1) more D (.cons rfl (.cons rfl (.cons rfl (.cons rfl (.cons rfl (.cons rfl .nil)))))) ⟨⟨⟨by omega, by omega⟩, hps.skip fun ho => ?_⟩, hS⟩ (by omega)
              have h85 := nand_of h84
              show D.getD (c.Head.getD a 0).toNat 0 ≤ D.getD (tailOf c a) 0 + 1
              rw [htl, show (c.Head.getD a 0).toNat = x by rw [hx']; rfl]
              exact Int.not_lt.1 fun h => h85 ⟨ho, h⟩
          ·
            have hge : ¬ (a : Int) < c.First.getD (u + 1) 0 := of_decide_eq_false h61
            refine cw_exit ?_
            refine then_exit (then_exit (in_exit (?_)))
            refine in_normal (?_)
            refine Ends.keep [(1, .eq _), (3, .eq _), (7, .eq _), (9, .eq _), (10, .eq _)] (.cons rfl (.cons rfl (.cons rfl (.cons rfl (.cons rfl .nil))))) ?_
            refine ends_then ?_
            -- region 14
            refine cw_region ?_
            refine lw_v rfl rfl (ok_move rfl (.n rfl) rfl) ?_
            refine lw_v rfl rfl (ok_addi rfl (.n rfl) rfl rfl (fun _ => ⟨by omega, by omega⟩)) ?_
            refine lw_v rfl rfl (ok_assign rfl (.n rfl) rfl) ?_
            refine lw_nil ?_
            -- BACK
            refine ends_back3 (u + 1) more D (.cons rfl (.cons rfl (.cons rfl (.cons rfl (.cons rfl .nil))))) ⟨⟨by omega, by rw [show (c.First.getD (u + 1) 0).toNat = a by omega]; exact hps⟩, hS⟩ (by omega)
        ·
          have hge : ¬ u < c.N := by have := of_decide_eq_false h46; omega
          refine cw_exit ?_
          refine then_exit (then_exit (in_exit (?_)))
          refine in_normal (?_)
          -- BACK
          refine ends_back2 more D (.cons rfl (.cons rfl (.cons rfl (.cons rfl .nil)))) ⟨⟨hps.pre, fun hm => ?_⟩, hS⟩ (by subst h42; exact mu_pass hps)
          subst hm
          have hps2 := hps
          rw [show u = c.N by omega, hwf.fN, Int.toNat_natCast] at hps2
          exact hps2.low fun x y _ _ he => by obtain ⟨b, h1, h2, h3, h4⟩ := arc_ee he; exact ⟨b, h1, h2, h3, h4⟩
      ·
        refine cw_exit ?_
        refine then_exit (then_exit (in_exit (?_)))
        refine Ends.keep [(7, .eq _)] (.cons rfl .nil) ?_
        refine ends_then ?_
        refine cw_seq ?_
        -- region 21
        refine cw_region ?_
        refine lw_v rfl rfl (ok_move rfl (.n rfl) rfl) ?_
        refine lw_v rfl rfl (ok_assign rfl (.n rfl) rfl) ?_
        refine lw_nil ?_
        refine Ends.keep [(6, .eq _)] (.cons rfl .nil) ?_
        refine ends_then ?_
        refine cw_ret ?_
        have hL := hlow h42
        have e : fromL c res (v : Int) = D0 := fromL_eq hin hL
        have hDl := hL.len
        rw [e]
        refine end_ret (res1 Try.results57 rfl) ⟨A', c', by rw [hDl], hS.below, ?_, ?_⟩
        · rw [hDl]; exact fun b hb => hS.ge _ (.head _) rfl b hb
        · rw [hDl]; exact hS.ok _ (.head _)

end Go.Proofs.Ytnpgeohkmdcbkaa.Aq

namespace Go.Proofs.Ytnpgeohkmdcbkaa.Aq
open Go Go.RowKit

set_option maxRecDepth 10000 in
/-- acequiaref05.open. -/
theorem f93 (c : Cs) (q : Q6) (res : List Int) (u a : Nat) {m : Nat} (A1 : Option Addr) (c1 : Nat) (w : World) (hwf : WF c) (hc : CsAt c q w) (hr : (sl (eInt .i64) 1 A1 m c1 res).p w) (hu : u < c.N) (hm : res.length = c.Head.length) : RetV 93 [csV c q, .slice A1 m c1, .int .i64 u, .int .i64 a] w (.bool ((decide (c.First.getD u 0 ≤ (a : Int)) && decide ((a : Int) < c.First.getD (u + 1) 0)) && decide (0 < res.getD a 0))) := by
  refine calls_cw Try.func93 rfl Try.ntmps93 rfl ?_
  have hS := (St.ofc hc).args (Nat.le_refl _) _ hr rfl
  have hM := hwf.m
  have hN := hwf.hi
  have hlo := hwf.lo
  have hfl := hwf.fl
  obtain ⟨hf0, hf1, hf2⟩ := seg_rng hwf hu
  have hrl := hr.1.1
  refine cw_seq ?_
  -- region 0
  refine cw_region ?_
  refine lw_box rfl rfl rfl rfl hS ?_
  clear hS; intro b4 w1 _ _ hS
  refine lw_v rfl rfl (ok_assign rfl (.n rfl) rfl) ?_
  refine lw_nil ?_
  refine Ends.keep [(1, .eq _), (2, .eq _), (3, .eq _), (4, .eq _)] (.cons rfl (.cons rfl (.cons rfl (.cons rfl .nil)))) ?_
  refine ends_then ?_
  refine cw_seq ?_
  -- region 1
  refine cw_region ?_
  refine lw_v rfl rfl (ok_move rfl (.n rfl) rfl) ?_
  refine lw_v rfl rfl (ok_fb rfl (.n rfl) Try.underlying29 rfl Try.sizeOf26 (by decide) rfl) ?_
  refine lw_v rfl rfl (ok_ldb rfl (.n rfl) rfl Try.isAgg26 hS (by rfl)) ?_
  refine lw_v rfl rfl (ok_move rfl (.n rfl) rfl) ?_
  refine lw_v rfl rfl (ok_ix rfl (.n rfl) Try.underlying26 Try.sizeOf3 rfl rfl hS (fun _ => ⟨by omega, by omega⟩)) ?_
  refine lw_v rfl rfl (ok_ldx rfl (.n rfl) rfl Try.isAgg3 hS (fun _ => ⟨by omega, by omega⟩) (by rfl)) ?_
  refine lw_v rfl rfl (ok_geq rfl (.n rfl) rfl rfl) ?_
  refine lw_v rfl rfl (ok_move rfl (.n rfl) rfl) ?_
  refine lw_v rfl rfl (ok_move rfl (.s rfl rfl) rfl) ?_
  refine lw_v rfl rfl (ok_fb rfl (.s rfl rfl) Try.underlying29 rfl Try.sizeOf26 (by decide) rfl) ?_
  refine lw_v rfl rfl (ok_ldb rfl (.s rfl rfl) rfl Try.isAgg26 hS (by rfl)) ?_
  refine lw_v rfl rfl (ok_move rfl (.s rfl rfl) rfl) ?_
  refine lw_v rfl rfl (ok_addi rfl (.s rfl rfl) rfl rfl (fun _ => ⟨by omega, by omega⟩)) ?_
  refine lw_v rfl rfl (ok_ix rfl (.s rfl rfl) Try.underlying26 Try.sizeOf3 rfl rfl hS (fun _ => ⟨by omega, by omega⟩)) ?_
  refine lw_v rfl rfl (ok_ldx rfl (.s rfl rfl) rfl Try.isAgg3 hS (fun _ => ⟨by omega, by omega⟩) (by rfl)) ?_
  refine lw_v rfl rfl (ok_lss rfl (.s rfl rfl) rfl rfl) ?_
  refine lw_v rfl rfl (ok_and rfl rfl rfl rfl) ?_
  refine lw_v rfl rfl (ok_move rfl (.n rfl) rfl) ?_
  refine lw_v rfl rfl (ok_move rfl (.s rfl rfl) rfl) ?_
  refine lw_v rfl rfl (ok_move rfl (.s rfl rfl) rfl) ?_
  refine lw_v rfl rfl (ok_ix rfl (.s rfl rfl) Try.underlying25 Try.sizeOf2 rfl rfl hS (fun hg => ⟨by omega, by have h9 : (decide (c.First.getD u 0 ≤ (a : Int)) && decide ((a : Int) < c.First.getD (u + 1) 0)) = true := hg; rw [Bool.and_eq_true, decide_eq_true_eq, decide_eq_true_eq] at h9; omega⟩)) ?_
  refine lw_v rfl rfl (ok_ldx rfl (.s rfl rfl) rfl Try.isAgg2 hS (fun hg => ⟨by omega, by have h9 : (decide (c.First.getD u 0 ≤ (a : Int)) && decide ((a : Int) < c.First.getD (u + 1) 0)) = true := hg; rw [Bool.and_eq_true, decide_eq_true_eq, decide_eq_true_eq] at h9; omega⟩) (by rfl)) ?_
  refine lw_v rfl rfl (ok_gtr rfl (.s rfl rfl) rfl rfl) ?_
  refine lw_v rfl rfl (ok_and rfl rfl rfl rfl) ?_
  refine lw_v rfl rfl (ok_assign rfl (.n rfl) rfl) ?_
  refine lw_nil ?_
  refine Ends.keep [(8, .eq _)] (.cons rfl .nil) ?_
  refine ends_then ?_
  refine cw_ret ?_
  exact end_ret (res1 Try.results93 rfl) ⟨rfl, hS.below⟩

theorem pn_no {c : Cs} (hw : WF c) {res D : List Int} {t u a x : Nat} (hL : Low c.N (Edge c res) (hTo c.N t) D) (hu : u < c.N) (hx : c.Head.getD a 0 = (x : Int)) (h : (!((decide (c.First.getD u 0 ≤ (a : Int)) && decide ((a : Int) < c.First.getD (u + 1) 0)) && decide (0 < res.getD a 0)) || !decide (D.getD (x : Int).toNat 0 = D.getD (u : Int).toNat 0 - 1)) = true) : ¬ PN c res D u a := fun hp => by
  have h1 := (near_is hw hL hu hp).2.2.2
  rw [hx] at h1
  rw [decide_eq_true hp.1, decide_eq_true hp.2.1, decide_eq_true hp.2.2.1, decide_eq_true (show D.getD (x : Int).toNat 0 = D.getD (u : Int).toNat 0 - 1 from h1)] at h
  cases h
theorem pn_yes {c : Cs} {res D : List Int} {u a x : Nat} (hx : c.Head.getD a 0 = (x : Int)) (h : (!((decide (c.First.getD u 0 ≤ (a : Int)) && decide ((a : Int) < c.First.getD (u + 1) 0)) && decide (0 < res.getD a 0)) || !decide (D.getD (x : Int).toNat 0 = D.getD (u : Int).toNat 0 - 1)) = false) : PN c res D u a := by
  simp only [Bool.or_eq_false_iff, Bool.not_eq_false', Bool.and_eq_true, decide_eq_true_eq] at h
  obtain ⟨⟨⟨h1, h2⟩, h3⟩, h4⟩ := h
  refine ⟨h1, h2, h3, ?_⟩
  have h5 : D.getD x 0 = D.getD u 0 - 1 := h4
  rw [hx, Int.toNat_natCast]
  omega
set_option maxHeartbeats 1000000 in
set_option maxRecDepth 10000 in
/-- acequiaref05.Way. -/
theorem f55 (c : Cs) (q : Q6) (res : List Int) (s t : Int) (A1 : Option Addr) (c1 : Nat) (w : World) (hwf : WF c) (hc : CsAt c q w) (hr : (sl (eInt .i64) 1 A1 res.length c1 res).p w) :
    Calls Try.prog 55 #[csV c q, .slice A1 res.length c1, .int .i64 s, .int .i64 t] w fun e w' => ∃ A c', e = .returned (.tuple #[.slice A (wayF c res s t).length c', .bool (wayB c res s t)]) ∧ Gr w w' ∧ (∀ b, (own (eInt .i64) 1 3 A (wayF c res s t).length c' (wayF c res s t)).fp b → w.heap.size ≤ b) ∧ (own (eInt .i64) 1 3 A (wayF c res s t).length c' (wayF c res s t)).p w' := by
  cases hin : inB c res t with
  | false =>
    refine calls_cw Try.func55 rfl Try.ntmps55 rfl ?_
    have hS := (St.ofc hc).args (Nat.le_refl _) _ hr rfl
    have hM := hwf.m
    have hN := hwf.hi
    have hlo := hwf.lo
    have hfl := hwf.fl
    have hrr := hr.2.1
    have hwb : wayB c res s t = false := by unfold wayB; rw [hin]; rfl
    unfold wayF
    rw [if_neg (by rw [hwb]; decide), hwb]
    refine cw_seq ?_
    -- region 0
    refine cw_region ?_
    refine lw_box rfl rfl rfl rfl hS ?_
    clear hS; intro b4 w1 _ _ hS
    refine lw_v rfl rfl (ok_assign rfl (.n rfl) rfl) ?_
    refine lw_v rfl rfl (ok_assign rfl (.n rfl) rfl) ?_
    refine lw_nil ?_
    refine Ends.keep [(1, .eq _), (2, .eq _), (3, .eq _), (4, .eq _)] (.cons rfl (.cons rfl (.cons rfl (.cons rfl .nil)))) ?_
    refine ends_then ?_
    refine cw_seq ?_
    -- region 1
    refine cw_region ?_
    refine lw_v rfl rfl (ok_ldS rfl (.n rfl) rfl Try.isAgg29 Try.sizeOf29 hS rfl) ?_
    refine lw_v rfl rfl (ok_move rfl (.n rfl) rfl) ?_
    refine lw_v rfl rfl (ok_move rfl (.n rfl) rfl) ?_
    refine lw_call (f := 56) (xs := [_, _, _]) rfl rfl rfl Try.call56 rfl (Calls.mono (f56 c q res t A1 c1 _ hwf (hS.cs q) (hS.rd A1 hrr)) ?_)
    rw [toL_no hin]
    rintro e w' ⟨A17, c17, rfl, hg, hfr, ho⟩
    replace hS := hS.new hg _ ho hfr; clear hg ho hfr
    refine ⟨_, rfl, ?_⟩
    refine lw_v rfl rfl (ok_assign rfl (.n rfl) rfl) ?_
    refine lw_nil ?_
    refine Ends.keep [(1, .eq _), (2, .eq _), (3, .eq _), (4, .eq _), (10, .eq _)] (.cons rfl (.cons rfl (.cons rfl (.cons rfl (.cons rfl .nil))))) ?_
    refine ends_then ?_
    refine cw_seq ?_
    refine cw_seq ?_
    -- region 2
    refine cw_draw (by kernel_rfl) (List.take 20 _) (List.drop 20 _) (List.take_append_drop 20 _).symm (by kernel_rfl) ?_
    refine free_v (ok_move rfl (.n rfl) rfl) ?_
    refine free_v (ok_len rfl (.n rfl) Try.underlying26 rfl) ?_
    refine free_v (ok_eq (ok_eql rfl (.n rfl) rfl rfl) (c' := .bool true) (fun _ => rfl)) ?_
    refine free_v (ok_move rfl (.n rfl) rfl) ?_
    refine free_v (ok_move rfl (.s rfl rfl) rfl) ?_
    refine free_v (ok_lss rfl (.s rfl rfl) rfl rfl) ?_
    refine free_v (ok_or rfl rfl rfl rfl) ?_
    refine free_v (ok_move rfl (.n rfl) rfl) ?_
    refine free_v (ok_move rfl (.s rfl rfl) rfl) ?_
    refine free_v (ok_fb rfl (.s rfl rfl) Try.underlying29 rfl Try.sizeOf3 (by decide) rfl) ?_
    refine free_v (ok_ldb rfl (.s rfl rfl) rfl Try.isAgg3 hS (by rfl)) ?_
    refine free_v (ok_geq rfl (.s rfl rfl) rfl rfl) ?_
    refine free_v (ok_or rfl rfl rfl rfl) ?_
    refine free_v (ok_move rfl (.n rfl) rfl) ?_
    refine free_v (ok_move rfl (.s rfl rfl) rfl) ?_
    refine free_v (ok_move rfl (.s rfl rfl) rfl) ?_
    refine free_v (ok_ix rfl (.s rfl rfl) Try.underlying26 Try.sizeOf3 rfl rfl hS (fun hg => by cases hg)) ?_
    refine free_v (ok_ldx rfl (.s rfl rfl) rfl Try.isAgg3 hS (fun hg => by cases hg) (by rfl)) ?_
    refine free_v (ok_fb rfl (.s rfl rfl) Try.underlying29 rfl Try.sizeOf3 (by decide) rfl) ?_
    refine free_v (ok_ldb rfl (.s rfl rfl) rfl Try.isAgg3 hS (by rfl)) ?_
    refine free_nil ?_
    intro w2 hg_; replace hS := hS.grow hg_; clear hg_
    refine lw_v rfl rfl (ok_eql rfl (.s rfl rfl) rfl rfl) ?_
    refine lw_v rfl rfl (ok_or rfl rfl rfl rfl) ?_
    refine lw_nil ?_
    refine Ends.keep [(1, .eq _), (2, .eq _), (3, .eq _), (4, .eq _), (10, .eq _), (39, .eq _)] (.cons rfl (.cons rfl (.cons rfl (.cons rfl (.cons rfl (.cons rfl .nil)))))) ?_
    refine ends_then ?_
    refine cw_cond rfl (fun h39 => ?_) (fun h39 => ?_)
    ·
      replace hS := hS.nil (eInt .i64) 1 3
      refine cw_seq ?_
      -- region 3
      refine cw_region ?_
      refine lw_v rfl rfl (ok_assign rfl (.n rfl) rfl) ?_
      refine lw_v rfl rfl (ok_assign rfl (.n rfl) rfl) ?_
      refine lw_nil ?_
      refine Ends.keep [(8, .eq _), (9, .eq _)] (.cons rfl (.cons rfl .nil)) ?_
      refine ends_then ?_
      refine cw_ret ?_
      refine then_ret (?_)
      exact end_ret (res2 Try.results55 rfl rfl) ⟨none, 0, rfl, hS.below, fun b hb => hS.ge _ (.head _) rfl b hb, hS.ok _ (.head _)⟩
    ·
      cases h39
  | true =>
    refine calls_cw Try.func55 rfl Try.ntmps55 rfl ?_
    have hS := (St.ofc hc).args (Nat.le_refl _) _ hr rfl
    have hM := hwf.m
    have hN := hwf.hi
    have hlo := hwf.lo
    have hfl := hwf.fl
    have hrr := hr.2.1
    obtain ⟨hrl, ht0, htN⟩ := inB_iff.1 hin
    obtain ⟨v, rfl⟩ : ∃ v : Nat, t = (v : Int) := ⟨t.toNat, by omega⟩
    have hL := toL_low hin
    refine cw_seq ?_
    -- region 0
    refine cw_region ?_
    refine lw_box rfl rfl rfl rfl hS ?_
    clear hS; intro b4 w1 _ _ hS
    refine lw_v rfl rfl (ok_assign rfl (.n rfl) rfl) ?_
    refine lw_v rfl rfl (ok_assign rfl (.n rfl) rfl) ?_
    refine lw_nil ?_
    refine Ends.keep [(1, .eq _), (2, .eq _), (3, .eq _), (4, .eq _)] (.cons rfl (.cons rfl (.cons rfl (.cons rfl .nil)))) ?_
    refine ends_then ?_
    refine cw_seq ?_
    -- region 1
    refine cw_region ?_
    refine lw_v rfl rfl (ok_ldS rfl (.n rfl) rfl Try.isAgg29 Try.sizeOf29 hS rfl) ?_
    refine lw_v rfl rfl (ok_move rfl (.n rfl) rfl) ?_
    refine lw_v rfl rfl (ok_move rfl (.n rfl) rfl) ?_
    refine lw_call (f := 56) (xs := [_, _, _]) rfl rfl rfl Try.call56 rfl (Calls.mono (f56 c q res v A1 c1 _ hwf (hS.cs q) (hS.rd A1 hrr)) ?_)
    rintro e w' ⟨A17, c17, rfl, hg, hfr, ho⟩
    replace hS := hS.new hg _ ho hfr; clear hg ho hfr
    unfold wayF
    have hwb := wayB_iff (c := c) (res := res) (s := s) (t := (v : Int))
    have hL : Low c.N (Edge c res) (hTo c.N v) (toL c res v) := hL
    generalize toL c res (v : Int) = D at hS hL hwb ⊢
    have hDl := hL.len
    replace hS := hS.freeze .here (by omega)
    refine ⟨_, rfl, ?_⟩
    refine lw_v rfl rfl (ok_assign rfl (.n rfl) rfl) ?_
    refine lw_nil ?_
    refine Ends.keep [(1, .eq _), (2, .eq _), (3, .eq _), (4, .eq _), (10, .eq _)] (.cons rfl (.cons rfl (.cons rfl (.cons rfl (.cons rfl .nil))))) ?_
    refine ends_then ?_
    refine cw_seq ?_
    refine cw_seq ?_
    -- region 2
    refine cw_draw (by kernel_rfl) (List.take 20 _) (List.drop 20 _) (List.take_append_drop 20 _).symm (by kernel_rfl) ?_
    refine free_v (ok_move rfl (.n rfl) rfl) ?_
    refine free_v (ok_len rfl (.n rfl) Try.underlying26 rfl) ?_
    refine free_v (ok_eq (ok_eql rfl (.n rfl) rfl rfl) (c' := .bool false) (fun _ => congrArg Value.bool (decide_eq_false (by omega)))) ?_
    refine free_v (ok_move rfl (.n rfl) rfl) ?_
    refine free_v (ok_move rfl (.s rfl rfl) rfl) ?_
    refine free_v (ok_lss rfl (.s rfl rfl) rfl rfl) ?_
    refine free_v (ok_or rfl rfl rfl rfl) ?_
    refine free_v (ok_move rfl (.n rfl) rfl) ?_
    refine free_v (ok_move rfl (.s rfl rfl) rfl) ?_
    refine free_v (ok_fb rfl (.s rfl rfl) Try.underlying29 rfl Try.sizeOf3 (by decide) rfl) ?_
    refine free_v (ok_ldb rfl (.s rfl rfl) rfl Try.isAgg3 hS (by rfl)) ?_
    refine free_v (ok_geq rfl (.s rfl rfl) rfl rfl) ?_
    refine free_v (ok_or rfl rfl rfl rfl) ?_
    refine free_v (ok_move rfl (.n rfl) rfl) ?_
    refine free_v (ok_move rfl (.s rfl rfl) rfl) ?_
    refine free_v (ok_move rfl (.s rfl rfl) rfl) ?_
    refine free_v (ok_ix rfl (.s rfl rfl) Try.underlying26 Try.sizeOf3 rfl rfl hS (fun hg => way_ix hg (by omega))) ?_
    refine free_v (ok_ldx rfl (.s rfl rfl) rfl Try.isAgg3 hS (fun hg => way_ix hg (by omega)) (by rfl)) ?_
    refine free_v (ok_fb rfl (.s rfl rfl) Try.underlying29 rfl Try.sizeOf3 (by decide) rfl) ?_
    refine free_v (ok_ldb rfl (.s rfl rfl) rfl Try.isAgg3 hS (by rfl)) ?_
    refine free_nil ?_
    intro w2 hg_; replace hS := hS.grow hg_; clear hg_
    refine lw_v rfl rfl (ok_eql rfl (.s rfl rfl) rfl rfl) ?_
    refine lw_v rfl rfl (ok_or rfl rfl rfl rfl) ?_
    refine lw_nil ?_
    refine Ends.keep [(1, .eq _), (2, .eq _), (3, .eq _), (4, .eq _), (10, .eq _), (39, .eq _)] (.cons rfl (.cons rfl (.cons rfl (.cons rfl (.cons rfl (.cons rfl .nil)))))) ?_
    refine ends_then ?_
    refine cw_cond rfl (fun h39 => ?_) (fun h39 => ?_)
    ·
      have hno : ¬ wayB c res s v = true := fun h => way_no (hwb.1 h) h39
      rw [if_neg hno, Bool.eq_false_iff.2 hno]
      replace hS := hS.nil (eInt .i64) 1 3
      refine cw_seq ?_
      -- region 3
      refine cw_region ?_
      refine lw_v rfl rfl (ok_assign rfl (.n rfl) rfl) ?_
      refine lw_v rfl rfl (ok_assign rfl (.n rfl) rfl) ?_
      refine lw_nil ?_
      refine Ends.keep [(8, .eq _), (9, .eq _)] (.cons rfl (.cons rfl .nil)) ?_
      refine ends_then ?_
      refine cw_ret ?_
      refine then_ret (?_)
      exact end_ret (res2 Try.results55 rfl rfl) ⟨none, 0, rfl, hS.below, fun b hb => hS.ge _ (.head _) rfl b hb, hS.ok _ (.head _)⟩
    ·
      obtain ⟨hs0, hs1, hs2n⟩ := way_yes0 h39
      have hs3 := hL.le_N (v := s.toNat) (by omega)
      have hs2 : D.getD s.toNat 0 < c.N := by omega
      rw [if_pos (hwb.2 ⟨hin, hs0, hs1, hs2⟩), hwb.2 ⟨hin, hs0, hs1, hs2⟩]
      obtain ⟨s0, rfl⟩ : ∃ s0 : Nat, s = (s0 : Int) := ⟨s.toNat, by omega⟩
      have hsN : s0 < c.N := by omega
      have hsD : D.getD s0 0 < c.N := hs2
      refine cw_skip ?_
      refine ends_then ?_
      refine cw_seq ?_
      -- region 4
      refine cw_region ?_
      refine lw_v rfl rfl (ok_assign rfl (.n rfl) rfl) ?_
      refine lw_nil ?_
      refine Ends.keep [(1, .eq _), (2, .eq _), (3, .eq _), (4, .eq _), (10, .eq _), (11, .eq _)] (.cons rfl (.cons rfl (.cons rfl (.cons rfl (.cons rfl (.cons rfl .nil)))))) ?_
      refine ends_then ?_
      refine cw_seq ?_
      refine cw_seq ?_
      -- region 5
      refine cw_region ?_
      refine lw_v rfl rfl (ok_eq (ok_move rfl (.n rfl) rfl) (c' := .int .i64 (s0 : Int)) (fun _ => rfl)) ?_
      refine lw_v rfl rfl (ok_assign rfl (.n rfl) rfl) ?_
      refine lw_nil ?_
      refine Ends.keep [(1, .eq _), (3, .eq _), (4, .eq _), (10, .eq _), (11, .eq _), (12, .eq _)] (.cons rfl (.cons rfl (.cons rfl (.cons rfl (.cons rfl (.cons rfl .nil)))))) ?_
      refine ends_then ?_
      refine cw_block ?_
      -- LOOP at region 6: changed live slots [11, 12], kept [1, 3, 4, 10]
      refine cw_loop4 [(1, .eq _), (3, .eq _), (4, .eq _), (10, .eq _)] (fun (u : Nat) (A' : Option Addr) (c' : Nat) (out : List Int) => [(11, .eq (.slice A' out.length c')), (12, .eq (.int .i64 u))]) (fun u A' c' out w' => (u < c.N ∧ D.getD u 0 < c.N ∧ out.length ≤ 16 - (D.getD u 0).toNat ∧ out ++ wayL c res D (D.getD u 0).toNat u = wayL c res D (D.getD s0 0).toNat s0) ∧ St w.heap.size w w' [own (eInt .i64) 1 3 A' out.length c' out, sl (eInt .i64) 1 A17 D.length c17 D, bx b4 (csV c q).cells.toList 29, sl (eInt .i64) 1 A1 res.length c1 res, sl (eInt .i64) 1 q.a0 c.First.length q.c0 c.First, sl (eInt .i64) 1 q.a1 c.Head.length q.c1 c.Head, sl (eInt .i64) 1 q.a2 c.Rev.length q.c2 c.Rev, sl (eInt .i64) 1 q.a3 c.Cap.length q.c3 c.Cap, sl (eInt .i64) 1 q.a4 c.Arc.length q.c4 c.Arc, sl eBool 1 q.a5 c.Back.length q.c5 c.Back]) (fun u _ _ _ => (D.getD u 0).toNat) s0 none 0 [] (.cons rfl (.cons rfl (.cons rfl (.cons rfl .nil)))) (.cons rfl (.cons rfl (.cons rfl (.cons rfl (.cons rfl (.cons rfl .nil)))))) ⟨⟨hsN, hsD, Nat.zero_le _, rfl⟩, hS.nil (eInt .i64) 1 3⟩ ?_
      clear hS
      rintro u A' c' out wr ⟨⟨huN, huD, hol, how⟩, hS⟩
      have hu0 := hL.le_N huN
      have ho16 : out.length ≤ 16 := by omega
      obtain ⟨hf0, hf1, hf2⟩ := seg_rng hwf huN
      refine cw_seq ?_
      refine cw_seq ?_
      -- region 6
      refine cw_region ?_
      refine lw_v rfl rfl (ok_move rfl (.n rfl) rfl) ?_
      refine lw_v rfl rfl (ok_move rfl (.n rfl) rfl) ?_
      refine lw_v rfl rfl (ok_neq rfl (.n rfl) rfl rfl) ?_
      refine lw_nil ?_
      refine Ends.keep [(1, .eq _), (3, .eq _), (4, .eq _), (10, .eq _), (11, .eq _), (12, .eq _), (43, .eq _)] (.cons rfl (.cons rfl (.cons rfl (.cons rfl (.cons rfl (.cons rfl (.cons rfl .nil))))))) ?_
      refine ends_then ?_
      refine cw_cond rfl (fun h43 => ?_) (fun h43 => ?_)
      ·
        have hne : u ≠ v := fun e => by subst e; simp at h43
        have hup : 0 < D.getD u 0 := by
          rcases hL.why u huN with e | ⟨w2, w1, _, e⟩
          · unfold hTo at e; rw [if_neg hne] at e; omega
          · have := hL.nn w2 w1; omega
        obtain ⟨a1, ha1⟩ := near_ex hwf hL huN hup huD
        refine cw_skip ?_
        refine ends_then ?_
        refine cw_block ?_
        refine cw_seq ?_
        -- region 7
        refine cw_region ?_
        refine lw_v rfl rfl (ok_fb rfl (.n rfl) Try.underlying29 rfl Try.sizeOf26 (by decide) rfl) ?_
        refine lw_v rfl rfl (ok_ldb rfl (.n rfl) rfl Try.isAgg26 hS (by rfl)) ?_
        refine lw_v rfl rfl (ok_move rfl (.n rfl) rfl) ?_
        refine lw_v rfl rfl (ok_ix rfl (.n rfl) Try.underlying26 Try.sizeOf3 rfl rfl hS (fun _ => ⟨by omega, by omega⟩)) ?_
        refine lw_v rfl rfl (ok_eq (ok_ldx rfl (.n rfl) rfl Try.isAgg3 hS (fun _ => ⟨by omega, by omega⟩) (by rfl)) (c' := .int .i64 (((c.First.getD u 0).toNat : Nat) : Int)) (fun _ => congrArg (Value.int .i64) (Int.toNat_of_nonneg hf0).symm)) ?_
        refine lw_v rfl rfl (ok_assign rfl (.n rfl) rfl) ?_
        refine lw_nil ?_
        refine Ends.keep [(1, .eq _), (3, .eq _), (4, .eq _), (10, .eq _), (11, .eq _), (12, .eq _), (13, .eq _)] (.cons rfl (.cons rfl (.cons rfl (.cons rfl (.cons rfl (.cons rfl (.cons rfl .nil))))))) ?_
        refine ends_then ?_
        refine cw_seq ?_
        refine cw_block ?_
        -- LOOP at region 8: changed live slots [13], kept [1, 3, 4, 10, 11, 12]
        refine cw_loop [(1, .eq _), (3, .eq _), (4, .eq _), (10, .eq _), (11, .eq _), (12, .eq _)] (fun a : Nat => [(13, .eq (.int .i64 a))]) (fun a w' => (c.First.getD u 0 ≤ a ∧ a ≤ a1 ∧ ∀ b, b < a → ¬ PN c res D u b) ∧ St w.heap.size w w' [own (eInt .i64) 1 3 A' out.length c' out, sl (eInt .i64) 1 A17 D.length c17 D, bx b4 (csV c q).cells.toList 29, sl (eInt .i64) 1 A1 res.length c1 res, sl (eInt .i64) 1 q.a0 c.First.length q.c0 c.First, sl (eInt .i64) 1 q.a1 c.Head.length q.c1 c.Head, sl (eInt .i64) 1 q.a2 c.Rev.length q.c2 c.Rev, sl (eInt .i64) 1 q.a3 c.Cap.length q.c3 c.Cap, sl (eInt .i64) 1 q.a4 c.Arc.length q.c4 c.Arc, sl eBool 1 q.a5 c.Back.length q.c5 c.Back]) (fun a => a1 - a) (c.First.getD u 0).toNat (.cons rfl (.cons rfl (.cons rfl (.cons rfl (.cons rfl (.cons rfl .nil)))))) (.cons rfl (.cons rfl (.cons rfl (.cons rfl (.cons rfl (.cons rfl (.cons rfl .nil))))))) ⟨⟨by omega, by have := ha1.1.1; omega, fun b hb hp => by have := hp.1; omega⟩, hS⟩ ?_
        clear hS
        rintro a wr ⟨⟨ha0, haa, hnob⟩, hS⟩
        have ha1u := ha1.1.2.1
        have haM : a < c.Head.length := by omega
        obtain ⟨x, hx', hxN⟩ := head_at hwf haM
        have hx : c.Head.getD (a : Int).toNat 0 = (x : Int) := hx'
        have hDu : 0 ≤ D.getD (u : Int).toNat 0 ∧ D.getD (u : Int).toNat 0 ≤ c.N := hu0
        refine cw_seq ?_
        refine cw_seq ?_
        -- region 8
        refine cw_draw (by kernel_rfl) (List.take 20 _) (List.drop 20 _) (List.take_append_drop 20 _).symm (by kernel_rfl) ?_
        refine free_v (ok_ldS rfl (.n rfl) rfl Try.isAgg29 Try.sizeOf29 hS rfl) ?_
        refine free_v (ok_move rfl (.n rfl) rfl) ?_
        refine free_v (ok_move rfl (.n rfl) rfl) ?_
        refine free_v (ok_move rfl (.n rfl) rfl) ?_
        refine free_cons (ok_callv (.bool ((decide (c.First.getD u 0 ≤ (a : Int)) && decide ((a : Int) < c.First.getD (u + 1) 0)) && decide (0 < res.getD a 0))) rfl rfl Try.call93 rfl (fun w' hg => f93 c q res u a A1 c1 w' hwf ((hS.grow hg).cs q) ((hS.grow hg).rd A1 hrr) huN hrl)) ?_
        refine free_v (ok_not rfl (.n rfl) rfl) ?_
        refine free_v (ok_move rfl (.n rfl) rfl) ?_
        refine free_v (ok_move rfl (.s rfl rfl) rfl) ?_
        refine free_v (ok_fb rfl (.s rfl rfl) Try.underlying29 rfl Try.sizeOf26 (by decide) rfl) ?_
        refine free_v (ok_ldb rfl (.s rfl rfl) rfl Try.isAgg26 hS (by rfl)) ?_
        refine free_v (ok_move rfl (.s rfl rfl) rfl) ?_
        refine free_v (ok_ix rfl (.s rfl rfl) Try.underlying26 Try.sizeOf3 rfl rfl hS (fun _ => ⟨by omega, by omega⟩)) ?_
        refine free_v (ok_eq (ok_ldx rfl (.s rfl rfl) rfl Try.isAgg3 hS (fun _ => ⟨by omega, by omega⟩) (by rfl)) (c' := .int .i64 (x : Int)) (fun _ => congrArg (Value.int .i64) hx)) ?_
        refine free_v (ok_ix rfl (.s rfl rfl) Try.underlying26 Try.sizeOf3 rfl rfl hS (fun _ => ⟨by omega, by omega⟩)) ?_
        refine free_v (ok_ldx rfl (.s rfl rfl) rfl Try.isAgg3 hS (fun _ => ⟨by omega, by omega⟩) (by rfl)) ?_
        refine free_v (ok_move rfl (.s rfl rfl) rfl) ?_
        refine free_v (ok_move rfl (.s rfl rfl) rfl) ?_
        refine free_v (ok_ix rfl (.s rfl rfl) Try.underlying26 Try.sizeOf3 rfl rfl hS (fun _ => ⟨by omega, by omega⟩)) ?_
        refine free_v (ok_ldx rfl (.s rfl rfl) rfl Try.isAgg3 hS (fun _ => ⟨by omega, by omega⟩) (by rfl)) ?_
        refine free_v (ok_subi rfl (.s rfl rfl) rfl rfl (fun _ => ⟨by omega, by omega⟩)) ?_
        refine free_nil ?_
        intro w3 hg_; replace hS := hS.grow hg_; clear hg_
        refine lw_v rfl rfl (ok_neq rfl (.s rfl rfl) rfl rfl) ?_
        refine lw_v rfl rfl (ok_or rfl rfl rfl rfl) ?_
        refine lw_nil ?_
        refine Ends.keep [(1, .eq _), (3, .eq _), (4, .eq _), (10, .eq _), (11, .eq _), (12, .eq _), (13, .eq _), (70, .eq _)] (.cons rfl (.cons rfl (.cons rfl (.cons rfl (.cons rfl (.cons rfl (.cons rfl (.cons rfl .nil)))))))) ?_
        refine ends_then ?_
        refine cw_cond rfl (fun h70 => ?_) (fun h70 => ?_)
        ·
          refine cw_skip ?_
          refine ends_then ?_
          refine cw_block ?_
          -- region 9
          refine cw_region ?_
          refine lw_v rfl rfl (ok_move rfl (.n rfl) rfl) ?_
          refine lw_v rfl rfl (ok_addi rfl (.n rfl) rfl rfl (fun _ => ⟨by omega, by omega⟩)) ?_
          refine lw_v rfl rfl (ok_assign rfl (.n rfl) rfl) ?_
          refine lw_nil ?_
          refine in_normal (?_)
          -- BACK
          have hnp := pn_no hwf hL huN hx' h70
          have hne : a ≠ a1 := fun e => hnp (e ▸ ha1.1)
          refine ends_back (a + 1) (.cons rfl (.cons rfl (.cons rfl (.cons rfl (.cons rfl (.cons rfl (.cons rfl .nil))))))) ⟨⟨by omega, by omega, fun b hb hp => ?_⟩, hS⟩ (by omega)
          rcases Nat.lt_or_ge b a with h | h
          · exact hnob b h hp
          · have : b = a := by omega
            subst this; exact hnp hp
        ·
          have hpa := pn_yes hx' h70
          refine cw_exit ?_
          refine then_exit (then_exit (in_exit (?_)))
          refine Ends.keep [(1, .eq _), (3, .eq _), (4, .eq _), (10, .eq _), (11, .eq _), (13, .eq _)] (.cons rfl (.cons rfl (.cons rfl (.cons rfl (.cons rfl (.cons rfl .nil)))))) ?_
          refine ends_then ?_
          refine cw_seq ?_
          -- region 10
          refine cw_region ?_
          refine lw_v rfl rfl (ok_move rfl (.n rfl) rfl) ?_
          refine lw_v rfl rfl (ok_move rfl (.n rfl) rfl) ?_
          refine lw_ls (enc := (eInt .i64)) [(a : Int)] rfl rfl rfl Try.underlying26 Try.sizeOf3 Try.zeroValue3 rfl (by kernel_rfl) rfl (by decide) (by decide) hS ?_
          clear hS; intro A75 c75 w4 _ hS
          refine lw_append (enc := (eInt .i64)) rfl rfl rfl Try.underlying26 info3 rfl rfl rfl hS (by decide) (ap16 ho16) (ap16b ho16) ?_
          intro A76 c76 w5 hS1; replace hS := hS1 _ (Rep.r); clear hS1
          refine lw_v rfl rfl (ok_assign rfl (.n rfl) rfl) ?_
          refine lw_nil ?_
          refine Ends.keep [(1, .eq _), (3, .eq _), (4, .eq _), (10, .eq _), (11, .eq _), (13, .eq _)] (.cons rfl (.cons rfl (.cons rfl (.cons rfl (.cons rfl (.cons rfl .nil)))))) ?_
          refine ends_then ?_
          -- region 11
          refine cw_region ?_
          refine lw_v rfl rfl (ok_fb rfl (.n rfl) Try.underlying29 rfl Try.sizeOf26 (by decide) rfl) ?_
          refine lw_v rfl rfl (ok_ldb rfl (.n rfl) rfl Try.isAgg26 hS (by rfl)) ?_
          refine lw_v rfl rfl (ok_move rfl (.n rfl) rfl) ?_
          refine lw_v rfl rfl (ok_ix rfl (.n rfl) Try.underlying26 Try.sizeOf3 rfl rfl hS (fun _ => ⟨by omega, by omega⟩)) ?_
          refine lw_v rfl rfl (ok_eq (ok_ldx rfl (.n rfl) rfl Try.isAgg3 hS (fun _ => ⟨by omega, by omega⟩) (by rfl)) (c' := .int .i64 (x : Int)) (fun _ => congrArg (Value.int .i64) hx)) ?_
          refine lw_v rfl rfl (ok_assign rfl (.n rfl) rfl) ?_
          refine lw_nil ?_
          refine in_normal (?_)
          -- BACK
          have hna : NearR c res D u a := near_unique ⟨hpa, hnob⟩ ha1 ▸ ha1
          have hxD := (near_is hwf hL huN hpa).2.2.2
          rw [hx'] at hxD
          have hxD : D.getD x 0 = D.getD u 0 - 1 := hxD
          have hxlt : D.getD x 0 < c.N := by omega
          have hmu : (D.getD x 0).toNat < (D.getD u 0).toNat := by omega
          have hol2 : (out ++ [(a : Int)]).length ≤ 16 - (D.getD x 0).toNat := by rw [List.length_append, List.length_singleton]; omega
          refine ends_back4 x A76 c76 (out ++ [(a : Int)]) (.cons rfl (.cons rfl (.cons rfl (.cons rfl (.cons rfl (.cons rfl .nil)))))) ⟨⟨hxN, hxlt, hol2, ?_⟩, hS.tail⟩ hmu
          rw [← how, way_step hna hx' hxD hup, List.append_assoc]
          rfl
      ·
        refine cw_exit ?_
        refine then_exit (then_exit (in_exit (?_)))
        refine Ends.keep [(11, .eq _)] (.cons rfl .nil) ?_
        refine ends_then ?_
        refine cw_seq ?_
        -- region 12
        refine cw_region ?_
        refine lw_v rfl rfl (ok_move rfl (.n rfl) rfl) ?_
        refine lw_v rfl rfl (ok_assign rfl (.n rfl) rfl) ?_
        refine lw_v rfl rfl (ok_assign rfl (.n rfl) rfl) ?_
        refine lw_nil ?_
        refine Ends.keep [(8, .eq _), (9, .eq _)] (.cons rfl (.cons rfl .nil)) ?_
        refine ends_then ?_
        refine cw_ret ?_
        have huv : u = v := by
          have : decide ((u : Int) = v) = true := by simpa using h43
          have := of_decide_eq_true this
          omega
        have hout : out = wayL c res D (D.getD s0 0).toNat s0 := by
          rw [← how, huv, hL.at_t (by omega)]
          exact (List.append_nil _).symm
        refine end_ret (res2 Try.results55 rfl rfl) ⟨A', c', ?_, hS.below, ?_, ?_⟩
        · show _ = Ending.returned (.tuple #[.slice A' (wayL c res D (D.getD s0 0).toNat s0).length c', .bool true]); rw [← hout]
        · show ∀ b, (own (eInt .i64) 1 3 A' (wayL c res D (D.getD s0 0).toNat s0).length c' (wayL c res D (D.getD s0 0).toNat s0)).fp b → _; rw [← hout]; exact fun b hb => hS.ge _ (.head _) rfl b hb
        · show (own (eInt .i64) 1 3 A' (wayL c res D (D.getD s0 0).toNat s0).length c' (wayL c res D (D.getD s0 0).toNat s0)).p _; rw [← hout]; exact hS.ok _ (.head _)


theorem toL_full {c : Cs} {res : List Int} {t : Int} {k : Nat} (hk : k < hiTo c.N (toL c res t) (toL c res t).length) : 0 < (rowAt (toL c res t) (toL c res t).length k).length := by
  cases h : inB c res t with
  | false => rw [toL_no h] at hk; exact absurd hk (Nat.not_lt_zero k)
  | true =>
    obtain ⟨h1, h2, h3⟩ := inB_iff.1 h
    obtain ⟨v, rfl⟩ : ∃ v : Nat, t = (v : Int) := ⟨t.toNat, by omega⟩
    have hl := toL_len h1 (u := v) (by omega)
    rw [hl] at hk ⊢
    exact row_ne h1 (by omega) hk
theorem toL_len2 {c : Cs} {res : List Int} {t : Int} : (toL c res t).length = 0 ∨ (toL c res t).length = c.N := by
  cases h : inB c res t with
  | false => rw [toL_no h]; exact .inl rfl
  | true => exact .inr (toL_low h).len
theorem rows_go {k N m : Nat} (h : (decide ((k : Int) < N) && decide ((0 : Int) < (m : Int))) = true) : k < N ∧ 0 < m := by
  rw [Bool.and_eq_true, decide_eq_true_eq, decide_eq_true_eq] at h
  omega
theorem rows_stop {k N m mm H : Nat} (h : (decide ((k : Int) < N) && decide ((0 : Int) < (m : Int))) = false) (hm : mm = min k H) (hle : H ≤ N) (hl : m = 0 ∨ m = N) (h0 : m = 0 → H = 0 := by intro e; rw [e]; rfl) : mm = H := by
  rcases Nat.eq_zero_or_pos m with h1 | h1
  · have := h0 h1; omega
  · rw [decide_eq_true (by omega : (0 : Int) < (m : Int)), Bool.and_true, decide_eq_false_iff_not] at h
    omega
set_option maxHeartbeats 1000000 in
set_option maxRecDepth 10000 in
/-- acequiaref05.Rows. -/
theorem f59 (c : Cs) (q : Q6) (res : List Int) (t : Int) {m : Nat} (A1 : Option Addr) (c1 : Nat) (w : World) (hwf : WF c) (hc : CsAt c q w) (hr : (sl (eInt .i64) 1 A1 m c1 res).p w) : RetR 59 [csV c q, .slice A1 m c1, .int .i64 t] w (rowsL c res t) := by
  refine calls_cw Try.func59 rfl Try.ntmps59 rfl ?_
  have hS := (St.ofc hc).args (Nat.le_refl _) _ hr rfl
  have hM := hwf.m
  have hN := hwf.hi
  have hlo := hwf.lo
  have hfl := hwf.fl
  have hrr := hr.2.1
  obtain ⟨hDl, hDr⟩ := toL_rng (c := c) (res := res) (t := t)
  have hDl2 := toL_len2 (c := c) (res := res) (t := t)
  have hful := fun k => toL_full (c := c) (res := res) (t := t) (k := k)
  unfold rowsL
  refine cw_seq ?_
  -- region 0
  refine cw_region ?_
  refine lw_box rfl rfl rfl rfl hS ?_
  clear hS; intro b3 w1 _ _ hS
  refine lw_v rfl rfl (ok_assign rfl (.n rfl) rfl) ?_
  refine lw_nil ?_
  refine Ends.keep [(1, .eq _), (2, .eq _), (3, .eq _)] (.cons rfl (.cons rfl (.cons rfl .nil))) ?_
  refine ends_then ?_
  refine cw_seq ?_
  -- region 1
  refine cw_region ?_
  refine lw_v rfl rfl (ok_ldS rfl (.n rfl) rfl Try.isAgg29 Try.sizeOf29 hS rfl) ?_
  refine lw_v rfl rfl (ok_move rfl (.n rfl) rfl) ?_
  refine lw_v rfl rfl (ok_move rfl (.n rfl) rfl) ?_
  refine lw_call (f := 56) (xs := [_, _, _]) rfl rfl rfl Try.call56 rfl (Calls.mono (f56 c q res t A1 c1 _ hwf (hS.cs q) (hS.rd A1 hrr)) ?_)
  rintro e w' ⟨A15, c15, rfl, hg, hfr, ho⟩
  replace hS := hS.new hg _ ho hfr; clear hg ho hfr
  generalize toL c res t = D at hS hDl hDr hful hDl2 ⊢
  replace hS := hS.freeze .here (by omega)
  refine ⟨_, rfl, ?_⟩
  refine lw_v rfl rfl (ok_assign rfl (.n rfl) rfl) ?_
  refine lw_nil ?_
  refine Ends.keep [(3, .eq _), (7, .eq _)] (.cons rfl (.cons rfl .nil)) ?_
  refine ends_then ?_
  refine cw_seq ?_
  -- region 2
  refine cw_region ?_
  refine lw_v rfl rfl (ok_assign rfl (.n rfl) rfl) ?_
  refine lw_nil ?_
  refine Ends.keep [(3, .eq _), (7, .eq _), (8, .eq _)] (.cons rfl (.cons rfl (.cons rfl .nil))) ?_
  refine ends_then ?_
  refine cw_seq ?_
  refine cw_seq ?_
  -- region 3
  refine cw_region ?_
  refine lw_v rfl rfl (ok_assign rfl (.n rfl) rfl) ?_
  refine lw_nil ?_
  refine Ends.keep [(3, .eq _), (7, .eq _), (8, .eq _), (9, .eq _)] (.cons rfl (.cons rfl (.cons rfl (.cons rfl .nil)))) ?_
  refine ends_then ?_
  refine cw_block ?_
  -- LOOP at region 4: changed live slots [8, 9], kept [3, 7]
  refine cw_loop4 [(3, .eq _), (7, .eq _)] (fun (k : Nat) (A' : Option Addr) (c' : Nat) (mm : Nat) => [(8, .eq (.slice A' mm c')), (9, .eq (.int .i64 k))]) (fun k A' c' mm w' => (k ≤ c.N ∧ mm = min k (hiTo c.N D D.length)) ∧ ∃ hs : List Hd, hs.length = mm ∧ St w.heap.size w w' [ownsE none hs (rowsTo D D.length mm), own eSl 1 26 A' mm c' hs, sl (eInt .i64) 1 A15 D.length c15 D, bx b3 (csV c q).cells.toList 29, sl (eInt .i64) 1 A1 m c1 res, sl (eInt .i64) 1 q.a0 c.First.length q.c0 c.First, sl (eInt .i64) 1 q.a1 c.Head.length q.c1 c.Head, sl (eInt .i64) 1 q.a2 c.Rev.length q.c2 c.Rev, sl (eInt .i64) 1 q.a3 c.Cap.length q.c3 c.Cap, sl (eInt .i64) 1 q.a4 c.Arc.length q.c4 c.Arc, sl eBool 1 q.a5 c.Back.length q.c5 c.Back]) (fun k _ _ _ => c.N - k) 0 none 0 0 (.cons rfl (.cons rfl .nil)) (.cons rfl (.cons rfl (.cons rfl (.cons rfl .nil)))) ⟨⟨Nat.zero_le _, (Nat.zero_min _).symm⟩, [], rfl, (hS.nil eSl 1 26).ownsNil⟩ ?_
  clear hS
  rintro k A' c' mm wr ⟨⟨hk, hmm⟩, hs, hsl, hS⟩
  refine cw_seq ?_
  refine cw_seq ?_
  -- region 4
  refine cw_region ?_
  refine lw_v rfl rfl (ok_move rfl (.n rfl) rfl) ?_
  refine lw_v rfl rfl (ok_fb rfl (.n rfl) Try.underlying29 rfl Try.sizeOf3 (by decide) rfl) ?_
  refine lw_v rfl rfl (ok_ldb rfl (.n rfl) rfl Try.isAgg3 hS (by rfl)) ?_
  refine lw_v rfl rfl (ok_lss rfl (.n rfl) rfl rfl) ?_
  refine lw_v rfl rfl (ok_move rfl (.n rfl) rfl) ?_
  refine lw_v rfl rfl (ok_move rfl (.s rfl rfl) rfl) ?_
  refine lw_v rfl rfl (ok_len rfl (.s rfl rfl) Try.underlying26 rfl) ?_
  refine lw_v rfl rfl (ok_gtr rfl (.s rfl rfl) rfl rfl) ?_
  refine lw_v rfl rfl (ok_and rfl rfl rfl rfl) ?_
  refine lw_nil ?_
  refine Ends.keep [(3, .eq _), (7, .eq _), (8, .eq _), (9, .eq _), (24, .eq _)] (.cons rfl (.cons rfl (.cons rfl (.cons rfl (.cons rfl .nil))))) ?_
  refine ends_then ?_
  refine cw_cond rfl (fun h24 => ?_) (fun h24 => ?_)
  ·
    obtain ⟨hkN, hD0⟩ := rows_go h24
    have hDN : D.length = c.N := by rcases hDl2 with h | h; omega; exact h
    refine cw_skip ?_
    refine ends_then ?_
    refine cw_seq ?_
    refine cw_block ?_
    refine cw_seq ?_
    -- region 6
    refine cw_region ?_
    refine lw_v rfl rfl (ok_assign rfl (.n rfl) rfl) ?_
    refine lw_nil ?_
    refine Ends.keep [(3, .eq _), (7, .eq _), (8, .eq _), (9, .eq _), (10, .eq _)] (.cons rfl (.cons rfl (.cons rfl (.cons rfl (.cons rfl .nil))))) ?_
    refine ends_then ?_
    refine cw_seq ?_
    refine cw_seq ?_
    -- region 7
    refine cw_region ?_
    refine lw_v rfl rfl (ok_assign rfl (.n rfl) rfl) ?_
    refine lw_nil ?_
    refine Ends.keep [(3, .eq _), (7, .eq _), (8, .eq _), (9, .eq _), (10, .eq _), (11, .eq _)] (.cons rfl (.cons rfl (.cons rfl (.cons rfl (.cons rfl (.cons rfl .nil)))))) ?_
    refine ends_then ?_
    refine cw_block ?_
    -- LOOP at region 8: changed live slots [10, 11], kept [3, 7, 8, 9]
    refine cw_loop3 [(3, .eq _), (7, .eq _), (8, .eq _), (9, .eq _)] (fun (v : Nat) (Ar : Option Addr) (cr : Nat) => [(10, .eq (.slice Ar (rowAt D v k).length cr)), (11, .eq (.int .i64 v))]) (fun v Ar cr w' => v ≤ c.N ∧ St w.heap.size w w' [own (eInt .i64) 1 3 Ar (rowAt D v k).length cr (rowAt D v k), ownsE none hs (rowsTo D D.length mm), own eSl 1 26 A' mm c' hs, sl (eInt .i64) 1 A15 D.length c15 D, bx b3 (csV c q).cells.toList 29, sl (eInt .i64) 1 A1 m c1 res, sl (eInt .i64) 1 q.a0 c.First.length q.c0 c.First, sl (eInt .i64) 1 q.a1 c.Head.length q.c1 c.Head, sl (eInt .i64) 1 q.a2 c.Rev.length q.c2 c.Rev, sl (eInt .i64) 1 q.a3 c.Cap.length q.c3 c.Cap, sl (eInt .i64) 1 q.a4 c.Arc.length q.c4 c.Arc, sl eBool 1 q.a5 c.Back.length q.c5 c.Back]) (fun v _ _ => c.N - v) 0 none 0 (.cons rfl (.cons rfl (.cons rfl (.cons rfl .nil)))) (.cons rfl (.cons rfl (.cons rfl (.cons rfl (.cons rfl (.cons rfl .nil)))))) ⟨Nat.zero_le _, hS.nil (eInt .i64) 1 3⟩ ?_
    clear hS
    rintro v Ar cr wr ⟨hv, hS⟩
    have hml := rowAt_len D v k
    have hsuc := rowAt_succ D v k
    refine cw_seq ?_
    refine cw_seq ?_
    -- region 8
    refine cw_region ?_
    refine lw_v rfl rfl (ok_move rfl (.n rfl) rfl) ?_
    refine lw_v rfl rfl (ok_fb rfl (.n rfl) Try.underlying29 rfl Try.sizeOf3 (by decide) rfl) ?_
    refine lw_v rfl rfl (ok_ldb rfl (.n rfl) rfl Try.isAgg3 hS (by rfl)) ?_
    refine lw_v rfl rfl (ok_lss rfl (.n rfl) rfl rfl) ?_
    refine lw_nil ?_
    refine Ends.keep [(3, .eq _), (7, .eq _), (8, .eq _), (9, .eq _), (10, .eq _), (11, .eq _), (30, .eq _)] (.cons rfl (.cons rfl (.cons rfl (.cons rfl (.cons rfl (.cons rfl (.cons rfl .nil))))))) ?_
    refine ends_then ?_
    refine cw_cond rfl (fun h30 => ?_) (fun h30 => ?_)
    ·
      have hvN : v < c.N := by have := of_decide_eq_true h30; omega
      refine cw_skip ?_
      refine ends_then ?_
      refine cw_seq ?_
      refine cw_block ?_
      refine cw_seq ?_
      -- region 10
      refine cw_region ?_
      refine lw_v rfl rfl (ok_move rfl (.n rfl) rfl) ?_
      refine lw_v rfl rfl (ok_move rfl (.n rfl) rfl) ?_
      refine lw_v rfl rfl (ok_ix rfl (.n rfl) Try.underlying26 Try.sizeOf3 rfl rfl hS (fun _ => ⟨by omega, by omega⟩)) ?_
      refine lw_v rfl rfl (ok_ldx rfl (.n rfl) rfl Try.isAgg3 hS (fun _ => ⟨by omega, by omega⟩) (by rfl)) ?_
      refine lw_v rfl rfl (ok_move rfl (.n rfl) rfl) ?_
      refine lw_v rfl rfl (ok_eql rfl (.n rfl) rfl rfl) ?_
      refine lw_nil ?_
      refine Ends.keep [(3, .eq _), (7, .eq _), (8, .eq _), (9, .eq _), (10, .eq _), (11, .eq _), (38, .eq _)] (.cons rfl (.cons rfl (.cons rfl (.cons rfl (.cons rfl (.cons rfl (.cons rfl .nil))))))) ?_
      refine ends_then ?_
      refine cw_cond rfl (fun h38 => ?_) (fun h38 => ?_)
      ·
        have hvk : D.getD v 0 = (k : Int) := of_decide_eq_true h38
        -- region 11
        refine cw_region ?_
        refine lw_v rfl rfl (ok_move rfl (.n rfl) rfl) ?_
        refine lw_v rfl rfl (ok_move rfl (.n rfl) rfl) ?_
        refine lw_ls (enc := (eInt .i64)) [(v : Int)] rfl rfl rfl Try.underlying26 Try.sizeOf3 Try.zeroValue3 rfl (by kernel_rfl) rfl (by decide) (by decide) hS ?_
        clear hS; intro A41 c41 w2 _ hS
        refine lw_append (enc := (eInt .i64)) rfl rfl rfl Try.underlying26 info3 rfl rfl rfl hS (by decide) (by omega) (by omega) ?_
        intro A42 c42 w3 hS1; replace hS := hS1 _ (Rep.r); clear hS1
        refine lw_v rfl rfl (ok_assign rfl (.n rfl) rfl) ?_
        refine lw_nil ?_
        refine in_normal (?_)
        refine Ends.keep [(3, .eq _), (7, .eq _), (8, .eq _), (9, .eq _), (10, .eq _), (11, .eq _)] (.cons rfl (.cons rfl (.cons rfl (.cons rfl (.cons rfl (.cons rfl .nil)))))) ?_
        refine ends_then ?_
        -- region 9
        refine cw_region ?_
        refine lw_v rfl rfl (ok_move rfl (.n rfl) rfl) ?_
        refine lw_v rfl rfl (ok_addi rfl (.n rfl) rfl rfl (fun _ => ⟨by omega, by omega⟩)) ?_
        refine lw_v rfl rfl (ok_assign rfl (.n rfl) rfl) ?_
        refine lw_nil ?_
        -- BACK
        rw [if_pos hvk] at hsuc
        replace hS := hS.tail
        rw [← hsuc] at hS ⊢
        exact ends_back3 (v + 1) A42 c42 (.cons rfl (.cons rfl (.cons rfl (.cons rfl (.cons rfl (.cons rfl .nil)))))) ⟨by omega, hS⟩ (by omega)
      ·
        have hvk : ¬ D.getD v 0 = (k : Int) := of_decide_eq_false h38
        refine cw_skip ?_
        refine in_normal (?_)
        refine ends_then ?_
        -- region 9
        refine cw_region ?_
        refine lw_v rfl rfl (ok_move rfl (.n rfl) rfl) ?_
        refine lw_v rfl rfl (ok_addi rfl (.n rfl) rfl rfl (fun _ => ⟨by omega, by omega⟩)) ?_
        refine lw_v rfl rfl (ok_assign rfl (.n rfl) rfl) ?_
        refine lw_nil ?_
        -- BACK
        rw [if_neg hvk, List.append_nil] at hsuc
        rw [← hsuc] at hS ⊢
        exact ends_back3 (v + 1) Ar cr (.cons rfl (.cons rfl (.cons rfl (.cons rfl (.cons rfl (.cons rfl .nil)))))) ⟨by omega, hS⟩ (by omega)
    ·
      have hve : v = D.length := by have := of_decide_eq_false h30; omega
      rw [hve] at hS ⊢
      clear hml hsuc
      refine cw_exit ?_
      refine then_exit (then_exit (in_exit (?_)))
      refine Ends.keep [(3, .eq _), (7, .eq _), (8, .eq _), (9, .eq _), (10, .eq _)] (.cons rfl (.cons rfl (.cons rfl (.cons rfl (.cons rfl .nil))))) ?_
      refine ends_then ?_
      refine cw_seq ?_
      -- region 12
      refine cw_region ?_
      refine lw_v rfl rfl (ok_move rfl (.n rfl) rfl) ?_
      refine lw_v rfl rfl (ok_len rfl (.n rfl) Try.underlying26 rfl) ?_
      refine lw_v rfl rfl (ok_gtr rfl (.n rfl) rfl rfl) ?_
      refine lw_nil ?_
      refine Ends.keep [(3, .eq _), (7, .eq _), (8, .eq _), (9, .eq _), (10, .eq _), (45, .eq _)] (.cons rfl (.cons rfl (.cons rfl (.cons rfl (.cons rfl (.cons rfl .nil)))))) ?_
      refine ends_then ?_
      refine cw_cond rfl (fun h45 => ?_) (fun h45 => ?_)
      ·
        -- region 13
        refine cw_region ?_
        refine lw_v rfl rfl (ok_move rfl (.n rfl) rfl) ?_
        refine lw_v rfl rfl (ok_move rfl (.n rfl) rfl) ?_
        refine lw_ls (enc := eSl) [(Ar, (rowAt D D.length k).length, cr)] rfl rfl rfl Try.underlying47 Try.sizeOf26 Try.zeroValue26 rfl (by kernel_rfl) rfl (by decide) (by decide) hS ?_
        clear hS; intro A48 c48 w4 _ hS
        refine lw_append (enc := eSl) rfl rfl rfl Try.underlying47 info26 rfl rfl rfl hS (by decide) (by omega) (by omega) ?_
        intro A49 c49 w5 hS1; replace hS := hS1 _ (Rep.r); clear hS1
        refine lw_v rfl rfl (ok_assign rfl (.n rfl) rfl) ?_
        refine lw_nil ?_
        refine in_normal (?_)
        refine Ends.keep [(3, .eq _), (7, .eq _), (8, .eq _), (9, .eq _)] (.cons rfl (.cons rfl (.cons rfl (.cons rfl .nil)))) ?_
        refine ends_then ?_
        -- region 5
        refine cw_region ?_
        refine lw_v rfl rfl (ok_move rfl (.n rfl) rfl) ?_
        refine lw_v rfl rfl (ok_addi rfl (.n rfl) rfl rfl (fun _ => ⟨by omega, by omega⟩)) ?_
        refine lw_v rfl rfl (ok_assign rfl (.n rfl) rfl) ?_
        refine lw_nil ?_
        -- BACK
        have hlt2 : k < (hiTo c.N D D.length) := by
          rcases Nat.lt_or_ge k (hiTo c.N D D.length) with h | h
          · exact h
          · have := rowAt_nil (D := D) h hkN; rw [this] at h45; simp at h45
        replace hS := hS.tail.ownsPush
        refine ends_back4 (k + 1) A49 c49 (hs ++ [(Ar, (rowAt D D.length k).length, cr)]).length (.cons rfl (.cons rfl (.cons rfl (.cons rfl .nil)))) ⟨⟨by omega, by simp; omega⟩, _, rfl, ?_⟩ (by omega)
        have e : rowsTo D D.length mm ++ [rowAt D D.length k] = rowsTo D D.length (hs ++ [(Ar, (rowAt D D.length k).length, cr)]).length := by
          unfold rowsTo
          rw [List.length_append, List.length_singleton, hsl, List.range_succ, List.map_append, List.map_singleton, show mm = k by omega]
        rw [← e]; exact hS
      ·
        refine cw_skip ?_
        refine in_normal (?_)
        refine ends_then ?_
        -- region 5
        refine cw_region ?_
        refine lw_v rfl rfl (ok_move rfl (.n rfl) rfl) ?_
        refine lw_v rfl rfl (ok_addi rfl (.n rfl) rfl rfl (fun _ => ⟨by omega, by omega⟩)) ?_
        refine lw_v rfl rfl (ok_assign rfl (.n rfl) rfl) ?_
        refine lw_nil ?_
        -- BACK
        have hge2 : ¬ k < (hiTo c.N D D.length) := fun h => by
          have := hful k h
          have h2 := of_decide_eq_false h45
          omega
        refine ends_back4 (k + 1) A' c' mm (.cons rfl (.cons rfl (.cons rfl (.cons rfl .nil)))) ⟨⟨by omega, by omega⟩, hs, hsl, hS.tail⟩ (by omega)
  ·
    refine cw_exit ?_
    refine then_exit (then_exit (in_exit (?_)))
    refine Ends.keep [(8, .eq _)] (.cons rfl .nil) ?_
    refine ends_then ?_
    refine cw_seq ?_
    -- region 14
    refine cw_region ?_
    refine lw_v rfl rfl (ok_move rfl (.n rfl) rfl) ?_
    refine lw_v rfl rfl (ok_assign rfl (.n rfl) rfl) ?_
    refine lw_nil ?_
    refine Ends.keep [(6, .eq _)] (.cons rfl .nil) ?_
    refine ends_then ?_
    refine cw_ret ?_
    have hle := hiTo_le hDr _ (Nat.le_refl _)
    have hmh : mm = (hiTo c.N D D.length) := rows_stop h24 hmm hle hDl2
    have hS2 := hS.ownsFreeze (fun k hk => by rw [rowsTo_get (by omega)]; have := rowAt_len D D.length k; omega)
    subst hsl
    have hS3 := hS2.swap.freeze .here (by omega)
    have e : rowsF c.N D = rowsTo D D.length hs.length := by unfold rowsF; rw [hmh]
    refine end_ret (res1 Try.results59 rfl) ⟨A', c', hs, rfl, hS3.below, own_fp fun b hb => hS.ge _ (.tail _ (.head _)) rfl b hb, fun b ⟨k, hk, ad, e1, e2, _⟩ => hS.ge _ (.head _) rfl b ⟨k, hk, by simp, ad, e1, e2⟩, hS3.ok _ (.head _), ?_⟩
    rw [e]; exact hS3.ok _ (.tail _ (.head _))

end Go.Proofs.Ytnpgeohkmdcbkaa.Aq
