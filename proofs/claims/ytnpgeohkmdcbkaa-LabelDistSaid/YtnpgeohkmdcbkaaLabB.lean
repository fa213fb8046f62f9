/- The walks of label.Steep, Flat, Valid and Sum, and of what they call. -/
import Derived.Test.YtnpgeohkmdcbkaaLabA
namespace Go.Proofs.Ytnpgeohkmdcbkaa.Aq
open Go Go.RowKit

set_option maxRecDepth 10000 in
/-- label.picked, with a function of which it is known what it says. -/
theorem f96 (n : Nat) (F : FuncId) (caps : List Value) (p : Nat → Bool) (w : World) (hn : n ≤ 1280) (hF : ∀ args w, (callFunc F args).run Try.prog w = .ok (.enter F args) w) (hdo : ∀ i : Nat, i < n → Does Try.prog F caps w [.int .i64 i] (.tuple #[.int .i64 i, .bool (p i)])) :
    Calls Try.prog 96 #[.int .i64 n, .func (.func F) #[] caps.toArray] w fun e w' => ∃ A cc, e = .returned (.slice A (((List.range n).filter p).map Int.ofNat).length cc) ∧ Gr w w' ∧ (∀ b, (own (eInt .i64) 1 3 A (((List.range n).filter p).map Int.ofNat).length cc (((List.range n).filter p).map Int.ofNat)).fp b → w.heap.size ≤ b) ∧ (own (eInt .i64) 1 3 A (((List.range n).filter p).map Int.ofNat).length cc (((List.range n).filter p).map Int.ofNat)).p w' := by
  refine calls_cw Try.func96 rfl Try.ntmps96 rfl ?_
  have hS := St.start w
  refine cw_seq ?_
  -- region 0
  refine cw_region ?_
  refine lw_v rfl rfl (ok_assign rfl (.n rfl) rfl) ?_
  refine lw_nil ?_
  refine Ends.keep [(0, .eq _), (1, .eq _)] (.cons rfl (.cons rfl .nil)) ?_
  refine ends_then ?_
  refine cw_seq ?_
  -- region 1
  refine cw_region ?_
  refine lw_v rfl rfl (ok_assign rfl (.n rfl) rfl) ?_
  refine lw_nil ?_
  refine Ends.keep [(0, .eq _), (1, .eq _), (5, .eq _)] (.cons rfl (.cons rfl (.cons rfl .nil))) ?_
  refine ends_then ?_
  refine cw_seq ?_
  refine cw_seq ?_
  -- region 2
  refine cw_region ?_
  refine lw_v rfl rfl (ok_move rfl (.n rfl) rfl) ?_
  refine lw_v rfl rfl (ok_move rfl (.n rfl) rfl) ?_
  refine lw_nil ?_
  refine Ends.keep [(1, .eq _), (5, .eq _), (9, .eq _), (10, .eq _)] (.cons rfl (.cons rfl (.cons rfl (.cons rfl .nil)))) ?_
  refine ends_then ?_
  refine cw_block ?_
  -- LOOP at region 3: changed live slots [5, 10], kept [1, 9]
  refine cw_loop3 [(1, .eq _), (9, .eq _)] (fun (k : Nat) (A : Option Addr) (cc : Nat) => [(5, .eq (.slice A (((List.range k).filter p).map Int.ofNat).length cc)), (10, .eq (.int .i64 k))]) (fun k A cc w' => k ≤ n ∧ St w.heap.size w w' [own (eInt .i64) 1 3 A (((List.range k).filter p).map Int.ofNat).length cc (((List.range k).filter p).map Int.ofNat)]) (fun k _ _ => n - k) 0 none 0 (.cons rfl (.cons rfl .nil)) (.cons rfl (.cons rfl (.cons rfl (.cons rfl .nil)))) ⟨Nat.zero_le _, hS.nil (eInt .i64) 1 3⟩ ?_
  clear hS
  rintro k A cc wr ⟨hk, hS⟩
  have hfl := filt_len p k
  refine cw_seq ?_
  -- region 3
  refine cw_region ?_
  refine lw_v rfl rfl (ok_lss rfl (.n rfl) rfl rfl) ?_
  refine lw_nil ?_
  refine Ends.keep [(1, .eq _), (5, .eq _), (9, .eq _), (10, .eq _), (11, .eq _)] (.cons rfl (.cons rfl (.cons rfl (.cons rfl (.cons rfl .nil))))) ?_
  refine ends_then ?_
  refine cw_seq ?_
  refine cw_cond rfl (fun h11 => ?_) (fun h11 => ?_)
  ·
    have hlt := of_decide_eq_true h11
    refine cw_skip ?_
    refine ends_then ?_
    refine cw_seq ?_
    refine cw_block ?_
    refine cw_seq ?_
    -- region 4
    refine cw_region ?_
    refine lw_v rfl rfl (ok_move rfl (.n rfl) rfl) ?_
    refine lw_v rfl rfl (ok_assign rfl (.n rfl) rfl) ?_
    refine lw_nil ?_
    refine Ends.keep [(1, .eq _), (5, .eq _), (6, .eq _), (9, .eq _), (10, .eq _)] (.cons rfl (.cons rfl (.cons rfl (.cons rfl (.cons rfl .nil))))) ?_
    refine ends_then ?_
    refine cw_seq ?_
    -- region 5
    refine cw_region ?_
    refine lw_v rfl rfl (ok_move rfl (.n rfl) rfl) ?_
    refine lw_v rfl rfl (ok_move rfl (.n rfl) rfl) ?_
    refine lw_callf (f := F) (xs := [_]) rfl rfl rfl hF rfl rfl (Calls.mono (hdo k (by omega) _ hS.below) ?_)
    rintro e w' ⟨rfl, hg⟩
    replace hS := hS.grow hg; clear hg
    refine ⟨_, rfl, ?_⟩
    refine lw_v rfl rfl (ok_move rfl (.n rfl) rfl) ?_
    refine lw_v rfl rfl (ok_extract rfl (.n rfl) rfl rfl) ?_
    refine lw_v rfl rfl (ok_extract rfl (.n rfl) rfl rfl) ?_
    refine lw_v rfl rfl (ok_assign rfl (.n rfl) rfl) ?_
    refine lw_v rfl rfl (ok_assign rfl (.n rfl) rfl) ?_
    refine lw_nil ?_
    refine Ends.keep [(1, .eq _), (5, .eq _), (7, .eq _), (8, .eq _), (9, .eq _), (10, .eq _)] (.cons rfl (.cons rfl (.cons rfl (.cons rfl (.cons rfl (.cons rfl .nil)))))) ?_
    refine ends_then ?_
    refine cw_seq ?_
    -- region 6
    refine cw_region ?_
    refine lw_v rfl rfl (ok_move rfl (.n rfl) rfl) ?_
    refine lw_nil ?_
    refine Ends.keep [(1, .eq _), (5, .eq _), (7, .eq _), (9, .eq _), (10, .eq _), (19, .eq _)] (.cons rfl (.cons rfl (.cons rfl (.cons rfl (.cons rfl (.cons rfl .nil)))))) ?_
    refine ends_then ?_
    refine cw_cond rfl (fun h19 => ?_) (fun h19 => ?_)
    ·
      -- region 7
      refine cw_region ?_
      refine lw_v rfl rfl (ok_move rfl (.n rfl) rfl) ?_
      refine lw_v rfl rfl (ok_move rfl (.n rfl) rfl) ?_
      refine lw_ls (enc := (eInt .i64)) [(k : Int)] rfl rfl rfl Try.underlying26 Try.sizeOf3 Try.zeroValue3 rfl (by kernel_rfl) rfl (by decide) (by decide) hS ?_
      clear hS; intro A22 c22 w1 _ hS
      refine lw_append (enc := (eInt .i64)) rfl rfl rfl Try.underlying26 info3 rfl rfl rfl hS (by decide) (by omega) (by omega) ?_
      intro A23 c23 w2 hS1; replace hS := hS1 _ (Rep.r); clear hS1
      refine lw_v rfl rfl (ok_assign rfl (.n rfl) rfl) ?_
      refine lw_nil ?_
      refine in_normal (?_)
      refine Ends.keep [(1, .eq _), (5, .eq _), (9, .eq _), (10, .eq _)] (.cons rfl (.cons rfl (.cons rfl (.cons rfl .nil)))) ?_
      refine ends_then ?_
      -- region 8
      refine cw_region ?_
      refine lw_v rfl rfl (ok_addi rfl (.n rfl) rfl rfl (fun _ => ⟨by omega, by omega⟩)) ?_
      refine lw_v rfl rfl (ok_move rfl (.n rfl) rfl) ?_
      refine lw_nil ?_
      -- BACK
      have e := filt_succ p k
      rw [if_pos h19] at e
      rw [← e] at hS ⊢
      exact ends_back3 (k + 1) A23 c23 (.cons rfl (.cons rfl (.cons rfl (.cons rfl .nil)))) ⟨by omega, hS.tail⟩ (by omega)
    ·
      refine cw_skip ?_
      refine in_normal (?_)
      refine ends_then ?_
      -- region 8
      refine cw_region ?_
      refine lw_v rfl rfl (ok_addi rfl (.n rfl) rfl rfl (fun _ => ⟨by omega, by omega⟩)) ?_
      refine lw_v rfl rfl (ok_move rfl (.n rfl) rfl) ?_
      refine lw_nil ?_
      -- BACK
      have e := filt_succ p k
      rw [if_neg (by rw [h19]; decide), List.append_nil] at e
      rw [← e] at hS ⊢
      exact ends_back3 (k + 1) A cc (.cons rfl (.cons rfl (.cons rfl (.cons rfl .nil)))) ⟨by omega, hS⟩ (by omega)
  ·
    have hkn : k = n := by have := of_decide_eq_false h11; omega
    subst hkn
    refine cw_exit ?_
    refine then_exit (then_exit (in_exit (?_)))
    refine Ends.keep [(5, .eq _)] (.cons rfl .nil) ?_
    refine ends_then ?_
    refine cw_seq ?_
    -- region 9
    refine cw_region ?_
    refine lw_v rfl rfl (ok_move rfl (.n rfl) rfl) ?_
    refine lw_v rfl rfl (ok_assign rfl (.n rfl) rfl) ?_
    refine lw_nil ?_
    refine Ends.keep [(4, .eq _)] (.cons rfl .nil) ?_
    refine ends_then ?_
    refine cw_ret ?_
    exact end_ret (res1 Try.results96 rfl) ⟨A, cc, rfl, hS.below, fun b hb => hS.ge _ (.head _) rfl b hb, hS.ok _ (.head _)⟩

set_option maxRecDepth 10000 in
/-- label.down's function. -/
theorem f97 (c : Cs) (q : Q6) (res l : List Int) (A1 : Option Addr) (c1 : Nat) (A : Option Addr) (cc : Nat) (F : FuncId) (p : Int → Bool) (a b4 b5 b6 b7 : Nat) (w : World) (hwf : WF c) (hc : CsAt c q w) (hr : (sl (eInt .i64) 1 A1 res.length c1 res).p w) (hl : (sl (eInt .i64) 1 A l.length cc l).p w) (hrl : res.length = c.Head.length) (hrh : RightH c l)
    (hF : ∀ args w, (callFunc F args).run Try.prog w = .ok (.enter F args) w) (hdo : ∀ x : Int, Does Try.prog F [] w [.int .i64 x] (.bool (p x))) (ha : a < c.Head.length)
    (h4 : (rbx b4 (csV c q).cells.toList 29).p w) (h5 : (rbx b5 [.slice A1 res.length c1] 25).p w) (h6 : (rbx b6 [.slice A l.length cc] 26).p w) (h7 : (rbx b7 [.func (.func F) #[] #[]] 83).p w) :
    Calls Try.prog 97 #[.int .i64 a, .pointer (some ⟨b4, 0, none⟩), .pointer (some ⟨b5, 0, none⟩), .pointer (some ⟨b7, 0, none⟩), .pointer (some ⟨b6, 0, none⟩)] w fun e w' => e = .returned (.tuple #[.int .i64 a, .bool (downP c res l p a)]) ∧ Gr w w' := by
  refine calls_cw Try.func97 rfl Try.ntmps97 rfl ?_
  have hS := ((((((St.ofc hc).args (Nat.le_refl _) _ hl rfl).args (Nat.le_refl _) _ hr rfl).args (Nat.le_refl _) (rbx b6 [.slice A l.length cc] 26) h6 rfl).args (Nat.le_refl _) (rbx b7 [.func (.func F) #[] #[]] 83) h7 rfl).args (Nat.le_refl _) (rbx b5 [.slice A1 res.length c1] 25) h5 rfl).args (Nat.le_refl _) (rbx b4 (csV c q).cells.toList 29) h4 rfl
  obtain ⟨ht1, ht2, ht3⟩ := tail_at hwf ha
  obtain ⟨hd1, hd2⟩ := hwf.hd a ha
  have hx := hrh.rng (tailOf c a) ht1
  have hy := hrh.rng (c.Head.getD a 0).toNat (by omega)
  have hlen := hrh.len
  have hN := hwf.hi
  have eH : c.Head.getD (a : Int).toNat 0 = c.Head.getD a 0 := rfl
  rw [← eH] at hd1 hd2 hy
  have eT : l.getD (tailOf c a : Int).toNat 0 = l.getD (tailOf c a) 0 := rfl
  rw [← eT] at hx
  refine cw_seq ?_
  -- region 0
  refine cw_region ?_
  refine lw_v rfl rfl (ok_assign rfl (.n rfl) rfl) ?_
  refine lw_v rfl rfl (ok_assign rfl (.n rfl) rfl) ?_
  refine lw_nil ?_
  refine Ends.keep [(0, .eq _), (1, .eq _), (2, .eq _), (3, .eq _), (4, .eq _)] (.cons rfl (.cons rfl (.cons rfl (.cons rfl (.cons rfl .nil))))) ?_
  refine ends_then ?_
  refine cw_seq ?_
  -- region 1
  refine cw_region ?_
  refine lw_v rfl rfl (ok_ldS rfl (.n rfl) rfl Try.isAgg29 Try.sizeOf29 hS rfl) ?_
  refine lw_v rfl rfl (ok_move rfl (.n rfl) rfl) ?_
  refine lw_call (f := 40) (xs := [_, _]) rfl rfl rfl Try.call40 rfl (Calls.mono (f40 c q a _ hwf (hS.cs q) ha) ?_)
  rintro e w' ⟨rfl, hg⟩
  replace hS := hS.grow hg; clear hg
  refine ⟨_, rfl, ?_⟩
  refine lw_v rfl rfl (ok_move rfl (.n rfl) rfl) ?_
  refine lw_v rfl rfl (ok_extract rfl (.n rfl) rfl rfl) ?_
  refine lw_v rfl rfl (ok_extract rfl (.n rfl) rfl rfl) ?_
  refine lw_v rfl rfl (ok_assign rfl (.n rfl) rfl) ?_
  refine lw_v rfl rfl (ok_assign rfl (.n rfl) rfl) ?_
  refine lw_nil ?_
  refine Ends.keep [(0, .eq _), (1, .eq _), (2, .eq _), (3, .eq _), (4, .eq _), (8, .eq _)] (.cons rfl (.cons rfl (.cons rfl (.cons rfl (.cons rfl (.cons rfl .nil)))))) ?_
  refine ends_then ?_
  refine cw_seq ?_
  -- region 2
  refine cw_draw (by kernel_rfl) (List.take 30 _) (List.drop 30 _) (List.take_append_drop 30 _).symm (by kernel_rfl) ?_
  refine free_v (ok_move rfl (.n rfl) rfl) ?_
  refine free_v (ok_move rfl (.n rfl) rfl) ?_
  refine free_v (ok_fb rfl (.n rfl) Try.underlying29 rfl Try.sizeOf3 (by decide) rfl) ?_
  refine free_v (ok_ldb rfl (.n rfl) rfl Try.isAgg3 hS (by rfl)) ?_
  refine free_v (ok_neq rfl (.n rfl) rfl rfl) ?_
  refine free_v (ok_move rfl (.n rfl) rfl) ?_
  refine free_v (ok_ldb rfl (.s rfl rfl) rfl Try.isAgg25 hS (by rfl)) ?_
  refine free_v (ok_move rfl (.s rfl rfl) rfl) ?_
  refine free_v (ok_ix rfl (.s rfl rfl) Try.underlying25 Try.sizeOf2 rfl rfl hS (fun _ => ⟨by omega, by omega⟩)) ?_
  refine free_v (ok_ldx rfl (.s rfl rfl) rfl Try.isAgg2 hS (fun _ => ⟨by omega, by omega⟩) (by rfl)) ?_
  refine free_v (ok_gtr rfl (.s rfl rfl) rfl rfl) ?_
  refine free_v (ok_and rfl rfl rfl rfl) ?_
  refine free_v (ok_move rfl (.n rfl) rfl) ?_
  refine free_v (ok_ldb rfl (.s rfl rfl) rfl Try.isAgg83 hS (by rfl)) ?_
  refine free_v (ok_ldb rfl (.s rfl rfl) rfl Try.isAgg26 hS (by rfl)) ?_
  refine free_v (ok_move rfl (.s rfl rfl) rfl) ?_
  refine free_v (ok_ix rfl (.s rfl rfl) Try.underlying26 Try.sizeOf3 rfl rfl hS (fun _ => ⟨by omega, by omega⟩)) ?_
  refine free_v (ok_ldx rfl (.s rfl rfl) rfl Try.isAgg3 hS (fun _ => ⟨by omega, by omega⟩) (by rfl)) ?_
  refine free_v (ok_ldb rfl (.s rfl rfl) rfl Try.isAgg26 hS (by rfl)) ?_
  refine free_v (ok_fb rfl (.s rfl rfl) Try.underlying29 rfl Try.sizeOf26 (by decide) rfl) ?_
  refine free_v (ok_ldb rfl (.s rfl rfl) rfl Try.isAgg26 hS (by rfl)) ?_
  refine free_v (ok_move rfl (.s rfl rfl) rfl) ?_
  refine free_v (ok_ix rfl (.s rfl rfl) Try.underlying26 Try.sizeOf3 rfl rfl hS (fun _ => ⟨by omega, by omega⟩)) ?_
  refine free_v (ok_ldx rfl (.s rfl rfl) rfl Try.isAgg3 hS (fun _ => ⟨by omega, by omega⟩) (by rfl)) ?_
  refine free_v (ok_ix rfl (.s rfl rfl) Try.underlying26 Try.sizeOf3 rfl rfl hS (fun _ => ⟨by omega, by omega⟩)) ?_
  refine free_v (ok_ldx rfl (.s rfl rfl) rfl Try.isAgg3 hS (fun _ => ⟨by omega, by omega⟩) (by rfl)) ?_
  refine free_v (ok_subi rfl (.s rfl rfl) rfl rfl (fun _ => ⟨by omega, by omega⟩)) ?_
  refine free_cons (ok_callg (.bool (p _)) rfl (.s rfl rfl) hF rfl rfl (fun _ w' hg => hdo _ w' (Gr.trans hS.below hg))) ?_
  refine free_v (ok_and rfl rfl rfl rfl) ?_
  refine free_v (ok_assign rfl (.n rfl) rfl) ?_
  refine free_nil ?_
  intro w1 hg_; replace hS := hS.grow hg_; clear hg_
  refine lw_v rfl rfl (ok_assign rfl (.n rfl) rfl) ?_
  refine lw_nil ?_
  refine Ends.keep [(6, .eq _), (7, .eq _)] (.cons rfl (.cons rfl .nil)) ?_
  refine ends_then ?_
  refine cw_ret ?_
  exact end_ret (res2 Try.results97 rfl rfl) ⟨rfl, hS.below⟩

set_option maxRecDepth 10000 in
/-- label.down. -/
theorem f73 (c : Cs) (q : Q6) (res l : List Int) (A1 : Option Addr) (c1 : Nat) (A : Option Addr) (cc : Nat) (F : FuncId) (p : Int → Bool) (w : World) (hwf : WF c) (hc : CsAt c q w) (hr : (sl (eInt .i64) 1 A1 res.length c1 res).p w) (hl : (sl (eInt .i64) 1 A l.length cc l).p w)
    (hF : ∀ args w, (callFunc F args).run Try.prog w = .ok (.enter F args) w) (hdo : ∀ x : Int, Does Try.prog F [] w [.int .i64 x] (.bool (p x))) :
    Calls Try.prog 73 #[csV c q, .slice A1 res.length c1, .slice A l.length cc, .func (.func F) #[] #[]] w fun e w' => ∃ A' c', e = .returned (.slice A' (downL c res l p).length c') ∧ Gr w w' ∧ (∀ b, (own (eInt .i64) 1 3 A' (downL c res l p).length c' (downL c res l p)).fp b → w.heap.size ≤ b) ∧ (own (eInt .i64) 1 3 A' (downL c res l p).length c' (downL c res l p)).p w' := by
  refine calls_cw Try.func73 rfl Try.ntmps73 rfl ?_
  have hS := ((St.ofc hc).args (Nat.le_refl _) _ hl rfl).args (Nat.le_refl _) _ hr rfl
  have hll := hl.2.1
  have hrr := hr.2.1
  refine cw_seq ?_
  -- region 0
  refine cw_region ?_
  refine lw_box rfl rfl rfl rfl hS ?_
  clear hS; intro b4 w1 _ _ hS
  refine lw_box rfl rfl rfl rfl hS ?_
  clear hS; intro b5 w2 _ _ hS
  refine lw_box rfl rfl rfl rfl hS ?_
  clear hS; intro b6 w3 _ _ hS
  refine lw_box rfl rfl rfl rfl hS ?_
  clear hS; intro b7 w4 _ _ hS
  refine lw_v rfl rfl (ok_assign rfl (.n rfl) rfl) ?_
  refine lw_nil ?_
  refine Ends.keep [(4, .eq _), (5, .eq _), (6, .eq _), (7, .eq _)] (.cons rfl (.cons rfl (.cons rfl (.cons rfl .nil)))) ?_
  refine ends_then ?_
  refine cw_seq ?_
  refine cw_seq ?_
  -- region 1
  refine cw_region ?_
  refine lw_v rfl rfl (ok_ldS rfl (.n rfl) rfl Try.isAgg29 Try.sizeOf29 hS rfl) ?_
  refine lw_v rfl rfl (ok_ldb rfl (.n rfl) rfl Try.isAgg25 hS (by rfl)) ?_
  refine lw_v rfl rfl (ok_ldb rfl (.n rfl) rfl Try.isAgg26 hS (by rfl)) ?_
  refine lw_call (f := 70) (xs := [_, _, _]) rfl rfl rfl Try.call70 rfl (Calls.mono (f70 c q res l A1 c1 A cc _ hwf (hS.rd A hll)) ?_)
  rintro e w' ⟨rfl, hg⟩
  replace hS := hS.grow hg; clear hg
  refine ⟨_, rfl, ?_⟩
  refine lw_v rfl rfl (ok_not rfl (.n rfl) rfl) ?_
  refine lw_nil ?_
  refine Ends.keep [(4, .eq _), (5, .eq _), (6, .eq _), (7, .eq _), (13, .eq _)] (.cons rfl (.cons rfl (.cons rfl (.cons rfl (.cons rfl .nil))))) ?_
  refine ends_then ?_
  refine cw_cond rfl (fun h13 => ?_) (fun h13 => ?_)
  ·
    have hm : mayB c res l = false := by simpa using h13
    replace hS := hS.nil (eInt .i64) 1 3
    have e : [] = downL c res l p := by unfold downL; rw [if_neg (by rw [hm]; decide)]
    refine cw_seq ?_
    -- region 2
    refine cw_region ?_
    refine lw_v rfl rfl (ok_assign rfl (.n rfl) rfl) ?_
    refine lw_nil ?_
    refine Ends.keep [(8, .eq _)] (.cons rfl .nil) ?_
    refine ends_then ?_
    refine cw_ret ?_
    refine then_ret (?_)
    exact end_ret (res1 Try.results73 rfl) ⟨none, 0, by rw [← e]; rfl, hS.below, by rw [← e]; exact fun b hb => hS.ge _ (.head _) rfl b hb, by rw [← e]; exact hS.ok _ (.head _)⟩
  ·
    have hm : mayB c res l = true := by simpa using h13
    obtain ⟨hrl, hrh⟩ := (may_iff hwf).1 hm
    have hM := hwf.m
    have e : ((List.range res.length).filter (downP c res l p)).map Int.ofNat = downL c res l p := by unfold downL; rw [if_pos hm, hrl]
    refine cw_skip ?_
    refine ends_then ?_
    refine cw_seq ?_
    -- region 3
    refine cw_region ?_
    refine lw_v rfl rfl (ok_ldb rfl (.n rfl) rfl Try.isAgg25 hS (by rfl)) ?_
    refine lw_v rfl rfl (ok_len rfl (.n rfl) Try.underlying25 rfl) ?_
    refine lw_v rfl rfl (ok_mkfn rfl (.n rfl) rfl) ?_
    refine lw_call (f := 96) (xs := [_, _]) rfl rfl rfl Try.call96 rfl (Calls.mono (f96 res.length 97 [_, _, _, _] (downP c res l p) _ (by omega) Try.call97 (fun i hi w' hg => f97 c q res l A1 c1 A cc F p i b4 b5 b6 b7 w' hwf ((hS.grow hg).cs q) ((hS.grow hg).rd A1 hrr) ((hS.grow hg).rd A hll) hrl hrh hF (fun x => (hdo x).grow (Gr.trans hS.below hg)) (by omega) ((hS.grow hg).bx (b := b4)) ((hS.grow hg).bx (b := b5)) ((hS.grow hg).bx (b := b6)) ((hS.grow hg).bx (b := b7)))) ?_)
    rintro e w' ⟨A', c', rfl, hg, hfr, ho⟩
    have hfr' := fun b hb => Nat.le_trans hS.base (hfr b hb)
    replace hS := hS.grow hg; clear hg
    refine ⟨_, rfl, ?_⟩
    refine lw_v rfl rfl (ok_assign rfl (.n rfl) rfl) ?_
    refine lw_nil ?_
    refine Ends.keep [(8, .eq _)] (.cons rfl .nil) ?_
    refine ends_then ?_
    refine cw_ret ?_
    rw [e] at hfr' ho ⊢
    exact end_ret (res1 Try.results73 rfl) ⟨A', c', rfl, hS.below, hfr', ho⟩

set_option maxRecDepth 10000 in
/-- label.Steep's function. -/
theorem f74 (x : Int) (w : World) : Calls Try.prog 74 #[.int .i64 x] w fun e w' => e = .returned (.bool (decide (1 < x))) ∧ Gr w w' := by
  refine calls_cw Try.func74 rfl Try.ntmps74 rfl ?_
  have hS := St.start w
  refine cw_seq ?_
  -- region 0
  refine cw_region ?_
  refine lw_v rfl rfl (ok_assign rfl (.n rfl) rfl) ?_
  refine lw_nil ?_
  refine Ends.keep [(0, .eq _)] (.cons rfl .nil) ?_
  refine ends_then ?_
  refine cw_seq ?_
  -- region 1
  refine cw_region ?_
  refine lw_v rfl rfl (ok_move rfl (.n rfl) rfl) ?_
  refine lw_v rfl rfl (ok_gtr rfl (.n rfl) rfl rfl) ?_
  refine lw_v rfl rfl (ok_assign rfl (.n rfl) rfl) ?_
  refine lw_nil ?_
  refine Ends.keep [(2, .eq _)] (.cons rfl .nil) ?_
  refine ends_then ?_
  refine cw_ret ?_
  exact end_ret (res1 Try.results74 rfl) ⟨rfl, hS.below⟩

set_option maxRecDepth 10000 in
/-- label.Flat's function. -/
theorem f76 (x : Int) (w : World) : Calls Try.prog 76 #[.int .i64 x] w fun e w' => e = .returned (.bool (decide (x = 1))) ∧ Gr w w' := by
  refine calls_cw Try.func76 rfl Try.ntmps76 rfl ?_
  have hS := St.start w
  refine cw_seq ?_
  -- region 0
  refine cw_region ?_
  refine lw_v rfl rfl (ok_assign rfl (.n rfl) rfl) ?_
  refine lw_nil ?_
  refine Ends.keep [(0, .eq _)] (.cons rfl .nil) ?_
  refine ends_then ?_
  refine cw_seq ?_
  -- region 1
  refine cw_region ?_
  refine lw_v rfl rfl (ok_move rfl (.n rfl) rfl) ?_
  refine lw_v rfl rfl (ok_eql rfl (.n rfl) rfl rfl) ?_
  refine lw_v rfl rfl (ok_assign rfl (.n rfl) rfl) ?_
  refine lw_nil ?_
  refine Ends.keep [(2, .eq _)] (.cons rfl .nil) ?_
  refine ends_then ?_
  refine cw_ret ?_
  exact end_ret (res1 Try.results76 rfl) ⟨rfl, hS.below⟩

set_option maxRecDepth 10000 in
/-- label.Steep. -/
theorem f31 (c : Cs) (q : Q6) (res l : List Int) (A1 : Option Addr) (c1 : Nat) (A : Option Addr) (cc : Nat) (w : World) (hwf : WF c) (hc : CsAt c q w) (hr : (sl (eInt .i64) 1 A1 res.length c1 res).p w) (hl : (sl (eInt .i64) 1 A l.length cc l).p w) :
    Calls Try.prog 31 #[csV c q, .slice A1 res.length c1, .slice A l.length cc] w fun e w' => ∃ A' c', e = .returned (.slice A' (steepL c res l).length c') ∧ Gr w w' ∧ (∀ b, (own (eInt .i64) 1 3 A' (steepL c res l).length c' (steepL c res l)).fp b → w.heap.size ≤ b) ∧ (own (eInt .i64) 1 3 A' (steepL c res l).length c' (steepL c res l)).p w' := by
  refine calls_cw Try.func31 rfl Try.ntmps31 rfl ?_
  have hS := ((St.ofc hc).args (Nat.le_refl _) _ hl rfl).args (Nat.le_refl _) _ hr rfl
  have hll := hl.2.1
  have hrr := hr.2.1
  refine cw_seq ?_
  -- region 0
  refine cw_region ?_
  refine lw_box rfl rfl rfl rfl hS ?_
  clear hS; intro b3 w1 _ _ hS
  refine lw_v rfl rfl (ok_assign rfl (.n rfl) rfl) ?_
  refine lw_nil ?_
  refine Ends.keep [(1, .eq _), (2, .eq _), (3, .eq _)] (.cons rfl (.cons rfl (.cons rfl .nil))) ?_
  refine ends_then ?_
  refine cw_seq ?_
  -- region 1
  refine cw_region ?_
  refine lw_v rfl rfl (ok_ldS rfl (.n rfl) rfl Try.isAgg29 Try.sizeOf29 hS rfl) ?_
  refine lw_v rfl rfl (ok_move rfl (.n rfl) rfl) ?_
  refine lw_v rfl rfl (ok_move rfl (.n rfl) rfl) ?_
  refine lw_call (f := 73) (xs := [_, _, _, _]) rfl rfl rfl Try.call73 rfl (Calls.mono (f73 c q res l A1 c1 A cc 74 _ _ hwf (hS.cs q) (hS.rd A1 hrr) (hS.rd A hll) Try.call74 (fun x w' _ => f74 x w')) ?_)
  rintro e w' ⟨A', c', rfl, hg, hfr, ho⟩
  have hfr' := fun b hb => Nat.le_trans hS.base (hfr b hb)
  replace hS := hS.grow hg; clear hg
  refine ⟨_, rfl, ?_⟩
  refine lw_v rfl rfl (ok_assign rfl (.n rfl) rfl) ?_
  refine lw_nil ?_
  refine Ends.keep [(6, .eq _)] (.cons rfl .nil) ?_
  refine ends_then ?_
  refine cw_ret ?_
  exact end_ret (res1 Try.results31 rfl) ⟨A', c', rfl, hS.below, hfr', ho⟩

set_option maxRecDepth 10000 in
/-- label.Flat. -/
theorem f33 (c : Cs) (q : Q6) (res l : List Int) (A1 : Option Addr) (c1 : Nat) (A : Option Addr) (cc : Nat) (w : World) (hwf : WF c) (hc : CsAt c q w) (hr : (sl (eInt .i64) 1 A1 res.length c1 res).p w) (hl : (sl (eInt .i64) 1 A l.length cc l).p w) :
    Calls Try.prog 33 #[csV c q, .slice A1 res.length c1, .slice A l.length cc] w fun e w' => ∃ A' c', e = .returned (.slice A' (flatL c res l).length c') ∧ Gr w w' ∧ (∀ b, (own (eInt .i64) 1 3 A' (flatL c res l).length c' (flatL c res l)).fp b → w.heap.size ≤ b) ∧ (own (eInt .i64) 1 3 A' (flatL c res l).length c' (flatL c res l)).p w' := by
  refine calls_cw Try.func33 rfl Try.ntmps33 rfl ?_
  have hS := ((St.ofc hc).args (Nat.le_refl _) _ hl rfl).args (Nat.le_refl _) _ hr rfl
  have hll := hl.2.1
  have hrr := hr.2.1
  refine cw_seq ?_
  -- region 0
  refine cw_region ?_
  refine lw_box rfl rfl rfl rfl hS ?_
  clear hS; intro b3 w1 _ _ hS
  refine lw_v rfl rfl (ok_assign rfl (.n rfl) rfl) ?_
  refine lw_nil ?_
  refine Ends.keep [(1, .eq _), (2, .eq _), (3, .eq _)] (.cons rfl (.cons rfl (.cons rfl .nil))) ?_
  refine ends_then ?_
  refine cw_seq ?_
  -- region 1
  refine cw_region ?_
  refine lw_v rfl rfl (ok_ldS rfl (.n rfl) rfl Try.isAgg29 Try.sizeOf29 hS rfl) ?_
  refine lw_v rfl rfl (ok_move rfl (.n rfl) rfl) ?_
  refine lw_v rfl rfl (ok_move rfl (.n rfl) rfl) ?_
  refine lw_call (f := 73) (xs := [_, _, _, _]) rfl rfl rfl Try.call73 rfl (Calls.mono (f73 c q res l A1 c1 A cc 76 _ _ hwf (hS.cs q) (hS.rd A1 hrr) (hS.rd A hll) Try.call76 (fun x w' _ => f76 x w')) ?_)
  rintro e w' ⟨A', c', rfl, hg, hfr, ho⟩
  have hfr' := fun b hb => Nat.le_trans hS.base (hfr b hb)
  replace hS := hS.grow hg; clear hg
  refine ⟨_, rfl, ?_⟩
  refine lw_v rfl rfl (ok_assign rfl (.n rfl) rfl) ?_
  refine lw_nil ?_
  refine Ends.keep [(6, .eq _)] (.cons rfl .nil) ?_
  refine ends_then ?_
  refine cw_ret ?_
  exact end_ret (res1 Try.results33 rfl) ⟨A', c', rfl, hS.below, hfr', ho⟩

set_option maxRecDepth 10000 in
/-- label.Valid. -/
theorem f35 (c : Cs) (q : Q6) (res l : List Int) (A1 : Option Addr) (c1 : Nat) (A : Option Addr) (cc : Nat) (w : World) (hwf : WF c) (hc : CsAt c q w) (hr : (sl (eInt .i64) 1 A1 res.length c1 res).p w) (hl : (sl (eInt .i64) 1 A l.length cc l).p w) :
    Calls Try.prog 35 #[csV c q, .slice A1 res.length c1, .slice A l.length cc] w fun e w' => e = .returned (.bool (validB c res l)) ∧ Gr w w' := by
  cases hm : mayB c res l with
  | true =>
    refine calls_cw Try.func35 rfl Try.ntmps35 rfl ?_
    have hS := ((St.ofc hc).args (Nat.le_refl _) _ hl rfl).args (Nat.le_refl _) _ hr rfl
    have hll := hl.2.1
    have hrr := hr.2.1
    refine cw_seq ?_
    -- region 0
    refine cw_region ?_
    refine lw_box rfl rfl rfl rfl hS ?_
    clear hS; intro b3 w1 _ _ hS
    refine lw_v rfl rfl (ok_assign rfl (.n rfl) rfl) ?_
    refine lw_nil ?_
    refine Ends.keep [(1, .eq _), (2, .eq _), (3, .eq _)] (.cons rfl (.cons rfl (.cons rfl .nil))) ?_
    refine ends_then ?_
    refine cw_seq ?_
    -- region 1
    refine cw_region ?_
    refine lw_v rfl rfl (ok_ldS rfl (.n rfl) rfl Try.isAgg29 Try.sizeOf29 hS rfl) ?_
    refine lw_v rfl rfl (ok_move rfl (.n rfl) rfl) ?_
    refine lw_v rfl rfl (ok_move rfl (.n rfl) rfl) ?_
    refine lw_call (f := 70) (xs := [_, _, _]) rfl rfl rfl Try.call70 rfl (Calls.mono (f70 c q res l A1 c1 A cc _ hwf (hS.rd A hll)) ?_)
    rintro e w' ⟨rfl, hg⟩
    replace hS := hS.grow hg; clear hg
    rw [hm]
    refine ⟨_, rfl, ?_⟩
    refine lw_v rfl rfl (ok_move rfl (.n rfl) rfl) ?_
    refine lw_on (.s rfl rfl) rfl ?_
    refine lw_v rfl rfl (ok_ldS rfl (.n rfl) rfl Try.isAgg29 Try.sizeOf29 hS rfl) ?_
    refine lw_on (.s rfl rfl) rfl ?_
    refine lw_v rfl rfl (ok_move rfl (.n rfl) rfl) ?_
    refine lw_on (.s rfl rfl) rfl ?_
    refine lw_v rfl rfl (ok_move rfl (.n rfl) rfl) ?_
    refine lw_on (.s rfl rfl) rfl ?_
    refine lw_call (f := 31) (xs := [_, _, _]) rfl rfl rfl Try.call31 rfl (Calls.mono (f31 c q res l A1 c1 A cc _ hwf (hS.cs q) (hS.rd A1 hrr) (hS.rd A hll)) ?_)
    rintro e w' ⟨A', c', rfl, hg, hfr, ho⟩
    replace hS := hS.grow hg; clear hg
    refine ⟨_, rfl, ?_⟩
    refine lw_on (.s rfl rfl) rfl ?_
    refine lw_v rfl rfl (ok_len rfl (.n rfl) Try.underlying26 rfl) ?_
    refine lw_on (.s rfl rfl) rfl ?_
    refine lw_v rfl rfl (ok_eql rfl (.n rfl) rfl rfl) ?_
    refine lw_v rfl rfl (ok_pick rfl rfl rfl rfl rfl) ?_
    refine lw_v rfl rfl (ok_assign rfl (.n rfl) rfl) ?_
    refine lw_nil ?_
    refine Ends.keep [(6, .eq _)] (.cons rfl .nil) ?_
    refine ends_then ?_
    refine cw_ret ?_
    exact end_ret (res1 Try.results35 rfl) ⟨by unfold validB; rw [hm]; rfl, hS.below⟩
  | false =>
    refine calls_cw Try.func35 rfl Try.ntmps35 rfl ?_
    have hS := ((St.ofc hc).args (Nat.le_refl _) _ hl rfl).args (Nat.le_refl _) _ hr rfl
    have hll := hl.2.1
    have hrr := hr.2.1
    refine cw_seq ?_
    -- region 0
    refine cw_region ?_
    refine lw_box rfl rfl rfl rfl hS ?_
    clear hS; intro b3 w1 _ _ hS
    refine lw_v rfl rfl (ok_assign rfl (.n rfl) rfl) ?_
    refine lw_nil ?_
    refine Ends.keep [(1, .eq _), (2, .eq _), (3, .eq _)] (.cons rfl (.cons rfl (.cons rfl .nil))) ?_
    refine ends_then ?_
    refine cw_seq ?_
    -- region 1
    refine cw_region ?_
    refine lw_v rfl rfl (ok_ldS rfl (.n rfl) rfl Try.isAgg29 Try.sizeOf29 hS rfl) ?_
    refine lw_v rfl rfl (ok_move rfl (.n rfl) rfl) ?_
    refine lw_v rfl rfl (ok_move rfl (.n rfl) rfl) ?_
    refine lw_call (f := 70) (xs := [_, _, _]) rfl rfl rfl Try.call70 rfl (Calls.mono (f70 c q res l A1 c1 A cc _ hwf (hS.rd A hll)) ?_)
    rintro e w' ⟨rfl, hg⟩
    replace hS := hS.grow hg; clear hg
    rw [hm]
    refine ⟨_, rfl, ?_⟩
    refine lw_v rfl rfl (ok_move rfl (.n rfl) rfl) ?_
    refine lw_off rfl (.s rfl rfl) rfl rfl ?_
    refine lw_off rfl (.s rfl rfl) rfl rfl ?_
    refine lw_off rfl (.s rfl rfl) rfl rfl ?_
    refine lw_off rfl (.s rfl rfl) rfl rfl ?_
    refine lw_off rfl (.s rfl rfl) rfl rfl ?_
    refine lw_off rfl (.s rfl rfl) rfl rfl ?_
    refine lw_v rfl rfl (ok_pick rfl rfl rfl rfl rfl) ?_
    refine lw_v rfl rfl (ok_assign rfl (.n rfl) rfl) ?_
    refine lw_nil ?_
    refine Ends.keep [(6, .eq _)] (.cons rfl .nil) ?_
    refine ends_then ?_
    refine cw_ret ?_
    exact end_ret (res1 Try.results35 rfl) ⟨by unfold validB; rw [hm]; rfl, hS.below⟩


set_option maxRecDepth 10000 in
/-- label.Sum. -/
theorem f37 (c : Cs) (q : Q6) (l : List Int) (A : Option Addr) (cc : Nat) (w : World) (hwf : WF c) (hl : (sl (eInt .i64) 1 A l.length cc l).p w) :
    Calls Try.prog 37 #[csV c q, .slice A l.length cc] w fun e w' => e = .returned (.int .i64 (sumB c l)) ∧ Gr w w' := by
  refine calls_cw Try.func37 rfl Try.ntmps37 rfl ?_
  have hS := (St.start w).args (Nat.le_refl _) _ hl rfl
  have hll := hl.2.1
  have hN := hwf.hi
  refine cw_seq ?_
  -- region 0
  refine cw_region ?_
  refine lw_box rfl rfl rfl rfl hS ?_
  clear hS; intro b2 w1 _ _ hS
  refine lw_v rfl rfl (ok_assign rfl (.n rfl) rfl) ?_
  refine lw_nil ?_
  refine Ends.keep [(1, .eq _), (2, .eq _)] (.cons rfl (.cons rfl .nil)) ?_
  refine ends_then ?_
  refine cw_seq ?_
  refine cw_seq ?_
  -- region 1
  refine cw_region ?_
  refine lw_v rfl rfl (ok_ldS rfl (.n rfl) rfl Try.isAgg29 Try.sizeOf29 hS rfl) ?_
  refine lw_v rfl rfl (ok_move rfl (.n rfl) rfl) ?_
  refine lw_call (f := 28) (xs := [_, _]) rfl rfl rfl Try.call28 rfl (Calls.mono (f28 c q l A cc _ hwf (hS.rd A hll)) ?_)
  rintro e w' ⟨rfl, hg⟩
  replace hS := hS.grow hg; clear hg
  refine ⟨_, rfl, ?_⟩
  refine lw_v rfl rfl (ok_not rfl (.n rfl) rfl) ?_
  refine lw_nil ?_
  refine Ends.keep [(1, .eq _), (11, .eq _)] (.cons rfl (.cons rfl .nil)) ?_
  refine ends_then ?_
  refine cw_cond rfl (fun h11 => ?_) (fun h11 => ?_)
  ·
    have hm : rightB c l = false := by simpa using h11
    refine cw_seq ?_
    -- region 2
    refine cw_region ?_
    refine lw_v rfl rfl (ok_assign rfl (.n rfl) rfl) ?_
    refine lw_nil ?_
    refine Ends.keep [(4, .eq _)] (.cons rfl .nil) ?_
    refine ends_then ?_
    refine cw_ret ?_
    refine then_ret (?_)
    exact end_ret (res1 Try.results37 rfl) ⟨by unfold sumB; rw [if_neg (by rw [hm]; decide)], hS.below⟩
  ·
    have hm : rightB c l = true := by simpa using h11
    have hrh := (right_iff hwf).1 hm
    have hlen := hrh.len
    refine cw_skip ?_
    refine ends_then ?_
    refine cw_seq ?_
    -- region 3
    refine cw_region ?_
    refine lw_v rfl rfl (ok_assign rfl (.n rfl) rfl) ?_
    refine lw_nil ?_
    refine Ends.keep [(1, .eq _), (5, .eq _)] (.cons rfl (.cons rfl .nil)) ?_
    refine ends_then ?_
    refine cw_seq ?_
    refine cw_seq ?_
    -- region 4
    refine cw_region ?_
    refine lw_v rfl rfl (ok_move rfl (.n rfl) rfl) ?_
    refine lw_v rfl rfl (ok_len rfl (.n rfl) Try.underlying26 rfl) ?_
    refine lw_v rfl rfl (ok_move rfl (.n rfl) rfl) ?_
    refine lw_nil ?_
    refine Ends.keep [(5, .eq _), (12, .eq _), (13, .eq _), (14, .eq _)] (.cons rfl (.cons rfl (.cons rfl (.cons rfl .nil)))) ?_
    refine ends_then ?_
    refine cw_block ?_
    -- LOOP at region 5: changed live slots [5, 14], kept [12, 13]
    refine cw_loop2 [(12, .eq _), (13, .eq _)] (fun (k : Nat) (s : Int) => [(5, .eq (.int .i64 s)), (14, .eq (.int .i64 k))]) (fun k s w' => (k ≤ l.length ∧ s = sumTo l k) ∧ St w.heap.size w w' [bx b2 (csV c q).cells.toList 29, sl (eInt .i64) 1 A l.length cc l]) (fun k _ => l.length - k) 0 0 (.cons rfl (.cons rfl .nil)) (.cons rfl (.cons rfl (.cons rfl (.cons rfl .nil)))) ⟨⟨Nat.zero_le _, rfl⟩, hS⟩ ?_
    clear hS
    rintro k s wr ⟨⟨hk, hs⟩, hS⟩
    have hsr := sumTo_rng hrh k (by omega)
    have hmul : (c.N : Int) * k ≤ 16 * 16 := by
      have : c.N * k ≤ 16 * 16 := Nat.mul_le_mul (by omega) (by omega)
      omega
    refine cw_seq ?_
    -- region 5
    refine cw_region ?_
    refine lw_v rfl rfl (ok_lss rfl (.n rfl) rfl rfl) ?_
    refine lw_nil ?_
    refine Ends.keep [(5, .eq _), (12, .eq _), (13, .eq _), (14, .eq _), (15, .eq _)] (.cons rfl (.cons rfl (.cons rfl (.cons rfl (.cons rfl .nil))))) ?_
    refine ends_then ?_
    refine cw_seq ?_
    refine cw_cond rfl (fun h15 => ?_) (fun h15 => ?_)
    ·
      have hlt := of_decide_eq_true h15
      have hxr := hrh.rng k (by omega)
      have eK : l.getD (k : Int).toNat 0 = l.getD k 0 := rfl
      rw [← eK] at hxr
      refine cw_skip ?_
      refine ends_then ?_
      refine cw_seq ?_
      refine cw_block ?_
      refine cw_seq ?_
      -- region 6
      refine cw_region ?_
      refine lw_v rfl rfl (ok_ix rfl (.n rfl) Try.underlying26 Try.sizeOf3 rfl rfl hS (fun _ => ⟨by omega, by omega⟩)) ?_
      refine lw_v rfl rfl (ok_ldx rfl (.n rfl) rfl Try.isAgg3 hS (fun _ => ⟨by omega, by omega⟩) (by rfl)) ?_
      refine lw_v rfl rfl (ok_assign rfl (.n rfl) rfl) ?_
      refine lw_nil ?_
      refine Ends.keep [(5, .eq _), (7, .eq _), (12, .eq _), (13, .eq _), (14, .eq _)] (.cons rfl (.cons rfl (.cons rfl (.cons rfl (.cons rfl .nil))))) ?_
      refine ends_then ?_
      -- region 7
      refine cw_region ?_
      refine lw_v rfl rfl (ok_move rfl (.n rfl) rfl) ?_
      refine lw_v rfl rfl (ok_move rfl (.n rfl) rfl) ?_
      refine lw_v rfl rfl (ok_addi rfl (.n rfl) rfl rfl (fun _ => ⟨by omega, by omega⟩)) ?_
      refine lw_v rfl rfl (ok_assign rfl (.n rfl) rfl) ?_
      refine lw_nil ?_
      refine in_normal (?_)
      refine Ends.keep [(5, .eq _), (12, .eq _), (13, .eq _), (14, .eq _)] (.cons rfl (.cons rfl (.cons rfl (.cons rfl .nil)))) ?_
      refine ends_then ?_
      -- region 8
      refine cw_region ?_
      refine lw_v rfl rfl (ok_addi rfl (.n rfl) rfl rfl (fun _ => ⟨by omega, by omega⟩)) ?_
      refine lw_v rfl rfl (ok_move rfl (.n rfl) rfl) ?_
      refine lw_nil ?_
      -- BACK
      refine ends_back2 (k + 1) _ (.cons rfl (.cons rfl (.cons rfl (.cons rfl .nil)))) ⟨⟨by omega, ?_⟩, hS⟩ (by omega)
      rw [hs]; rfl
    ·
      have hkn : k = l.length := by have := of_decide_eq_false h15; omega
      subst hkn
      refine cw_exit ?_
      refine then_exit (then_exit (in_exit (?_)))
      refine Ends.keep [(5, .eq _)] (.cons rfl .nil) ?_
      refine ends_then ?_
      refine cw_seq ?_
      -- region 9
      refine cw_region ?_
      refine lw_v rfl rfl (ok_move rfl (.n rfl) rfl) ?_
      refine lw_v rfl rfl (ok_assign rfl (.n rfl) rfl) ?_
      refine lw_nil ?_
      refine Ends.keep [(4, .eq _)] (.cons rfl .nil) ?_
      refine ends_then ?_
      refine cw_ret ?_
      exact end_ret (res1 Try.results37 rfl) ⟨by unfold sumB; rw [if_pos hm, hs], hS.below⟩

end Go.Proofs.Ytnpgeohkmdcbkaa.Aq
