/- The walks of label.Right and label.may. -/
import Derived.Test.YtnpgeohkmdcbkaaTail
import Derived.Test.YtnpgeohkmdcbkaaPlain3
namespace Go.Proofs.Ytnpgeohkmdcbkaa.Aq
open Go Go.RowKit

set_option maxRecDepth 10000 in
/-- label.Right's function. -/
theorem f71 (c : Cs) (q : Q6) (k : Int) (b1 : Nat) (w : World) (h1 : (rbx b1 (csV c q).cells.toList 29).p w) : Calls Try.prog 71 #[.int .i64 k, .pointer (some ⟨b1, 0, none⟩)] w fun e w' => e = .returned (.bool (wrongB c.N k)) ∧ Gr w w' := by
  refine calls_cw Try.func71 rfl Try.ntmps71 rfl ?_
  have hS := (St.start w).args (Nat.le_refl _) (rbx b1 (csV c q).cells.toList 29) h1 rfl
  refine cw_seq ?_
  -- region 0
  refine cw_region ?_
  refine lw_v rfl rfl (ok_assign rfl (.n rfl) rfl) ?_
  refine lw_nil ?_
  refine Ends.keep [(0, .eq _), (1, .eq _)] (.cons rfl (.cons rfl .nil)) ?_
  refine ends_then ?_
  refine cw_seq ?_
  -- region 1
  refine cw_region ?_
  refine lw_v rfl rfl (ok_move rfl (.n rfl) rfl) ?_
  refine lw_v rfl rfl (ok_lss rfl (.n rfl) rfl rfl) ?_
  refine lw_v rfl rfl (ok_move rfl (.n rfl) rfl) ?_
  refine lw_v rfl rfl (ok_move rfl (.s rfl rfl) rfl) ?_
  refine lw_v rfl rfl (ok_fb rfl (.s rfl rfl) Try.underlying29 rfl Try.sizeOf3 (by decide) rfl) ?_
  refine lw_v rfl rfl (ok_ldb rfl (.s rfl rfl) rfl Try.isAgg3 hS (by rfl)) ?_
  refine lw_v rfl rfl (ok_gtr rfl (.s rfl rfl) rfl rfl) ?_
  refine lw_v rfl rfl (ok_or rfl rfl rfl rfl) ?_
  refine lw_v rfl rfl (ok_assign rfl (.n rfl) rfl) ?_
  refine lw_nil ?_
  refine Ends.keep [(3, .eq _)] (.cons rfl .nil) ?_
  refine ends_then ?_
  refine cw_ret ?_
  exact end_ret (res1 Try.results71 rfl) ⟨rfl, hS.below⟩

theorem getD_memI {l : List Int} {k : Nat} (h : k < l.length) : l.getD k 0 ∈ l := by
  simp [List.getD_eq_getElem?_getD, h]
theorem any_yes {l : List Int} {p : Int → Bool} {k : Nat} (h : k < l.length) (hp : p (l.getD k 0) = true) : l.any p = true :=
  List.any_eq_true.2 ⟨_, getD_memI h, hp⟩
theorem any_no {l : List Int} {p : Int → Bool} (h : ∀ i, i < l.length → p (l.getD i 0) = false) : l.any p = false := by
  rw [List.any_eq_false]
  intro x hx
  obtain ⟨i, hi, rfl⟩ := List.mem_iff_getElem.1 hx
  have := h i hi
  rw [List.getD_eq_getElem?_getD, List.getElem?_eq_getElem hi, Option.getD_some] at this
  rw [this]; decide
set_option maxRecDepth 10000 in
/-- slices.IndexFunc, with a function of which it is known what it says. -/
theorem f95 (l : List Int) (A : Option Addr) (c : Nat) (F : FuncId) (caps : List Value) (p : Int → Bool) (w : World) (hl : (sl (eInt .i64) 1 A l.length c l).p w) (hF : ∀ args w, (callFunc F args).run Try.prog w = .ok (.enter F args) w) (hdo : ∀ x ∈ l, Does Try.prog F caps w [.int .i64 x] (.bool (p x))) :
    Calls Try.prog 95 #[.slice A l.length c, .func (.func F) #[] caps.toArray] w fun e w' => ∃ r : Int, e = .returned (.int .i64 r) ∧ Gr w w' ∧ decide (0 ≤ r) = l.any p := by
  refine calls_cw Try.func95 rfl Try.ntmps95 rfl ?_
  have hS := (St.start w).args (Nat.le_refl _) _ hl rfl
  have hll := hl.2.1
  refine cw_seq ?_
  -- region 0
  refine cw_region ?_
  refine lw_v rfl rfl (ok_assign rfl (.n rfl) rfl) ?_
  refine lw_nil ?_
  refine Ends.keep [(0, .eq _), (1, .eq _)] (.cons rfl (.cons rfl .nil)) ?_
  refine ends_then ?_
  refine cw_seq ?_
  refine cw_seq ?_
  -- region 1
  refine cw_region ?_
  refine lw_v rfl rfl (ok_move rfl (.n rfl) rfl) ?_
  refine lw_v rfl rfl (ok_len rfl (.n rfl) Try.underlying26 rfl) ?_
  refine lw_v rfl rfl (ok_move rfl (.n rfl) rfl) ?_
  refine lw_nil ?_
  refine Ends.keep [(0, .eq _), (1, .eq _), (7, .eq _), (8, .eq _)] (.cons rfl (.cons rfl (.cons rfl (.cons rfl .nil)))) ?_
  refine ends_then ?_
  refine cw_block ?_
  -- LOOP at region 2: changed live slots [8], kept [0, 1, 7]
  refine cw_loop [(0, .eq _), (1, .eq _), (7, .eq _)] (fun k : Nat => [(8, .eq (.int .i64 k))]) (fun k w' => (k ≤ l.length ∧ ∀ i, i < k → p (l.getD i 0) = false) ∧ St w.heap.size w w' [sl (eInt .i64) 1 A l.length c l]) (fun k => l.length - k) 0 (.cons rfl (.cons rfl (.cons rfl .nil))) (.cons rfl (.cons rfl (.cons rfl (.cons rfl .nil)))) ⟨⟨Nat.zero_le _, fun i h => absurd h (Nat.not_lt_zero i)⟩, hS⟩ ?_
  clear hS
  rintro k wr ⟨⟨hk, hp⟩, hS⟩
  refine cw_seq ?_
  -- region 2
  refine cw_region ?_
  refine lw_v rfl rfl (ok_lss rfl (.n rfl) rfl rfl) ?_
  refine lw_nil ?_
  refine Ends.keep [(0, .eq _), (1, .eq _), (7, .eq _), (8, .eq _), (9, .eq _)] (.cons rfl (.cons rfl (.cons rfl (.cons rfl (.cons rfl .nil))))) ?_
  refine ends_then ?_
  refine cw_seq ?_
  refine cw_cond rfl (fun h9 => ?_) (fun h9 => ?_)
  ·
    have hlt := of_decide_eq_true h9
    refine cw_skip ?_
    refine ends_then ?_
    refine cw_seq ?_
    refine cw_block ?_
    refine cw_seq ?_
    -- region 3
    refine cw_region ?_
    refine lw_v rfl rfl (ok_move rfl (.n rfl) rfl) ?_
    refine lw_v rfl rfl (ok_assign rfl (.n rfl) rfl) ?_
    refine lw_nil ?_
    refine Ends.keep [(0, .eq _), (1, .eq _), (5, .eq _), (7, .eq _), (8, .eq _)] (.cons rfl (.cons rfl (.cons rfl (.cons rfl (.cons rfl .nil))))) ?_
    refine ends_then ?_
    refine cw_seq ?_
    -- region 4
    refine cw_region ?_
    refine lw_v rfl rfl (ok_move rfl (.n rfl) rfl) ?_
    refine lw_v rfl rfl (ok_move rfl (.n rfl) rfl) ?_
    refine lw_v rfl rfl (ok_move rfl (.n rfl) rfl) ?_
    refine lw_v rfl rfl (ok_ix rfl (.n rfl) Try.underlying26 Try.sizeOf3 rfl rfl hS (fun _ => ⟨by omega, by omega⟩)) ?_
    refine lw_v rfl rfl (ok_ldx rfl (.n rfl) rfl Try.isAgg3 hS (fun _ => ⟨by omega, by omega⟩) (by rfl)) ?_
    refine lw_callf (f := F) (xs := [_]) rfl rfl rfl hF rfl rfl (Calls.mono (hdo (l.getD (k : Int).toNat 0) (getD_memI (by omega)) _ hS.below) ?_)
    rintro e w' ⟨rfl, hg⟩
    replace hS := hS.grow hg; clear hg
    refine ⟨_, rfl, ?_⟩
    refine lw_nil ?_
    refine Ends.keep [(0, .eq _), (1, .eq _), (5, .eq _), (7, .eq _), (8, .eq _), (16, .eq _)] (.cons rfl (.cons rfl (.cons rfl (.cons rfl (.cons rfl (.cons rfl .nil)))))) ?_
    refine ends_then ?_
    refine cw_cond rfl (fun h16 => ?_) (fun h16 => ?_)
    ·
      refine cw_seq ?_
      -- region 5
      refine cw_region ?_
      refine lw_v rfl rfl (ok_move rfl (.n rfl) rfl) ?_
      refine lw_v rfl rfl (ok_assign rfl (.n rfl) rfl) ?_
      refine lw_nil ?_
      refine Ends.keep [(4, .eq _)] (.cons rfl .nil) ?_
      refine ends_then ?_
      refine cw_ret ?_
      refine in_ret (then_ret (then_ret (in_ret (then_ret (?_)))))
      exact end_ret (res1 Try.results95 rfl) ⟨_, rfl, hS.below, by rw [any_yes (k := k) (by omega) h16]; exact decide_eq_true (by omega)⟩
    ·
      refine cw_skip ?_
      refine in_normal (?_)
      refine ends_then ?_
      -- region 6
      refine cw_region ?_
      refine lw_v rfl rfl (ok_addi rfl (.n rfl) rfl rfl (fun _ => ⟨by omega, by omega⟩)) ?_
      refine lw_v rfl rfl (ok_move rfl (.n rfl) rfl) ?_
      refine lw_nil ?_
      -- BACK
      refine ends_back (k + 1) (.cons rfl (.cons rfl (.cons rfl (.cons rfl .nil)))) ⟨⟨by omega, fun i hi => ?_⟩, hS⟩ (by omega)
      rcases Nat.lt_or_ge i k with h | h
      · exact hp i h
      · have : i = k := by omega
        subst this; exact h16
  ·
    have hkn : k = l.length := by have := of_decide_eq_false h9; omega
    refine cw_exit ?_
    refine then_exit (then_exit (in_exit (?_)))
    refine Ends.keep [] .nil ?_
    refine ends_then ?_
    refine cw_seq ?_
    -- region 7
    refine cw_region ?_
    refine lw_v rfl rfl (ok_assign rfl (.n rfl) rfl) ?_
    refine lw_nil ?_
    refine Ends.keep [(4, .eq _)] (.cons rfl .nil) ?_
    refine ends_then ?_
    refine cw_ret ?_
    exact end_ret (res1 Try.results95 rfl) ⟨_, rfl, hS.below, by rw [any_no (p := p) (by rw [← hkn]; exact hp)]; rfl⟩

set_option maxRecDepth 10000 in
/-- slices.ContainsFunc. -/
theorem f72 (l : List Int) (A : Option Addr) (c : Nat) (F : FuncId) (caps : List Value) (p : Int → Bool) (w : World) (hl : (sl (eInt .i64) 1 A l.length c l).p w) (hF : ∀ args w, (callFunc F args).run Try.prog w = .ok (.enter F args) w) (hdo : ∀ x ∈ l, Does Try.prog F caps w [.int .i64 x] (.bool (p x))) :
    Calls Try.prog 72 #[.slice A l.length c, .func (.func F) #[] caps.toArray] w fun e w' => e = .returned (.bool (l.any p)) ∧ Gr w w' := by
  refine calls_cw Try.func72 rfl Try.ntmps72 rfl ?_
  have hS := (St.start w).args (Nat.le_refl _) _ hl rfl
  have hll := hl.2.1
  refine cw_seq ?_
  -- region 0
  refine cw_region ?_
  refine lw_v rfl rfl (ok_assign rfl (.n rfl) rfl) ?_
  refine lw_nil ?_
  refine Ends.keep [(0, .eq _), (1, .eq _)] (.cons rfl (.cons rfl .nil)) ?_
  refine ends_then ?_
  refine cw_seq ?_
  -- region 1
  refine cw_region ?_
  refine lw_v rfl rfl (ok_move rfl (.n rfl) rfl) ?_
  refine lw_v rfl rfl (ok_move rfl (.n rfl) rfl) ?_
  refine lw_call (f := 95) (xs := [_, _]) rfl rfl rfl Try.call95 rfl (Calls.mono (f95 l A c F caps p _ (hS.rd A hll) hF (fun x hx => (hdo x hx).grow hS.below)) ?_)
  rintro e w' ⟨r, rfl, hg, hr⟩
  replace hS := hS.grow hg; clear hg
  refine ⟨_, rfl, ?_⟩
  refine lw_v rfl rfl (ok_geq rfl (.n rfl) rfl rfl) ?_
  refine lw_v rfl rfl (ok_assign rfl (.n rfl) rfl) ?_
  refine lw_nil ?_
  refine Ends.keep [(4, .eq _)] (.cons rfl .nil) ?_
  refine ends_then ?_
  refine cw_ret ?_
  exact end_ret (res1 Try.results72 rfl) ⟨by rw [← hr], hS.below⟩

set_option maxRecDepth 10000 in
/-- label.Right. -/
theorem f28 (c : Cs) (q : Q6) (l : List Int) (A : Option Addr) (cc : Nat) (w : World) (hwf : WF c) (hl : (sl (eInt .i64) 1 A l.length cc l).p w) :
    Calls Try.prog 28 #[csV c q, .slice A l.length cc] w fun e w' => e = .returned (.bool (rightB c l)) ∧ Gr w w' := by
  refine calls_cw Try.func28 rfl Try.ntmps28 rfl ?_
  have hS := (St.start w).args (Nat.le_refl _) _ hl rfl
  have hll := hl.2.1
  have hs := hwf.s
  have ht := hwf.t
  refine cw_seq ?_
  -- region 0
  refine cw_region ?_
  refine lw_box rfl rfl rfl rfl hS ?_
  clear hS; intro b2 w1 _ _ hS
  refine lw_v rfl rfl (ok_assign rfl (.n rfl) rfl) ?_
  refine lw_nil ?_
  refine Ends.keep [(1, .eq _), (2, .eq _)] (.cons rfl (.cons rfl .nil)) ?_
  refine ends_then ?_
  refine cw_seq ?_
  -- region 1
  refine cw_region ?_
  refine lw_v rfl rfl (ok_mkfn rfl (.n rfl) rfl) ?_
  refine lw_v rfl rfl (ok_assign rfl (.n rfl) rfl) ?_
  refine lw_nil ?_
  refine Ends.keep [(1, .eq _), (2, .eq _), (5, .eq _)] (.cons rfl (.cons rfl (.cons rfl .nil))) ?_
  refine ends_then ?_
  refine cw_seq ?_
  -- region 2
  refine cw_draw (by kernel_rfl) (List.take 32 _) (List.drop 32 _) (List.take_append_drop 32 _).symm (by kernel_rfl) ?_
  refine free_v (ok_move rfl (.n rfl) rfl) ?_
  refine free_v (ok_len rfl (.n rfl) Try.underlying26 rfl) ?_
  refine free_v (ok_fb rfl (.n rfl) Try.underlying29 rfl Try.sizeOf3 (by decide) rfl) ?_
  refine free_v (ok_ldb rfl (.n rfl) rfl Try.isAgg3 hS (by rfl)) ?_
  refine free_v (ok_eql rfl (.n rfl) rfl rfl) ?_
  refine free_v (ok_move rfl (.n rfl) rfl) ?_
  refine free_v (ok_fb rfl (.s rfl rfl) Try.underlying29 rfl Try.sizeOf3 (by decide) rfl) ?_
  refine free_v (ok_ldb rfl (.s rfl rfl) rfl Try.isAgg3 hS (by rfl)) ?_
  refine free_v (ok_gtr rfl (.s rfl rfl) rfl rfl) ?_
  refine free_v (ok_and rfl rfl rfl rfl) ?_
  refine free_v (ok_move rfl (.n rfl) rfl) ?_
  refine free_v (ok_move rfl (.s rfl rfl) rfl) ?_
  refine free_v (ok_move rfl (.s rfl rfl) rfl) ?_
  refine free_cons (ok_callg (.bool (l.any (wrongB c.N))) rfl (.s rfl rfl) Try.call72 rfl rfl (fun _ w' hg => f72 l A cc 71 [_] (wrongB c.N) w' ((hS.grow hg).rd A hll) Try.call71 (fun x _ w2 hg2 => f71 c q x _ w2 (((hS.grow hg).grow hg2).bx (b := b2))))) ?_
  refine free_v (ok_not rfl (.s rfl rfl) rfl) ?_
  refine free_v (ok_and rfl rfl rfl rfl) ?_
  refine free_v (ok_move rfl (.n rfl) rfl) ?_
  refine free_v (ok_move rfl (.s rfl rfl) rfl) ?_
  refine free_v (ok_fb rfl (.s rfl rfl) Try.underlying29 rfl Try.sizeOf3 (by decide) rfl) ?_
  refine free_v (ok_ldb rfl (.s rfl rfl) rfl Try.isAgg3 hS (by rfl)) ?_
  refine free_v (ok_ix rfl (.s rfl rfl) Try.underlying26 Try.sizeOf3 rfl rfl hS (fun hg => ⟨by omega, by have := and3 hg; omega⟩)) ?_
  refine free_v (ok_ldx rfl (.s rfl rfl) rfl Try.isAgg3 hS (fun hg => ⟨by omega, by have := and3 hg; omega⟩) (by rfl)) ?_
  refine free_v (ok_eql rfl (.s rfl rfl) rfl rfl) ?_
  refine free_v (ok_and rfl rfl rfl rfl) ?_
  refine free_v (ok_move rfl (.n rfl) rfl) ?_
  refine free_v (ok_move rfl (.s rfl rfl) rfl) ?_
  refine free_v (ok_fb rfl (.s rfl rfl) Try.underlying29 rfl Try.sizeOf3 (by decide) rfl) ?_
  refine free_v (ok_ldb rfl (.s rfl rfl) rfl Try.isAgg3 hS (by rfl)) ?_
  refine free_v (ok_ix rfl (.s rfl rfl) Try.underlying26 Try.sizeOf3 rfl rfl hS (fun hg => ⟨by omega, by have := and4 hg; omega⟩)) ?_
  refine free_v (ok_ldx rfl (.s rfl rfl) rfl Try.isAgg3 hS (fun hg => ⟨by omega, by have := and4 hg; omega⟩) (by rfl)) ?_
  refine free_v (ok_fb rfl (.s rfl rfl) Try.underlying29 rfl Try.sizeOf3 (by decide) rfl) ?_
  refine free_v (ok_ldb rfl (.s rfl rfl) rfl Try.isAgg3 hS (by rfl)) ?_
  refine free_nil ?_
  intro w2 hg_; replace hS := hS.grow hg_; clear hg_
  refine lw_v rfl rfl (ok_eql rfl (.s rfl rfl) rfl rfl) ?_
  refine lw_v rfl rfl (ok_and rfl rfl rfl rfl) ?_
  refine lw_v rfl rfl (ok_assign rfl (.n rfl) rfl) ?_
  refine lw_nil ?_
  refine Ends.keep [(4, .eq _)] (.cons rfl .nil) ?_
  refine ends_then ?_
  refine cw_ret ?_
  exact end_ret (res1 Try.results28 rfl) ⟨rfl, hS.below⟩

set_option maxRecDepth 10000 in
/-- label.may. -/
theorem f70 (c : Cs) (q : Q6) (res l : List Int) (A1 : Option Addr) (c1 : Nat) (A : Option Addr) (cc : Nat) (w : World) (hwf : WF c) (hl : (sl (eInt .i64) 1 A l.length cc l).p w) :
    Calls Try.prog 70 #[csV c q, .slice A1 res.length c1, .slice A l.length cc] w fun e w' => e = .returned (.bool (mayB c res l)) ∧ Gr w w' := by
  refine calls_cw Try.func70 rfl Try.ntmps70 rfl ?_
  have hS := (St.start w).args (Nat.le_refl _) _ hl rfl
  have hll := hl.2.1
  refine cw_seq ?_
  -- region 0
  refine cw_region ?_
  refine lw_box rfl rfl rfl rfl hS ?_
  clear hS; intro b3 w1 _ _ hS
  refine lw_v rfl rfl (ok_assign rfl (.n rfl) rfl) ?_
  refine lw_nil ?_
  refine Ends.keep [(1, .eq _), (2, .eq _), (3, .eq _)] (.cons rfl (.cons rfl (.cons rfl .nil))) ?_
  refine ends_then ?_
  refine cw_seq ?_
  -- region 1
  refine cw_region ?_
  refine lw_v rfl rfl (ok_move rfl (.n rfl) rfl) ?_
  refine lw_v rfl rfl (ok_len rfl (.n rfl) Try.underlying25 rfl) ?_
  refine lw_v rfl rfl (ok_ldS rfl (.n rfl) rfl Try.isAgg29 Try.sizeOf29 hS rfl) ?_
  refine lw_call (f := 77) (xs := [_]) rfl rfl rfl Try.call77 rfl (Calls.mono (f77 c q _) ?_)
  rintro e w' ⟨rfl, hg⟩
  replace hS := hS.grow hg; clear hg
  refine ⟨_, rfl, ?_⟩
  refine lw_v rfl rfl (ok_eql rfl (.n rfl) rfl rfl) ?_
  refine lw_v rfl rfl (ok_move rfl (.n rfl) rfl) ?_
  refine lw_v rfl rfl (ok_ldS rfl (.s rfl rfl) rfl Try.isAgg29 Try.sizeOf29 hS rfl) ?_
  refine lw_v rfl rfl (ok_move rfl (.s rfl rfl) rfl) ?_
  refine lw_o rfl rfl (ok_callg (.bool (rightB c l)) rfl (.s rfl rfl) Try.call28 rfl rfl (fun _ w' hg => f28 c q l A cc w' hwf ((hS.grow hg).rd A hll))) ?_
  intro w2 hg_; replace hS := hS.grow hg_; clear hg_
  refine lw_v rfl rfl (ok_and rfl rfl rfl rfl) ?_
  refine lw_v rfl rfl (ok_assign rfl (.n rfl) rfl) ?_
  refine lw_nil ?_
  refine Ends.keep [(6, .eq _)] (.cons rfl .nil) ?_
  refine ends_then ?_
  refine cw_ret ?_
  exact end_ret (res1 Try.results70 rfl) ⟨rfl, hS.below⟩

end Go.Proofs.Ytnpgeohkmdcbkaa.Aq
