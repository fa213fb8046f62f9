/- The walks of label.Right and label.may. The walks of label.Steep, Flat, Valid and Sum, and of what they call. The walks of label.Least, and of acequiaref06 but its Least. Plain mathematics of heights: what the outright laws of chapter 06 ask. Plain mathematics: a vertex raised (LabelRaise). What the laws' walks lean on: contracts that name their rows by letters alone. No condition but those that each lemma names. No condition but those that each lemma names. -/
import Derived.Test.YtnpgeohkmdcbkaaB3
import Derived.Test.YtnpgeohkmdcbkaaB0
import Derived.Test.YtnpgeohkmdcbkaaB2
namespace Go.Proofs.Ytnpgeohkmdcbkaa.Aq
open Go Go.RowKit

set_option maxRecDepth 10000 in
/-- label.Right's function. -/
theorem f71 (c : Cs) (q : Q6) (k : Int) (b1 : Nat) (w : World) (h1 : (rbx b1 (csV c q).cells.toList 29).p w) : Calls Try.prog 71 #[.int .i64 k, .pointer (some ⟨b1, 0, none⟩)] w fun e w' => e = .returned (.bool (wrongB c.N k)) ∧ Gr w w' := by
  refine calls_cw Try.func71 rfl Try.ntmps71 rfl ?_
  have hS := (St.start w).args (Nat.le_refl _) (rbx b1 (csV c q).cells.toList 29) h1 rfl
  refine cw_seq ?_
  -- region 0
  refine cw_region ?_
  refine lw_v rfl rfl (ok_assign rfl (.n rfl) rfl) ?_
  refine lw_nil ?_
  refine Ends.keep [(0, .eq _), (1, .eq _)] (.cons rfl (.cons rfl .nil)) ?_
  refine ends_then ?_
  refine cw_seq ?_
  -- region 1
  refine cw_region ?_
  refine lw_v rfl rfl (ok_move rfl (.n rfl) rfl) ?_
  refine lw_v rfl rfl (ok_lss rfl (.n rfl) rfl rfl) ?_
  refine lw_v rfl rfl (ok_move rfl (.n rfl) rfl) ?_
  refine lw_v rfl rfl (ok_move rfl (.s rfl rfl) rfl) ?_
  refine lw_v rfl rfl (ok_fb rfl (.s rfl rfl) Try.underlying29 rfl Try.sizeOf3 (by decide) rfl) ?_
  refine lw_v rfl rfl (ok_ldb rfl (.s rfl rfl) rfl Try.isAgg3 hS (by rfl)) ?_
  refine lw_v rfl rfl (ok_gtr rfl (.s rfl rfl) rfl rfl) ?_
  refine lw_v rfl rfl (ok_or rfl rfl rfl rfl) ?_
  refine lw_v rfl rfl (ok_assign rfl (.n rfl) rfl) ?_
  refine lw_nil ?_
  refine Ends.keep [(3, .eq _)] (.cons rfl .nil) ?_
  refine ends_then ?_
  refine cw_ret ?_
  exact end_ret (res1 Try.results71 rfl) ⟨rfl, hS.below⟩

theorem any_yes {l : List Int} {p : Int → Bool} {k : Nat} (h : k < l.length) (hp : p (l.getD k 0) = true) : l.any p = true :=
  List.any_eq_true.2 ⟨_, getD_memI h, hp⟩
theorem any_no {l : List Int} {p : Int → Bool} (h : ∀ i, i < l.length → p (l.getD i 0) = false) : l.any p = false := by
  rw [List.any_eq_false]
  intro x hx
  obtain ⟨i, hi, rfl⟩ := List.mem_iff_getElem.1 hx
  have := h i hi
  rw [List.getD_eq_getElem?_getD, List.getElem?_eq_getElem hi, Option.getD_some] at this
  rw [this]; decide
set_option maxRecDepth 10000 in
/-- slices.IndexFunc, with a function of which it is known what it says. -/
theorem f95 (l : List Int) (A : Option Addr) (c : Nat) (F : FuncId) (caps : List Value) (p : Int → Bool) (w : World) (hl : (sl (eInt .i64) 1 A l.length c l).p w) (hF : ∀ args w, (callFunc F args).run Try.prog w = .ok (.enter F args) w) (hdo : ∀ x ∈ l, Does Try.prog F caps w [.int .i64 x] (.bool (p x))) :
    Calls Try.prog 95 #[.slice A l.length c, .func (.func F) #[] caps.toArray] w fun e w' => ∃ r : Int, e = .returned (.int .i64 r) ∧ Gr w w' ∧ decide (0 ≤ r) = l.any p := by
  refine calls_cw Try.func95 rfl Try.ntmps95 rfl ?_
  have hS := (St.start w).args (Nat.le_refl _) _ hl rfl
  have hll := hl.2.1
  refine cw_seq ?_
  -- region 0
  refine cw_region ?_
  refine lw_v rfl rfl (ok_assign rfl (.n rfl) rfl) ?_
  refine lw_nil ?_
  refine Ends.keep [(0, .eq _), (1, .eq _)] (.cons rfl (.cons rfl .nil)) ?_
  refine ends_then ?_
  refine cw_seq ?_
  refine cw_seq ?_
  -- region 1
  refine cw_region ?_
  refine lw_v rfl rfl (ok_move rfl (.n rfl) rfl) ?_
  refine lw_v rfl rfl (ok_len rfl (.n rfl) Try.underlying26 rfl) ?_
  refine lw_v rfl rfl (ok_move rfl (.n rfl) rfl) ?_
  refine lw_nil ?_
  refine Ends.keep [(0, .eq _), (1, .eq _), (7, .eq _), (8, .eq _)] (.cons rfl (.cons rfl (.cons rfl (.cons rfl .nil)))) ?_
  refine ends_then ?_
  refine cw_block ?_
  -- LOOP at region 2: changed live slots [8], kept [0, 1, 7]
  refine cw_loop [(0, .eq _), (1, .eq _), (7, .eq _)] (fun k : Nat => [(8, .eq (.int .i64 k))]) (fun k w' => (k ≤ l.length ∧ ∀ i, i < k → p (l.getD i 0) = false) ∧ St w.heap.size w w' [sl (eInt .i64) 1 A l.length c l]) (fun k => l.length - k) 0 (.cons rfl (.cons rfl (.cons rfl .nil))) (.cons rfl (.cons rfl (.cons rfl (.cons rfl .nil)))) ⟨⟨Nat.zero_le _, fun i h => absurd h (Nat.not_lt_zero i)⟩, hS⟩ ?_
  clear hS
  rintro k wr ⟨⟨hk, hp⟩, hS⟩
  refine cw_seq ?_
  -- region 2
  refine cw_region ?_
  refine lw_v rfl rfl (ok_lss rfl (.n rfl) rfl rfl) ?_
  refine lw_nil ?_
  refine Ends.keep [(0, .eq _), (1, .eq _), (7, .eq _), (8, .eq _), (9, .eq _)] (.cons rfl (.cons rfl (.cons rfl (.cons rfl (.cons rfl .nil))))) ?_
  refine ends_then ?_
  refine cw_seq ?_
  refine cw_cond rfl (fun h9 => ?_) (fun h9 => ?_)
  ·
    have hlt := of_decide_eq_true h9
    refine cw_skip ?_
    refine ends_then ?_
    refine cw_seq ?_
    refine cw_block ?_
    refine cw_seq ?_
    -- region 3
    refine cw_region ?_
    refine lw_v rfl rfl (ok_move rfl (.n rfl) rfl) ?_
    refine lw_v rfl rfl (ok_assign rfl (.n rfl) rfl) ?_
    refine lw_nil ?_
    refine Ends.keep [(0, .eq _), (1, .eq _), (5, .eq _), (7, .eq _), (8, .eq _)] (.cons rfl (.cons rfl (.cons rfl (.cons rfl (.cons rfl .nil))))) ?_
    refine ends_then ?_
    refine cw_seq ?_
    -- region 4
    refine cw_region ?_
    refine lw_v rfl rfl (ok_move rfl (.n rfl) rfl) ?_
    refine lw_v rfl rfl (ok_move rfl (.n rfl) rfl) ?_
    refine lw_v rfl rfl (ok_move rfl (.n rfl) rfl) ?_
    refine lw_v rfl rfl (ok_ix rfl (.n rfl) Try.underlying26 Try.sizeOf3 rfl rfl hS (fun _ => ⟨by omega, by omega⟩)) ?_
    refine lw_v rfl rfl (ok_ldx rfl (.n rfl) rfl Try.isAgg3 hS (fun _ => ⟨by omega, by omega⟩) (by rfl)) ?_
    refine lw_callf (f := F) (xs := [_]) rfl rfl rfl hF rfl rfl (Calls.mono (hdo (l.getD (k : Int).toNat 0) (getD_memI (by omega)) _ hS.below) ?_)
    rintro e w' ⟨rfl, hg⟩
    replace hS := hS.grow hg; clear hg
    refine ⟨_, rfl, ?_⟩
    refine lw_nil ?_
    refine Ends.keep [(0, .eq _), (1, .eq _), (5, .eq _), (7, .eq _), (8, .eq _), (16, .eq _)] (.cons rfl (.cons rfl (.cons rfl (.cons rfl (.cons rfl (.cons rfl .nil)))))) ?_
    refine ends_then ?_
    refine cw_cond rfl (fun h16 => ?_) (fun h16 => ?_)
    ·
      refine cw_seq ?_
      -- region 5
      refine cw_region ?_
      refine lw_v rfl rfl (ok_move rfl (.n rfl) rfl) ?_
      refine lw_v rfl rfl (ok_assign rfl (.n rfl) rfl) ?_
      refine lw_nil ?_
      refine Ends.keep [(4, .eq _)] (.cons rfl .nil) ?_
      refine ends_then ?_
      refine cw_ret ?_
      refine in_ret (then_ret (then_ret (in_ret (then_ret (?_)))))
      exact end_ret (res1 Try.results95 rfl) ⟨_, rfl, hS.below, by rw [any_yes (k := k) (by omega) h16]; exact decide_eq_true (by omega)⟩
    ·
      refine cw_skip ?_
      refine in_normal (?_)
      refine ends_then ?_
      -- region 6
      refine cw_region ?_
      refine lw_v rfl rfl (ok_addi rfl (.n rfl) rfl rfl (fun _ => ⟨by omega, by omega⟩)) ?_
      refine lw_v rfl rfl (ok_move rfl (.n rfl) rfl) ?_
      refine lw_nil ?_
      -- BACK
      refine ends_back (k + 1) (.cons rfl (.cons rfl (.cons rfl (.cons rfl .nil)))) ⟨⟨by omega, fun i hi => ?_⟩, hS⟩ (by omega)
      rcases Nat.lt_or_ge i k with h | h
      · exact hp i h
      · have : i = k := by omega
        subst this; exact h16
  ·
    have hkn : k = l.length := by have := of_decide_eq_false h9; omega
    refine cw_exit ?_
    refine then_exit (then_exit (in_exit (?_)))
    refine Ends.keep [] .nil ?_
    refine ends_then ?_
    refine cw_seq ?_
    -- region 7
    refine cw_region ?_
    refine lw_v rfl rfl (ok_assign rfl (.n rfl) rfl) ?_
    refine lw_nil ?_
    refine Ends.keep [(4, .eq _)] (.cons rfl .nil) ?_
    refine ends_then ?_
    refine cw_ret ?_
    exact end_ret (res1 Try.results95 rfl) ⟨_, rfl, hS.below, by rw [any_no (p := p) (by rw [← hkn]; exact hp)]; rfl⟩

set_option maxRecDepth 10000 in
/-- slices.ContainsFunc. -/
theorem f72 (l : List Int) (A : Option Addr) (c : Nat) (F : FuncId) (caps : List Value) (p : Int → Bool) (w : World) (hl : (sl (eInt .i64) 1 A l.length c l).p w) (hF : ∀ args w, (callFunc F args).run Try.prog w = .ok (.enter F args) w) (hdo : ∀ x ∈ l, Does Try.prog F caps w [.int .i64 x] (.bool (p x))) :
    Calls Try.prog 72 #[.slice A l.length c, .func (.func F) #[] caps.toArray] w fun e w' => e = .returned (.bool (l.any p)) ∧ Gr w w' := by
  refine calls_cw Try.func72 rfl Try.ntmps72 rfl ?_
  have hS := (St.start w).args (Nat.le_refl _) _ hl rfl
  have hll := hl.2.1
  refine cw_seq ?_
  -- region 0
  refine cw_region ?_
  refine lw_v rfl rfl (ok_assign rfl (.n rfl) rfl) ?_
  refine lw_nil ?_
  refine Ends.keep [(0, .eq _), (1, .eq _)] (.cons rfl (.cons rfl .nil)) ?_
  refine ends_then ?_
  refine cw_seq ?_
  -- region 1
  refine cw_region ?_
  refine lw_v rfl rfl (ok_move rfl (.n rfl) rfl) ?_
  refine lw_v rfl rfl (ok_move rfl (.n rfl) rfl) ?_
  refine lw_call (f := 95) (xs := [_, _]) rfl rfl rfl Try.call95 rfl (Calls.mono (f95 l A c F caps p _ (hS.rd A hll) hF (fun x hx => (hdo x hx).grow hS.below)) ?_)
  rintro e w' ⟨r, rfl, hg, hr⟩
  replace hS := hS.grow hg; clear hg
  refine ⟨_, rfl, ?_⟩
  refine lw_v rfl rfl (ok_geq rfl (.n rfl) rfl rfl) ?_
  refine lw_v rfl rfl (ok_assign rfl (.n rfl) rfl) ?_
  refine lw_nil ?_
  refine Ends.keep [(4, .eq _)] (.cons rfl .nil) ?_
  refine ends_then ?_
  refine cw_ret ?_
  exact end_ret (res1 Try.results72 rfl) ⟨by rw [← hr], hS.below⟩

set_option maxRecDepth 10000 in
/-- label.Right. -/
theorem f28 (c : Cs) (q : Q6) (l : List Int) (A : Option Addr) (cc : Nat) (w : World) (hwf : WF c) (hl : (sl (eInt .i64) 1 A l.length cc l).p w) :
    Calls Try.prog 28 #[csV c q, .slice A l.length cc] w fun e w' => e = .returned (.bool (rightB c l)) ∧ Gr w w' := by
  refine calls_cw Try.func28 rfl Try.ntmps28 rfl ?_
  have hS := (St.start w).args (Nat.le_refl _) _ hl rfl
  have hll := hl.2.1
  have hs := hwf.s
  have ht := hwf.t
  refine cw_seq ?_
  -- region 0
  refine cw_region ?_
  refine lw_box rfl rfl rfl rfl hS ?_
  clear hS; intro b2 w1 _ _ hS
  refine lw_v rfl rfl (ok_assign rfl (.n rfl) rfl) ?_
  refine lw_nil ?_
  refine Ends.keep [(1, .eq _), (2, .eq _)] (.cons rfl (.cons rfl .nil)) ?_
  refine ends_then ?_
  refine cw_seq ?_
  -- region 1
  refine cw_region ?_
  refine lw_v rfl rfl (ok_mkfn rfl (.n rfl) rfl) ?_
  refine lw_v rfl rfl (ok_assign rfl (.n rfl) rfl) ?_
  refine lw_nil ?_
  refine Ends.keep [(1, .eq _), (2, .eq _), (5, .eq _)] (.cons rfl (.cons rfl (.cons rfl .nil))) ?_
  refine ends_then ?_
  refine cw_seq ?_
  -- region 2
  refine cw_draw (by kernel_rfl) (List.take 32 _) (List.drop 32 _) (List.take_append_drop 32 _).symm (by kernel_rfl) ?_
  refine free_v (ok_move rfl (.n rfl) rfl) ?_
  refine free_v (ok_len rfl (.n rfl) Try.underlying26 rfl) ?_
  refine free_v (ok_fb rfl (.n rfl) Try.underlying29 rfl Try.sizeOf3 (by decide) rfl) ?_
  refine free_v (ok_ldb rfl (.n rfl) rfl Try.isAgg3 hS (by rfl)) ?_
  refine free_v (ok_eql rfl (.n rfl) rfl rfl) ?_
  refine free_v (ok_move rfl (.n rfl) rfl) ?_
  refine free_v (ok_fb rfl (.s rfl rfl) Try.underlying29 rfl Try.sizeOf3 (by decide) rfl) ?_
  refine free_v (ok_ldb rfl (.s rfl rfl) rfl Try.isAgg3 hS (by rfl)) ?_
  refine free_v (ok_gtr rfl (.s rfl rfl) rfl rfl) ?_
  refine free_v (ok_and rfl rfl rfl rfl) ?_
  refine free_v (ok_move rfl (.n rfl) rfl) ?_
  refine free_v (ok_move rfl (.s rfl rfl) rfl) ?_
  refine free_v (ok_move rfl (.s rfl rfl) rfl) ?_
  refine free_cons (ok_callg (.bool (l.any (wrongB c.N))) rfl (.s rfl rfl) Try.call72 rfl rfl (fun _ w' hg => f72 l A cc 71 [_] (wrongB c.N) w' ((hS.grow hg).rd A hll) Try.call71 (fun x _ w2 hg2 => f71 c q x _ w2 (((hS.grow hg).grow hg2).bx (b := b2))))) ?_
  refine free_v (ok_not rfl (.s rfl rfl) rfl) ?_
  refine free_v (ok_and rfl rfl rfl rfl) ?_
  refine free_v (ok_move rfl (.n rfl) rfl) ?_
  refine free_v (ok_move rfl (.s rfl rfl) rfl) ?_
  refine free_v (ok_fb rfl (.s rfl rfl) Try.underlying29 rfl Try.sizeOf3 (by decide) rfl) ?_
  refine free_v (ok_ldb rfl (.s rfl rfl) rfl Try.isAgg3 hS (by rfl)) ?_
  refine free_v (ok_ix rfl (.s rfl rfl) Try.underlying26 Try.sizeOf3 rfl rfl hS (fun hg => ⟨by omega, by have := and3 hg; omega⟩)) ?_
  refine free_v (ok_ldx rfl (.s rfl rfl) rfl Try.isAgg3 hS (fun hg => ⟨by omega, by have := and3 hg; omega⟩) (by rfl)) ?_
  refine free_v (ok_eql rfl (.s rfl rfl) rfl rfl) ?_
  refine free_v (ok_and rfl rfl rfl rfl) ?_
  refine free_v (ok_move rfl (.n rfl) rfl) ?_
  refine free_v (ok_move rfl (.s rfl rfl) rfl) ?_
  refine free_v (ok_fb rfl (.s rfl rfl) Try.underlying29 rfl Try.sizeOf3 (by decide) rfl) ?_
  refine free_v (ok_ldb rfl (.s rfl rfl) rfl Try.isAgg3 hS (by rfl)) ?_
  refine free_v (ok_ix rfl (.s rfl rfl) Try.underlying26 Try.sizeOf3 rfl rfl hS (fun hg => ⟨by omega, by have := and4 hg; omega⟩)) ?_
  refine free_v (ok_ldx rfl (.s rfl rfl) rfl Try.isAgg3 hS (fun hg => ⟨by omega, by have := and4 hg; omega⟩) (by rfl)) ?_
  refine free_v (ok_fb rfl (.s rfl rfl) Try.underlying29 rfl Try.sizeOf3 (by decide) rfl) ?_
  refine free_v (ok_ldb rfl (.s rfl rfl) rfl Try.isAgg3 hS (by rfl)) ?_
  refine free_nil ?_
  intro w2 hg_; replace hS := hS.grow hg_; clear hg_
  refine lw_v rfl rfl (ok_eql rfl (.s rfl rfl) rfl rfl) ?_
  refine lw_v rfl rfl (ok_and rfl rfl rfl rfl) ?_
  refine lw_v rfl rfl (ok_assign rfl (.n rfl) rfl) ?_
  refine lw_nil ?_
  refine Ends.keep [(4, .eq _)] (.cons rfl .nil) ?_
  refine ends_then ?_
  refine cw_ret ?_
  exact end_ret (res1 Try.results28 rfl) ⟨rfl, hS.below⟩

set_option maxRecDepth 10000 in
/-- label.may. -/
theorem f70 (c : Cs) (q : Q6) (res l : List Int) (A1 : Option Addr) (c1 : Nat) (A : Option Addr) (cc : Nat) (w : World) (hwf : WF c) (hl : (sl (eInt .i64) 1 A l.length cc l).p w) :
    Calls Try.prog 70 #[csV c q, .slice A1 res.length c1, .slice A l.length cc] w fun e w' => e = .returned (.bool (mayB c res l)) ∧ Gr w w' := by
  refine calls_cw Try.func70 rfl Try.ntmps70 rfl ?_
  have hS := (St.start w).args (Nat.le_refl _) _ hl rfl
  have hll := hl.2.1
  refine cw_seq ?_
  -- region 0
  refine cw_region ?_
  refine lw_box rfl rfl rfl rfl hS ?_
  clear hS; intro b3 w1 _ _ hS
  refine lw_v rfl rfl (ok_assign rfl (.n rfl) rfl) ?_
  refine lw_nil ?_
  refine Ends.keep [(1, .eq _), (2, .eq _), (3, .eq _)] (.cons rfl (.cons rfl (.cons rfl .nil))) ?_
  refine ends_then ?_
  refine cw_seq ?_
  -- region 1
  refine cw_region ?_
  refine lw_v rfl rfl (ok_move rfl (.n rfl) rfl) ?_
  refine lw_v rfl rfl (ok_len rfl (.n rfl) Try.underlying25 rfl) ?_
  refine lw_v rfl rfl (ok_ldS rfl (.n rfl) rfl Try.isAgg29 Try.sizeOf29 hS rfl) ?_
  refine lw_call (f := 77) (xs := [_]) rfl rfl rfl Try.call77 rfl (Calls.mono (f77 c q _) ?_)
  rintro e w' ⟨rfl, hg⟩
  replace hS := hS.grow hg; clear hg
  refine ⟨_, rfl, ?_⟩
  refine lw_v rfl rfl (ok_eql rfl (.n rfl) rfl rfl) ?_
  refine lw_v rfl rfl (ok_move rfl (.n rfl) rfl) ?_
  refine lw_v rfl rfl (ok_ldS rfl (.s rfl rfl) rfl Try.isAgg29 Try.sizeOf29 hS rfl) ?_
  refine lw_v rfl rfl (ok_move rfl (.s rfl rfl) rfl) ?_
  refine lw_o rfl rfl (ok_callg (.bool (rightB c l)) rfl (.s rfl rfl) Try.call28 rfl rfl (fun _ w' hg => f28 c q l A cc w' hwf ((hS.grow hg).rd A hll))) ?_
  intro w2 hg_; replace hS := hS.grow hg_; clear hg_
  refine lw_v rfl rfl (ok_and rfl rfl rfl rfl) ?_
  refine lw_v rfl rfl (ok_assign rfl (.n rfl) rfl) ?_
  refine lw_nil ?_
  refine Ends.keep [(6, .eq _)] (.cons rfl .nil) ?_
  refine ends_then ?_
  refine cw_ret ?_
  exact end_ret (res1 Try.results70 rfl) ⟨rfl, hS.below⟩

end Go.Proofs.Ytnpgeohkmdcbkaa.Aq

namespace Go.Proofs.Ytnpgeohkmdcbkaa.Aq
open Go Go.RowKit

set_option maxRecDepth 10000 in
/-- label.picked, with a function of which it is known what it says. -/
theorem f96 (n : Nat) (F : FuncId) (caps : List Value) (p : Nat → Bool) (w : World) (hn : n ≤ 1280) (hF : ∀ args w, (callFunc F args).run Try.prog w = .ok (.enter F args) w) (hdo : ∀ i : Nat, i < n → Does Try.prog F caps w [.int .i64 i] (.tuple #[.int .i64 i, .bool (p i)])) :
    Calls Try.prog 96 #[.int .i64 n, .func (.func F) #[] caps.toArray] w fun e w' => ∃ A cc, e = .returned (.slice A (((List.range n).filter p).map Int.ofNat).length cc) ∧ Gr w w' ∧ (∀ b, (own (eInt .i64) 1 3 A (((List.range n).filter p).map Int.ofNat).length cc (((List.range n).filter p).map Int.ofNat)).fp b → w.heap.size ≤ b) ∧ (own (eInt .i64) 1 3 A (((List.range n).filter p).map Int.ofNat).length cc (((List.range n).filter p).map Int.ofNat)).p w' := by
  refine calls_cw Try.func96 rfl Try.ntmps96 rfl ?_
  have hS := St.start w
  refine cw_seq ?_
  -- region 0
  refine cw_region ?_
  refine lw_v rfl rfl (ok_assign rfl (.n rfl) rfl) ?_
  refine lw_nil ?_
  refine Ends.keep [(0, .eq _), (1, .eq _)] (.cons rfl (.cons rfl .nil)) ?_
  refine ends_then ?_
  refine cw_seq ?_
  -- region 1
  refine cw_region ?_
  refine lw_v rfl rfl (ok_assign rfl (.n rfl) rfl) ?_
  refine lw_nil ?_
  refine Ends.keep [(0, .eq _), (1, .eq _), (5, .eq _)] (.cons rfl (.cons rfl (.cons rfl .nil))) ?_
  refine ends_then ?_
  refine cw_seq ?_
  refine cw_seq ?_
  -- region 2
  refine cw_region ?_
  refine lw_v rfl rfl (ok_move rfl (.n rfl) rfl) ?_
  refine lw_v rfl rfl (ok_move rfl (.n rfl) rfl) ?_
  refine lw_nil ?_
  refine Ends.keep [(1, .eq _), (5, .eq _), (9, .eq _), (10, .eq _)] (.cons rfl (.cons rfl (.cons rfl (.cons rfl .nil)))) ?_
  refine ends_then ?_
  refine cw_block ?_
  -- LOOP at region 3: changed live slots [5, 10], kept [1, 9]
  refine cw_loop3 [(1, .eq _), (9, .eq _)] (fun (k : Nat) (A : Option Addr) (cc : Nat) => [(5, .eq (.slice A (((List.range k).filter p).map Int.ofNat).length cc)), (10, .eq (.int .i64 k))]) (fun k A cc w' => k ≤ n ∧ St w.heap.size w w' [own (eInt .i64) 1 3 A (((List.range k).filter p).map Int.ofNat).length cc (((List.range k).filter p).map Int.ofNat)]) (fun k _ _ => n - k) 0 none 0 (.cons rfl (.cons rfl .nil)) (.cons rfl (.cons rfl (.cons rfl (.cons rfl .nil)))) ⟨Nat.zero_le _, hS.nil (eInt .i64) 1 3⟩ ?_
  clear hS
  rintro k A cc wr ⟨hk, hS⟩
  have hfl := filt_len p k
  refine cw_seq ?_
  -- region 3
  refine cw_region ?_
  refine lw_v rfl rfl (ok_lss rfl (.n rfl) rfl rfl) ?_
  refine lw_nil ?_
  refine Ends.keep [(1, .eq _), (5, .eq _), (9, .eq _), (10, .eq _), (11, .eq _)] (.cons rfl (.cons rfl (.cons rfl (.cons rfl (.cons rfl .nil))))) ?_
  refine ends_then ?_
  refine cw_seq ?_
  refine cw_cond rfl (fun h11 => ?_) (fun h11 => ?_)
  ·
    have hlt := of_decide_eq_true h11
    refine cw_skip ?_
    refine ends_then ?_
    refine cw_seq ?_
    refine cw_block ?_
    refine cw_seq ?_
    -- region 4
    refine cw_region ?_
    refine lw_v rfl rfl (ok_move rfl (.n rfl) rfl) ?_
    refine lw_v rfl rfl (ok_assign rfl (.n rfl) rfl) ?_
    refine lw_nil ?_
    refine Ends.keep [(1, .eq _), (5, .eq _), (6, .eq _), (9, .eq _), (10, .eq _)] (.cons rfl (.cons rfl (.cons rfl (.cons rfl (.cons rfl .nil))))) ?_
    refine ends_then ?_
    refine cw_seq ?_
    -- region 5
    refine cw_region ?_
    refine lw_v rfl rfl (ok_move rfl (.n rfl) rfl) ?_
    refine lw_v rfl rfl (ok_move rfl (.n rfl) rfl) ?_
    refine lw_callf (f := F) (xs := [_]) rfl rfl rfl hF rfl rfl (Calls.mono (hdo k (by omega) _ hS.below) ?_)
    rintro e w' ⟨rfl, hg⟩
    replace hS := hS.grow hg; clear hg
    refine ⟨_, rfl, ?_⟩
    refine lw_v rfl rfl (ok_move rfl (.n rfl) rfl) ?_
    refine lw_v rfl rfl (ok_extract rfl (.n rfl) rfl rfl) ?_
    refine lw_v rfl rfl (ok_extract rfl (.n rfl) rfl rfl) ?_
    refine lw_v rfl rfl (ok_assign rfl (.n rfl) rfl) ?_
    refine lw_v rfl rfl (ok_assign rfl (.n rfl) rfl) ?_
    refine lw_nil ?_
    refine Ends.keep [(1, .eq _), (5, .eq _), (7, .eq _), (8, .eq _), (9, .eq _), (10, .eq _)] (.cons rfl (.cons rfl (.cons rfl (.cons rfl (.cons rfl (.cons rfl .nil)))))) ?_
    refine ends_then ?_
    refine cw_seq ?_
    -- region 6
    refine cw_region ?_
    refine lw_v rfl rfl (ok_move rfl (.n rfl) rfl) ?_
    refine lw_nil ?_
    refine Ends.keep [(1, .eq _), (5, .eq _), (7, .eq _), (9, .eq _), (10, .eq _), (19, .eq _)] (.cons rfl (.cons rfl (.cons rfl (.cons rfl (.cons rfl (.cons rfl .nil)))))) ?_
    refine ends_then ?_
    refine cw_cond rfl (fun h19 => ?_) (fun h19 => ?_)
    ·
      -- region 7
      refine cw_region ?_
      refine lw_v rfl rfl (ok_move rfl (.n rfl) rfl) ?_
      refine lw_v rfl rfl (ok_move rfl (.n rfl) rfl) ?_
      refine lw_ls (enc := (eInt .i64)) [(k : Int)] rfl rfl rfl Try.underlying26 Try.sizeOf3 Try.zeroValue3 rfl (by kernel_rfl) rfl (by decide) (by decide) hS ?_
      clear hS; intro A22 c22 w1 _ hS
      refine lw_append (enc := (eInt .i64)) rfl rfl rfl Try.underlying26 info3 rfl rfl rfl hS (by decide) (by omega) (by omega) ?_
      intro A23 c23 w2 hS1; replace hS := hS1 _ (Rep.r); clear hS1
      refine lw_v rfl rfl (ok_assign rfl (.n rfl) rfl) ?_
      refine lw_nil ?_
      refine in_normal (?_)
      refine Ends.keep [(1, .eq _), (5, .eq _), (9, .eq _), (10, .eq _)] (.cons rfl (.cons rfl (.cons rfl (.cons rfl .nil)))) ?_
      refine ends_then ?_
      -- region 8
      refine cw_region ?_
      refine lw_v rfl rfl (ok_addi rfl (.n rfl) rfl rfl (fun _ => ⟨by omega, by omega⟩)) ?_
      refine lw_v rfl rfl (ok_move rfl (.n rfl) rfl) ?_
      refine lw_nil ?_
      -- BACK
      have e := filt_succ p k
      rw [if_pos h19] at e
      rw [← e] at hS ⊢
      exact ends_back3 (k + 1) A23 c23 (.cons rfl (.cons rfl (.cons rfl (.cons rfl .nil)))) ⟨by omega, hS.tail⟩ (by omega)
    ·
      refine cw_skip ?_
      refine in_normal (?_)
      refine ends_then ?_
      -- region 8
      refine cw_region ?_
      refine lw_v rfl rfl (ok_addi rfl (.n rfl) rfl rfl (fun _ => ⟨by omega, by omega⟩)) ?_
      refine lw_v rfl rfl (ok_move rfl (.n rfl) rfl) ?_
      refine lw_nil ?_
      -- BACK
      have e := filt_succ p k
      rw [if_neg (by rw [h19]; decide), List.append_nil] at e
      rw [← e] at hS ⊢
      exact ends_back3 (k + 1) A cc (.cons rfl (.cons rfl (.cons rfl (.cons rfl .nil)))) ⟨by omega, hS⟩ (by omega)
  ·
    have hkn : k = n := by have := of_decide_eq_false h11; omega
    subst hkn
    refine cw_exit ?_
    refine then_exit (then_exit (in_exit (?_)))
    refine Ends.keep [(5, .eq _)] (.cons rfl .nil) ?_
    refine ends_then ?_
    refine cw_seq ?_
    -- region 9
    refine cw_region ?_
    refine lw_v rfl rfl (ok_move rfl (.n rfl) rfl) ?_
    refine lw_v rfl rfl (ok_assign rfl (.n rfl) rfl) ?_
    refine lw_nil ?_
    refine Ends.keep [(4, .eq _)] (.cons rfl .nil) ?_
    refine ends_then ?_
    refine cw_ret ?_
    exact end_ret (res1 Try.results96 rfl) ⟨A, cc, rfl, hS.below, fun b hb => hS.ge _ (.head _) rfl b hb, hS.ok _ (.head _)⟩

set_option maxRecDepth 10000 in
/-- label.down's function. -/
theorem f97 (c : Cs) (q : Q6) (res l : List Int) (A1 : Option Addr) (c1 : Nat) (A : Option Addr) (cc : Nat) (F : FuncId) (p : Int → Bool) (a b4 b5 b6 b7 : Nat) (w : World) (hwf : WF c) (hc : CsAt c q w) (hr : (sl (eInt .i64) 1 A1 res.length c1 res).p w) (hl : (sl (eInt .i64) 1 A l.length cc l).p w) (hrl : res.length = c.Head.length) (hrh : RightH c l)
    (hF : ∀ args w, (callFunc F args).run Try.prog w = .ok (.enter F args) w) (hdo : ∀ x : Int, Does Try.prog F [] w [.int .i64 x] (.bool (p x))) (ha : a < c.Head.length)
    (h4 : (rbx b4 (csV c q).cells.toList 29).p w) (h5 : (rbx b5 [.slice A1 res.length c1] 25).p w) (h6 : (rbx b6 [.slice A l.length cc] 26).p w) (h7 : (rbx b7 [.func (.func F) #[] #[]] 83).p w) :
    Calls Try.prog 97 #[.int .i64 a, .pointer (some ⟨b4, 0, none⟩), .pointer (some ⟨b5, 0, none⟩), .pointer (some ⟨b7, 0, none⟩), .pointer (some ⟨b6, 0, none⟩)] w fun e w' => e = .returned (.tuple #[.int .i64 a, .bool (downP c res l p a)]) ∧ Gr w w' := by
  refine calls_cw Try.func97 rfl Try.ntmps97 rfl ?_
  have hS := ((((((St.ofc hc).args (Nat.le_refl _) _ hl rfl).args (Nat.le_refl _) _ hr rfl).args (Nat.le_refl _) (rbx b6 [.slice A l.length cc] 26) h6 rfl).args (Nat.le_refl _) (rbx b7 [.func (.func F) #[] #[]] 83) h7 rfl).args (Nat.le_refl _) (rbx b5 [.slice A1 res.length c1] 25) h5 rfl).args (Nat.le_refl _) (rbx b4 (csV c q).cells.toList 29) h4 rfl
  obtain ⟨ht1, ht2, ht3⟩ := tail_at hwf ha
  obtain ⟨hd1, hd2⟩ := hwf.hd a ha
  have hx := hrh.rng (tailOf c a) ht1
  have hy := hrh.rng (c.Head.getD a 0).toNat (by omega)
  have hlen := hrh.len
  have hN := hwf.hi
  have eH : c.Head.getD (a : Int).toNat 0 = c.Head.getD a 0 := rfl
  rw [← eH] at hd1 hd2 hy
  have eT : l.getD (tailOf c a : Int).toNat 0 = l.getD (tailOf c a) 0 := rfl
  rw [← eT] at hx
  refine cw_seq ?_
  -- region 0
  refine cw_region ?_
  refine lw_v rfl rfl (ok_assign rfl (.n rfl) rfl) ?_
  refine lw_v rfl rfl (ok_assign rfl (.n rfl) rfl) ?_
  refine lw_nil ?_
  refine Ends.keep [(0, .eq _), (1, .eq _), (2, .eq _), (3, .eq _), (4, .eq _)] (.cons rfl (.cons rfl (.cons rfl (.cons rfl (.cons rfl .nil))))) ?_
  refine ends_then ?_
  refine cw_seq ?_
  -- region 1
  refine cw_region ?_
  refine lw_v rfl rfl (ok_ldS rfl (.n rfl) rfl Try.isAgg29 Try.sizeOf29 hS rfl) ?_
  refine lw_v rfl rfl (ok_move rfl (.n rfl) rfl) ?_
  refine lw_call (f := 40) (xs := [_, _]) rfl rfl rfl Try.call40 rfl (Calls.mono (f40 c q a _ hwf (hS.cs q) ha) ?_)
  rintro e w' ⟨rfl, hg⟩
  replace hS := hS.grow hg; clear hg
  refine ⟨_, rfl, ?_⟩
  refine lw_v rfl rfl (ok_move rfl (.n rfl) rfl) ?_
  refine lw_v rfl rfl (ok_extract rfl (.n rfl) rfl rfl) ?_
  refine lw_v rfl rfl (ok_extract rfl (.n rfl) rfl rfl) ?_
  refine lw_v rfl rfl (ok_assign rfl (.n rfl) rfl) ?_
  refine lw_v rfl rfl (ok_assign rfl (.n rfl) rfl) ?_
  refine lw_nil ?_
  refine Ends.keep [(0, .eq _), (1, .eq _), (2, .eq _), (3, .eq _), (4, .eq _), (8, .eq _)] (.cons rfl (.cons rfl (.cons rfl (.cons rfl (.cons rfl (.cons rfl .nil)))))) ?_
  refine ends_then ?_
  refine cw_seq ?_
  -- region 2
  refine cw_draw (by kernel_rfl) (List.take 30 _) (List.drop 30 _) (List.take_append_drop 30 _).symm (by kernel_rfl) ?_
  refine free_v (ok_move rfl (.n rfl) rfl) ?_
  refine free_v (ok_move rfl (.n rfl) rfl) ?_
  refine free_v (ok_fb rfl (.n rfl) Try.underlying29 rfl Try.sizeOf3 (by decide) rfl) ?_
  refine free_v (ok_ldb rfl (.n rfl) rfl Try.isAgg3 hS (by rfl)) ?_
  refine free_v (ok_neq rfl (.n rfl) rfl rfl) ?_
  refine free_v (ok_move rfl (.n rfl) rfl) ?_
  refine free_v (ok_ldb rfl (.s rfl rfl) rfl Try.isAgg25 hS (by rfl)) ?_
  refine free_v (ok_move rfl (.s rfl rfl) rfl) ?_
  refine free_v (ok_ix rfl (.s rfl rfl) Try.underlying25 Try.sizeOf2 rfl rfl hS (fun _ => ⟨by omega, by omega⟩)) ?_
  refine free_v (ok_ldx rfl (.s rfl rfl) rfl Try.isAgg2 hS (fun _ => ⟨by omega, by omega⟩) (by rfl)) ?_
  refine free_v (ok_gtr rfl (.s rfl rfl) rfl rfl) ?_
  refine free_v (ok_and rfl rfl rfl rfl) ?_
  refine free_v (ok_move rfl (.n rfl) rfl) ?_
  refine free_v (ok_ldb rfl (.s rfl rfl) rfl Try.isAgg83 hS (by rfl)) ?_
  refine free_v (ok_ldb rfl (.s rfl rfl) rfl Try.isAgg26 hS (by rfl)) ?_
  refine free_v (ok_move rfl (.s rfl rfl) rfl) ?_
  refine free_v (ok_ix rfl (.s rfl rfl) Try.underlying26 Try.sizeOf3 rfl rfl hS (fun _ => ⟨by omega, by omega⟩)) ?_
  refine free_v (ok_ldx rfl (.s rfl rfl) rfl Try.isAgg3 hS (fun _ => ⟨by omega, by omega⟩) (by rfl)) ?_
  refine free_v (ok_ldb rfl (.s rfl rfl) rfl Try.isAgg26 hS (by rfl)) ?_
  refine free_v (ok_fb rfl (.s rfl rfl) Try.underlying29 rfl Try.sizeOf26 (by decide) rfl) ?_
  refine free_v (ok_ldb rfl (.s rfl rfl) rfl Try.isAgg26 hS (by rfl)) ?_
  refine free_v (ok_move rfl (.s rfl rfl) rfl) ?_
  refine free_v (ok_ix rfl (.s rfl rfl) Try.underlying26 Try.sizeOf3 rfl rfl hS (fun _ => ⟨by omega, by omega⟩)) ?_
  refine free_v (ok_ldx rfl (.s rfl rfl) rfl Try.isAgg3 hS (fun _ => ⟨by omega, by omega⟩) (by rfl)) ?_
  refine free_v (ok_ix rfl (.s rfl rfl) Try.underlying26 Try.sizeOf3 rfl rfl hS (fun _ => ⟨by omega, by omega⟩)) ?_
  refine free_v (ok_ldx rfl (.s rfl rfl) rfl Try.isAgg3 hS (fun _ => ⟨by omega, by omega⟩) (by rfl)) ?_
  refine free_v (ok_subi rfl (.s rfl rfl) rfl rfl (fun _ => ⟨by omega, by omega⟩)) ?_
  refine free_cons (ok_callg (.bool (p _)) rfl (.s rfl rfl) hF rfl rfl (fun _ w' hg => hdo _ w' (Gr.trans hS.below hg))) ?_
  refine free_v (ok_and rfl rfl rfl rfl) ?_
  refine free_v (ok_assign rfl (.n rfl) rfl) ?_
  refine free_nil ?_
  intro w1 hg_; replace hS := hS.grow hg_; clear hg_
  refine lw_v rfl rfl (ok_assign rfl (.n rfl) rfl) ?_
  refine lw_nil ?_
  refine Ends.keep [(6, .eq _), (7, .eq _)] (.cons rfl (.cons rfl .nil)) ?_
  refine ends_then ?_
  refine cw_ret ?_
  exact end_ret (res2 Try.results97 rfl rfl) ⟨rfl, hS.below⟩

set_option maxRecDepth 10000 in
/-- label.down. -/
theorem f73 (c : Cs) (q : Q6) (res l : List Int) (A1 : Option Addr) (c1 : Nat) (A : Option Addr) (cc : Nat) (F : FuncId) (p : Int → Bool) (w : World) (hwf : WF c) (hc : CsAt c q w) (hr : (sl (eInt .i64) 1 A1 res.length c1 res).p w) (hl : (sl (eInt .i64) 1 A l.length cc l).p w)
    (hF : ∀ args w, (callFunc F args).run Try.prog w = .ok (.enter F args) w) (hdo : ∀ x : Int, Does Try.prog F [] w [.int .i64 x] (.bool (p x))) :
    Calls Try.prog 73 #[csV c q, .slice A1 res.length c1, .slice A l.length cc, .func (.func F) #[] #[]] w fun e w' => ∃ A' c', e = .returned (.slice A' (downL c res l p).length c') ∧ Gr w w' ∧ (∀ b, (own (eInt .i64) 1 3 A' (downL c res l p).length c' (downL c res l p)).fp b → w.heap.size ≤ b) ∧ (own (eInt .i64) 1 3 A' (downL c res l p).length c' (downL c res l p)).p w' := by
  refine calls_cw Try.func73 rfl Try.ntmps73 rfl ?_
  have hS := ((St.ofc hc).args (Nat.le_refl _) _ hl rfl).args (Nat.le_refl _) _ hr rfl
  have hll := hl.2.1
  have hrr := hr.2.1
  refine cw_seq ?_
  -- region 0
  refine cw_region ?_
  refine lw_box rfl rfl rfl rfl hS ?_
  clear hS; intro b4 w1 _ _ hS
  refine lw_box rfl rfl rfl rfl hS ?_
  clear hS; intro b5 w2 _ _ hS
  refine lw_box rfl rfl rfl rfl hS ?_
  clear hS; intro b6 w3 _ _ hS
  refine lw_box rfl rfl rfl rfl hS ?_
  clear hS; intro b7 w4 _ _ hS
  refine lw_v rfl rfl (ok_assign rfl (.n rfl) rfl) ?_
  refine lw_nil ?_
  refine Ends.keep [(4, .eq _), (5, .eq _), (6, .eq _), (7, .eq _)] (.cons rfl (.cons rfl (.cons rfl (.cons rfl .nil)))) ?_
  refine ends_then ?_
  refine cw_seq ?_
  refine cw_seq ?_
  -- region 1
  refine cw_region ?_
  refine lw_v rfl rfl (ok_ldS rfl (.n rfl) rfl Try.isAgg29 Try.sizeOf29 hS rfl) ?_
  refine lw_v rfl rfl (ok_ldb rfl (.n rfl) rfl Try.isAgg25 hS (by rfl)) ?_
  refine lw_v rfl rfl (ok_ldb rfl (.n rfl) rfl Try.isAgg26 hS (by rfl)) ?_
  refine lw_call (f := 70) (xs := [_, _, _]) rfl rfl rfl Try.call70 rfl (Calls.mono (f70 c q res l A1 c1 A cc _ hwf (hS.rd A hll)) ?_)
  rintro e w' ⟨rfl, hg⟩
  replace hS := hS.grow hg; clear hg
  refine ⟨_, rfl, ?_⟩
  refine lw_v rfl rfl (ok_not rfl (.n rfl) rfl) ?_
  refine lw_nil ?_
  refine Ends.keep [(4, .eq _), (5, .eq _), (6, .eq _), (7, .eq _), (13, .eq _)] (.cons rfl (.cons rfl (.cons rfl (.cons rfl (.cons rfl .nil))))) ?_
  refine ends_then ?_
  refine cw_cond rfl (fun h13 => ?_) (fun h13 => ?_)
  ·
    have hm : mayB c res l = false := by simpa using h13
    replace hS := hS.nil (eInt .i64) 1 3
    have e : [] = downL c res l p := by unfold downL; rw [if_neg (by rw [hm]; decide)]
    refine cw_seq ?_
    -- region 2
    refine cw_region ?_
    refine lw_v rfl rfl (ok_assign rfl (.n rfl) rfl) ?_
    refine lw_nil ?_
    refine Ends.keep [(8, .eq _)] (.cons rfl .nil) ?_
    refine ends_then ?_
    refine cw_ret ?_
    refine then_ret (?_)
    exact end_ret (res1 Try.results73 rfl) ⟨none, 0, by rw [← e]; rfl, hS.below, by rw [← e]; exact fun b hb => hS.ge _ (.head _) rfl b hb, by rw [← e]; exact hS.ok _ (.head _)⟩
  ·
    have hm : mayB c res l = true := by simpa using h13
    obtain ⟨hrl, hrh⟩ := (may_iff hwf).1 hm
    have hM := hwf.m
    have e : ((List.range res.length).filter (downP c res l p)).map Int.ofNat = downL c res l p := by unfold downL; rw [if_pos hm, hrl]
    refine cw_skip ?_
    refine ends_then ?_
    refine cw_seq ?_
    -- region 3
    refine cw_region ?_
    refine lw_v rfl rfl (ok_ldb rfl (.n rfl) rfl Try.isAgg25 hS (by rfl)) ?_
    refine lw_v rfl rfl (ok_len rfl (.n rfl) Try.underlying25 rfl) ?_
    refine lw_v rfl rfl (ok_mkfn rfl (.n rfl) rfl) ?_
    refine lw_call (f := 96) (xs := [_, _]) rfl rfl rfl Try.call96 rfl (Calls.mono (f96 res.length 97 [_, _, _, _] (downP c res l p) _ (by omega) Try.call97 (fun i hi w' hg => f97 c q res l A1 c1 A cc F p i b4 b5 b6 b7 w' hwf ((hS.grow hg).cs q) ((hS.grow hg).rd A1 hrr) ((hS.grow hg).rd A hll) hrl hrh hF (fun x => (hdo x).grow (Gr.trans hS.below hg)) (by omega) ((hS.grow hg).bx (b := b4)) ((hS.grow hg).bx (b := b5)) ((hS.grow hg).bx (b := b6)) ((hS.grow hg).bx (b := b7)))) ?_)
    rintro e w' ⟨A', c', rfl, hg, hfr, ho⟩
    have hfr' := fun b hb => Nat.le_trans hS.base (hfr b hb)
    replace hS := hS.grow hg; clear hg
    refine ⟨_, rfl, ?_⟩
    refine lw_v rfl rfl (ok_assign rfl (.n rfl) rfl) ?_
    refine lw_nil ?_
    refine Ends.keep [(8, .eq _)] (.cons rfl .nil) ?_
    refine ends_then ?_
    refine cw_ret ?_
    rw [e] at hfr' ho ⊢
    exact end_ret (res1 Try.results73 rfl) ⟨A', c', rfl, hS.below, hfr', ho⟩

set_option maxRecDepth 10000 in
/-- label.Steep's function. -/
theorem f74 (x : Int) (w : World) : Calls Try.prog 74 #[.int .i64 x] w fun e w' => e = .returned (.bool (decide (1 < x))) ∧ Gr w w' := by
  refine calls_cw Try.func74 rfl Try.ntmps74 rfl ?_
  have hS := St.start w
  refine cw_seq ?_
  -- region 0
  refine cw_region ?_
  refine lw_v rfl rfl (ok_assign rfl (.n rfl) rfl) ?_
  refine lw_nil ?_
  refine Ends.keep [(0, .eq _)] (.cons rfl .nil) ?_
  refine ends_then ?_
  refine cw_seq ?_
  -- region 1
  refine cw_region ?_
  refine lw_v rfl rfl (ok_move rfl (.n rfl) rfl) ?_
  refine lw_v rfl rfl (ok_gtr rfl (.n rfl) rfl rfl) ?_
  refine lw_v rfl rfl (ok_assign rfl (.n rfl) rfl) ?_
  refine lw_nil ?_
  refine Ends.keep [(2, .eq _)] (.cons rfl .nil) ?_
  refine ends_then ?_
  refine cw_ret ?_
  exact end_ret (res1 Try.results74 rfl) ⟨rfl, hS.below⟩

set_option maxRecDepth 10000 in
/-- label.Flat's function. -/
theorem f76 (x : Int) (w : World) : Calls Try.prog 76 #[.int .i64 x] w fun e w' => e = .returned (.bool (decide (x = 1))) ∧ Gr w w' := by
  refine calls_cw Try.func76 rfl Try.ntmps76 rfl ?_
  have hS := St.start w
  refine cw_seq ?_
  -- region 0
  refine cw_region ?_
  refine lw_v rfl rfl (ok_assign rfl (.n rfl) rfl) ?_
  refine lw_nil ?_
  refine Ends.keep [(0, .eq _)] (.cons rfl .nil) ?_
  refine ends_then ?_
  refine cw_seq ?_
  -- region 1
  refine cw_region ?_
  refine lw_v rfl rfl (ok_move rfl (.n rfl) rfl) ?_
  refine lw_v rfl rfl (ok_eql rfl (.n rfl) rfl rfl) ?_
  refine lw_v rfl rfl (ok_assign rfl (.n rfl) rfl) ?_
  refine lw_nil ?_
  refine Ends.keep [(2, .eq _)] (.cons rfl .nil) ?_
  refine ends_then ?_
  refine cw_ret ?_
  exact end_ret (res1 Try.results76 rfl) ⟨rfl, hS.below⟩

set_option maxRecDepth 10000 in
/-- label.Steep. -/
theorem f31 (c : Cs) (q : Q6) (res l : List Int) (A1 : Option Addr) (c1 : Nat) (A : Option Addr) (cc : Nat) (w : World) (hwf : WF c) (hc : CsAt c q w) (hr : (sl (eInt .i64) 1 A1 res.length c1 res).p w) (hl : (sl (eInt .i64) 1 A l.length cc l).p w) :
    Calls Try.prog 31 #[csV c q, .slice A1 res.length c1, .slice A l.length cc] w fun e w' => ∃ A' c', e = .returned (.slice A' (steepL c res l).length c') ∧ Gr w w' ∧ (∀ b, (own (eInt .i64) 1 3 A' (steepL c res l).length c' (steepL c res l)).fp b → w.heap.size ≤ b) ∧ (own (eInt .i64) 1 3 A' (steepL c res l).length c' (steepL c res l)).p w' := by
  refine calls_cw Try.func31 rfl Try.ntmps31 rfl ?_
  have hS := ((St.ofc hc).args (Nat.le_refl _) _ hl rfl).args (Nat.le_refl _) _ hr rfl
  have hll := hl.2.1
  have hrr := hr.2.1
  refine cw_seq ?_
  -- region 0
  refine cw_region ?_
  refine lw_box rfl rfl rfl rfl hS ?_
  clear hS; intro b3 w1 _ _ hS
  refine lw_v rfl rfl (ok_assign rfl (.n rfl) rfl) ?_
  refine lw_nil ?_
  refine Ends.keep [(1, .eq _), (2, .eq _), (3, .eq _)] (.cons rfl (.cons rfl (.cons rfl .nil))) ?_
  refine ends_then ?_
  refine cw_seq ?_
  -- region 1
  refine cw_region ?_
  refine lw_v rfl rfl (ok_ldS rfl (.n rfl) rfl Try.isAgg29 Try.sizeOf29 hS rfl) ?_
  refine lw_v rfl rfl (ok_move rfl (.n rfl) rfl) ?_
  refine lw_v rfl rfl (ok_move rfl (.n rfl) rfl) ?_
  refine lw_call (f := 73) (xs := [_, _, _, _]) rfl rfl rfl Try.call73 rfl (Calls.mono (f73 c q res l A1 c1 A cc 74 _ _ hwf (hS.cs q) (hS.rd A1 hrr) (hS.rd A hll) Try.call74 (fun x w' _ => f74 x w')) ?_)
  rintro e w' ⟨A', c', rfl, hg, hfr, ho⟩
  have hfr' := fun b hb => Nat.le_trans hS.base (hfr b hb)
  replace hS := hS.grow hg; clear hg
  refine ⟨_, rfl, ?_⟩
  refine lw_v rfl rfl (ok_assign rfl (.n rfl) rfl) ?_
  refine lw_nil ?_
  refine Ends.keep [(6, .eq _)] (.cons rfl .nil) ?_
  refine ends_then ?_
  refine cw_ret ?_
  exact end_ret (res1 Try.results31 rfl) ⟨A', c', rfl, hS.below, hfr', ho⟩

set_option maxRecDepth 10000 in
/-- label.Flat. -/
theorem f33 (c : Cs) (q : Q6) (res l : List Int) (A1 : Option Addr) (c1 : Nat) (A : Option Addr) (cc : Nat) (w : World) (hwf : WF c) (hc : CsAt c q w) (hr : (sl (eInt .i64) 1 A1 res.length c1 res).p w) (hl : (sl (eInt .i64) 1 A l.length cc l).p w) :
    Calls Try.prog 33 #[csV c q, .slice A1 res.length c1, .slice A l.length cc] w fun e w' => ∃ A' c', e = .returned (.slice A' (flatL c res l).length c') ∧ Gr w w' ∧ (∀ b, (own (eInt .i64) 1 3 A' (flatL c res l).length c' (flatL c res l)).fp b → w.heap.size ≤ b) ∧ (own (eInt .i64) 1 3 A' (flatL c res l).length c' (flatL c res l)).p w' := by
  refine calls_cw Try.func33 rfl Try.ntmps33 rfl ?_
  have hS := ((St.ofc hc).args (Nat.le_refl _) _ hl rfl).args (Nat.le_refl _) _ hr rfl
  have hll := hl.2.1
  have hrr := hr.2.1
  refine cw_seq ?_
  -- region 0
  refine cw_region ?_
  refine lw_box rfl rfl rfl rfl hS ?_
  clear hS; intro b3 w1 _ _ hS
  refine lw_v rfl rfl (ok_assign rfl (.n rfl) rfl) ?_
  refine lw_nil ?_
  refine Ends.keep [(1, .eq _), (2, .eq _), (3, .eq _)] (.cons rfl (.cons rfl (.cons rfl .nil))) ?_
  refine ends_then ?_
  refine cw_seq ?_
  -- region 1
  refine cw_region ?_
  refine lw_v rfl rfl (ok_ldS rfl (.n rfl) rfl Try.isAgg29 Try.sizeOf29 hS rfl) ?_
  refine lw_v rfl rfl (ok_move rfl (.n rfl) rfl) ?_
  refine lw_v rfl rfl (ok_move rfl (.n rfl) rfl) ?_
  refine lw_call (f := 73) (xs := [_, _, _, _]) rfl rfl rfl Try.call73 rfl (Calls.mono (f73 c q res l A1 c1 A cc 76 _ _ hwf (hS.cs q) (hS.rd A1 hrr) (hS.rd A hll) Try.call76 (fun x w' _ => f76 x w')) ?_)
  rintro e w' ⟨A', c', rfl, hg, hfr, ho⟩
  have hfr' := fun b hb => Nat.le_trans hS.base (hfr b hb)
  replace hS := hS.grow hg; clear hg
  refine ⟨_, rfl, ?_⟩
  refine lw_v rfl rfl (ok_assign rfl (.n rfl) rfl) ?_
  refine lw_nil ?_
  refine Ends.keep [(6, .eq _)] (.cons rfl .nil) ?_
  refine ends_then ?_
  refine cw_ret ?_
  exact end_ret (res1 Try.results33 rfl) ⟨A', c', rfl, hS.below, hfr', ho⟩

set_option maxRecDepth 10000 in
/-- label.Valid. -/
theorem f35 (c : Cs) (q : Q6) (res l : List Int) (A1 : Option Addr) (c1 : Nat) (A : Option Addr) (cc : Nat) (w : World) (hwf : WF c) (hc : CsAt c q w) (hr : (sl (eInt .i64) 1 A1 res.length c1 res).p w) (hl : (sl (eInt .i64) 1 A l.length cc l).p w) :
    Calls Try.prog 35 #[csV c q, .slice A1 res.length c1, .slice A l.length cc] w fun e w' => e = .returned (.bool (validB c res l)) ∧ Gr w w' := by
  cases hm : mayB c res l with
  | true =>
    refine calls_cw Try.func35 rfl Try.ntmps35 rfl ?_
    have hS := ((St.ofc hc).args (Nat.le_refl _) _ hl rfl).args (Nat.le_refl _) _ hr rfl
    have hll := hl.2.1
    have hrr := hr.2.1
    refine cw_seq ?_
    -- region 0
    refine cw_region ?_
    refine lw_box rfl rfl rfl rfl hS ?_
    clear hS; intro b3 w1 _ _ hS
    refine lw_v rfl rfl (ok_assign rfl (.n rfl) rfl) ?_
    refine lw_nil ?_
    refine Ends.keep [(1, .eq _), (2, .eq _), (3, .eq _)] (.cons rfl (.cons rfl (.cons rfl .nil))) ?_
    refine ends_then ?_
    refine cw_seq ?_
    -- region 1
    refine cw_region ?_
    refine lw_v rfl rfl (ok_ldS rfl (.n rfl) rfl Try.isAgg29 Try.sizeOf29 hS rfl) ?_
    refine lw_v rfl rfl (ok_move rfl (.n rfl) rfl) ?_
    refine lw_v rfl rfl (ok_move rfl (.n rfl) rfl) ?_
    refine lw_call (f := 70) (xs := [_, _, _]) rfl rfl rfl Try.call70 rfl (Calls.mono (f70 c q res l A1 c1 A cc _ hwf (hS.rd A hll)) ?_)
    rintro e w' ⟨rfl, hg⟩
    replace hS := hS.grow hg; clear hg
    rw [hm]
    refine ⟨_, rfl, ?_⟩
    refine lw_v rfl rfl (ok_move rfl (.n rfl) rfl) ?_
    refine lw_on (.s rfl rfl) rfl ?_
    refine lw_v rfl rfl (ok_ldS rfl (.n rfl) rfl Try.isAgg29 Try.sizeOf29 hS rfl) ?_
    refine lw_on (.s rfl rfl) rfl ?_
    refine lw_v rfl rfl (ok_move rfl (.n rfl) rfl) ?_
    refine lw_on (.s rfl rfl) rfl ?_
    refine lw_v rfl rfl (ok_move rfl (.n rfl) rfl) ?_
    refine lw_on (.s rfl rfl) rfl ?_
    refine lw_call (f := 31) (xs := [_, _, _]) rfl rfl rfl Try.call31 rfl (Calls.mono (f31 c q res l A1 c1 A cc _ hwf (hS.cs q) (hS.rd A1 hrr) (hS.rd A hll)) ?_)
    rintro e w' ⟨A', c', rfl, hg, hfr, ho⟩
    replace hS := hS.grow hg; clear hg
    refine ⟨_, rfl, ?_⟩
    refine lw_on (.s rfl rfl) rfl ?_
    refine lw_v rfl rfl (ok_len rfl (.n rfl) Try.underlying26 rfl) ?_
    refine lw_on (.s rfl rfl) rfl ?_
    refine lw_v rfl rfl (ok_eql rfl (.n rfl) rfl rfl) ?_
    refine lw_v rfl rfl (ok_pick rfl rfl rfl rfl rfl) ?_
    refine lw_v rfl rfl (ok_assign rfl (.n rfl) rfl) ?_
    refine lw_nil ?_
    refine Ends.keep [(6, .eq _)] (.cons rfl .nil) ?_
    refine ends_then ?_
    refine cw_ret ?_
    exact end_ret (res1 Try.results35 rfl) ⟨by unfold validB; rw [hm]; rfl, hS.below⟩
  | false =>
    refine calls_cw Try.func35 rfl Try.ntmps35 rfl ?_
    have hS := ((St.ofc hc).args (Nat.le_refl _) _ hl rfl).args (Nat.le_refl _) _ hr rfl
    have hll := hl.2.1
    have hrr := hr.2.1
    refine cw_seq ?_
    -- region 0
    refine cw_region ?_
    refine lw_box rfl rfl rfl rfl hS ?_
    clear hS; intro b3 w1 _ _ hS
    refine lw_v rfl rfl (ok_assign rfl (.n rfl) rfl) ?_
    refine lw_nil ?_
    refine Ends.keep [(1, .eq _), (2, .eq _), (3, .eq _)] (.cons rfl (.cons rfl (.cons rfl .nil))) ?_
    refine ends_then ?_
    refine cw_seq ?_
    -- region 1
    refine cw_region ?_
    refine lw_v rfl rfl (ok_ldS rfl (.n rfl) rfl Try.isAgg29 Try.sizeOf29 hS rfl) ?_
    refine lw_v rfl rfl (ok_move rfl (.n rfl) rfl) ?_
    refine lw_v rfl rfl (ok_move rfl (.n rfl) rfl) ?_
    refine lw_call (f := 70) (xs := [_, _, _]) rfl rfl rfl Try.call70 rfl (Calls.mono (f70 c q res l A1 c1 A cc _ hwf (hS.rd A hll)) ?_)
    rintro e w' ⟨rfl, hg⟩
    replace hS := hS.grow hg; clear hg
    rw [hm]
    refine ⟨_, rfl, ?_⟩
    refine lw_v rfl rfl (ok_move rfl (.n rfl) rfl) ?_
    refine lw_off rfl (.s rfl rfl) rfl rfl ?_
    refine lw_off rfl (.s rfl rfl) rfl rfl ?_
    refine lw_off rfl (.s rfl rfl) rfl rfl ?_
    refine lw_off rfl (.s rfl rfl) rfl rfl ?_
    refine lw_off rfl (.s rfl rfl) rfl rfl ?_
    refine lw_off rfl (.s rfl rfl) rfl rfl ?_
    refine lw_v rfl rfl (ok_pick rfl rfl rfl rfl rfl) ?_
    refine lw_v rfl rfl (ok_assign rfl (.n rfl) rfl) ?_
    refine lw_nil ?_
    refine Ends.keep [(6, .eq _)] (.cons rfl .nil) ?_
    refine ends_then ?_
    refine cw_ret ?_
    exact end_ret (res1 Try.results35 rfl) ⟨by unfold validB; rw [hm]; rfl, hS.below⟩


set_option maxRecDepth 10000 in
/-- label.Sum. -/
theorem f37 (c : Cs) (q : Q6) (l : List Int) (A : Option Addr) (cc : Nat) (w : World) (hwf : WF c) (hl : (sl (eInt .i64) 1 A l.length cc l).p w) :
    Calls Try.prog 37 #[csV c q, .slice A l.length cc] w fun e w' => e = .returned (.int .i64 (sumB c l)) ∧ Gr w w' := by
  refine calls_cw Try.func37 rfl Try.ntmps37 rfl ?_
  have hS := (St.start w).args (Nat.le_refl _) _ hl rfl
  have hll := hl.2.1
  have hN := hwf.hi
  refine cw_seq ?_
  -- region 0
  refine cw_region ?_
  refine lw_box rfl rfl rfl rfl hS ?_
  clear hS; intro b2 w1 _ _ hS
  refine lw_v rfl rfl (ok_assign rfl (.n rfl) rfl) ?_
  refine lw_nil ?_
  refine Ends.keep [(1, .eq _), (2, .eq _)] (.cons rfl (.cons rfl .nil)) ?_
  refine ends_then ?_
  refine cw_seq ?_
  refine cw_seq ?_
  -- region 1
  refine cw_region ?_
  refine lw_v rfl rfl (ok_ldS rfl (.n rfl) rfl Try.isAgg29 Try.sizeOf29 hS rfl) ?_
  refine lw_v rfl rfl (ok_move rfl (.n rfl) rfl) ?_
  refine lw_call (f := 28) (xs := [_, _]) rfl rfl rfl Try.call28 rfl (Calls.mono (f28 c q l A cc _ hwf (hS.rd A hll)) ?_)
  rintro e w' ⟨rfl, hg⟩
  replace hS := hS.grow hg; clear hg
  refine ⟨_, rfl, ?_⟩
  refine lw_v rfl rfl (ok_not rfl (.n rfl) rfl) ?_
  refine lw_nil ?_
  refine Ends.keep [(1, .eq _), (11, .eq _)] (.cons rfl (.cons rfl .nil)) ?_
  refine ends_then ?_
  refine cw_cond rfl (fun h11 => ?_) (fun h11 => ?_)
  ·
    have hm : rightB c l = false := by simpa using h11
    refine cw_seq ?_
    -- region 2
    refine cw_region ?_
    refine lw_v rfl rfl (ok_assign rfl (.n rfl) rfl) ?_
    refine lw_nil ?_
    refine Ends.keep [(4, .eq _)] (.cons rfl .nil) ?_
    refine ends_then ?_
    refine cw_ret ?_
    refine then_ret (?_)
    exact end_ret (res1 Try.results37 rfl) ⟨by unfold sumB; rw [if_neg (by rw [hm]; decide)], hS.below⟩
  ·
    have hm : rightB c l = true := by simpa using h11
    have hrh := (right_iff hwf).1 hm
    have hlen := hrh.len
    refine cw_skip ?_
    refine ends_then ?_
    refine cw_seq ?_
    -- region 3
    refine cw_region ?_
    refine lw_v rfl rfl (ok_assign rfl (.n rfl) rfl) ?_
    refine lw_nil ?_
    refine Ends.keep [(1, .eq _), (5, .eq _)] (.cons rfl (.cons rfl .nil)) ?_
    refine ends_then ?_
    refine cw_seq ?_
    refine cw_seq ?_
    -- region 4
    refine cw_region ?_
    refine lw_v rfl rfl (ok_move rfl (.n rfl) rfl) ?_
    refine lw_v rfl rfl (ok_len rfl (.n rfl) Try.underlying26 rfl) ?_
    refine lw_v rfl rfl (ok_move rfl (.n rfl) rfl) ?_
    refine lw_nil ?_
    refine Ends.keep [(5, .eq _), (12, .eq _), (13, .eq _), (14, .eq _)] (.cons rfl (.cons rfl (.cons rfl (.cons rfl .nil)))) ?_
    refine ends_then ?_
    refine cw_block ?_
    -- LOOP at region 5: changed live slots [5, 14], kept [12, 13]
    refine cw_loop2 [(12, .eq _), (13, .eq _)] (fun (k : Nat) (s : Int) => [(5, .eq (.int .i64 s)), (14, .eq (.int .i64 k))]) (fun k s w' => (k ≤ l.length ∧ s = sumTo l k) ∧ St w.heap.size w w' [bx b2 (csV c q).cells.toList 29, sl (eInt .i64) 1 A l.length cc l]) (fun k _ => l.length - k) 0 0 (.cons rfl (.cons rfl .nil)) (.cons rfl (.cons rfl (.cons rfl (.cons rfl .nil)))) ⟨⟨Nat.zero_le _, rfl⟩, hS⟩ ?_
    clear hS
    rintro k s wr ⟨⟨hk, hs⟩, hS⟩
    have hsr := sumTo_rng hrh k (by omega)
    have hmul : (c.N : Int) * k ≤ 16 * 16 := by
      have : c.N * k ≤ 16 * 16 := Nat.mul_le_mul (by omega) (by omega)
      omega
    refine cw_seq ?_
    -- region 5
    refine cw_region ?_
    refine lw_v rfl rfl (ok_lss rfl (.n rfl) rfl rfl) ?_
    refine lw_nil ?_
    refine Ends.keep [(5, .eq _), (12, .eq _), (13, .eq _), (14, .eq _), (15, .eq _)] (.cons rfl (.cons rfl (.cons rfl (.cons rfl (.cons rfl .nil))))) ?_
    refine ends_then ?_
    refine cw_seq ?_
    refine cw_cond rfl (fun h15 => ?_) (fun h15 => ?_)
    ·
      have hlt := of_decide_eq_true h15
      have hxr := hrh.rng k (by omega)
      have eK : l.getD (k : Int).toNat 0 = l.getD k 0 := rfl
      rw [← eK] at hxr
      refine cw_skip ?_
      refine ends_then ?_
      refine cw_seq ?_
      refine cw_block ?_
      refine cw_seq ?_
      -- region 6
      refine cw_region ?_
      refine lw_v rfl rfl (ok_ix rfl (.n rfl) Try.underlying26 Try.sizeOf3 rfl rfl hS (fun _ => ⟨by omega, by omega⟩)) ?_
      refine lw_v rfl rfl (ok_ldx rfl (.n rfl) rfl Try.isAgg3 hS (fun _ => ⟨by omega, by omega⟩) (by rfl)) ?_
      refine lw_v rfl rfl (ok_assign rfl (.n rfl) rfl) ?_
      refine lw_nil ?_
      refine Ends.keep [(5, .eq _), (7, .eq _), (12, .eq _), (13, .eq _), (14, .eq _)] (.cons rfl (.cons rfl (.cons rfl (.cons rfl (.cons rfl .nil))))) ?_
      refine ends_then ?_
      -- region 7
      refine cw_region ?_
      refine lw_v rfl rfl (ok_move rfl (.n rfl) rfl) ?_
      refine lw_v rfl rfl (ok_move rfl (.n rfl) rfl) ?_
      refine lw_v rfl rfl (ok_addi rfl (.n rfl) rfl rfl (fun _ => ⟨by omega, by omega⟩)) ?_
      refine lw_v rfl rfl (ok_assign rfl (.n rfl) rfl) ?_
      refine lw_nil ?_
      refine in_normal (?_)
      refine Ends.keep [(5, .eq _), (12, .eq _), (13, .eq _), (14, .eq _)] (.cons rfl (.cons rfl (.cons rfl (.cons rfl .nil)))) ?_
      refine ends_then ?_
      -- region 8
      refine cw_region ?_
      refine lw_v rfl rfl (ok_addi rfl (.n rfl) rfl rfl (fun _ => ⟨by omega, by omega⟩)) ?_
      refine lw_v rfl rfl (ok_move rfl (.n rfl) rfl) ?_
      refine lw_nil ?_
      -- BACK
      refine ends_back2 (k + 1) _ (.cons rfl (.cons rfl (.cons rfl (.cons rfl .nil)))) ⟨⟨by omega, ?_⟩, hS⟩ (by omega)
      rw [hs]; rfl
    ·
      have hkn : k = l.length := by have := of_decide_eq_false h15; omega
      subst hkn
      refine cw_exit ?_
      refine then_exit (then_exit (in_exit (?_)))
      refine Ends.keep [(5, .eq _)] (.cons rfl .nil) ?_
      refine ends_then ?_
      refine cw_seq ?_
      -- region 9
      refine cw_region ?_
      refine lw_v rfl rfl (ok_move rfl (.n rfl) rfl) ?_
      refine lw_v rfl rfl (ok_assign rfl (.n rfl) rfl) ?_
      refine lw_nil ?_
      refine Ends.keep [(4, .eq _)] (.cons rfl .nil) ?_
      refine ends_then ?_
      refine cw_ret ?_
      exact end_ret (res1 Try.results37 rfl) ⟨by unfold sumB; rw [if_pos hm, hs], hS.below⟩

end Go.Proofs.Ytnpgeohkmdcbkaa.Aq

namespace Go.Proofs.Ytnpgeohkmdcbkaa.Aq
open Go Go.RowKit

theorem and_of {a b : Int} {x y : Int} (h : (decide (a < b) && decide (x < y)) = true) : a < b ∧ x < y := by
  rwa [Bool.and_eq_true, decide_eq_true_eq, decide_eq_true_eq] at h
theorem nand_of {a b : Int} {x y : Int} (h : (decide (a < b) && decide (x < y)) = false) : ¬ (a < b ∧ x < y) := fun hn => by
  rw [decide_eq_true hn.1, decide_eq_true hn.2] at h
  cases h
theorem not_in {b : Bool} {u N : Int} (h : ((!b || decide (u < 0)) || decide (N ≤ u)) = true) : ¬ (b = true ∧ 0 ≤ u ∧ u < N) := fun ⟨h1, h2, h3⟩ => by
  rw [h1, decide_eq_false (by omega), decide_eq_false (by omega)] at h
  cases h
theorem is_in {b : Bool} {u N : Int} (h : ((!b || decide (u < 0)) || decide (N ≤ u)) = false) : (b = true ∧ 0 ≤ u) ∧ u < N := by
  rw [Bool.or_eq_false_iff, Bool.or_eq_false_iff, decide_eq_false_iff_not, decide_eq_false_iff_not] at h
  exact ⟨⟨by simpa using h.1.1, by omega⟩, by omega⟩
theorem least_none {c : Cs} {res h : List Int} {v : Nat} {a b m : Int} (ht : LeastTo c res h v a b m) (hm : mayB c res h = true) (ha : a = c.First.getD ((v : Int) + 1).toNat 0) (h1 : (c.N : Int) < m) : LeastR c res h v 0 0 false := by
  refine .inr ⟨rfl, rfl, rfl, fun _ _ _ x hx => ?_⟩
  rcases ht with ⟨_, _, h2⟩ | ⟨h2, _⟩
  · exact h2 x (by rw [ha]; exact hx.2.1) hx
  · omega
theorem least_some {c : Cs} {res h : List Int} {v : Nat} {a b m : Int} (ht : LeastTo c res h v a b m) (hm : mayB c res h = true) (hv : (v : Int) < c.N) (ha : a = c.First.getD ((v : Int) + 1).toNat 0) (h1 : m ≤ (c.N : Int)) : LeastR c res h v b m true := by
  rcases ht with ⟨_, h2, _⟩ | ⟨h2, h3, h4, h5, h6, h7⟩
  · omega
  · exact .inl ⟨hm, by omega, hv, rfl, h4, h5, fun x hx => h6 x (by rw [ha]; exact hx.2.1) hx, h7⟩
set_option maxRecDepth 10000 in
/-- label.Least. -/
theorem f26 (c : Cs) (q : Q6) (res l : List Int) (u : Int) (A1 : Option Addr) (c1 : Nat) (A : Option Addr) (cc : Nat) (w : World) (hwf : WF c) (hc : CsAt c q w) (hr : (sl (eInt .i64) 1 A1 res.length c1 res).p w) (hl : (sl (eInt .i64) 1 A l.length cc l).p w) :
    Calls Try.prog 26 #[csV c q, .slice A1 res.length c1, .slice A l.length cc, .int .i64 u] w fun e w' => ∃ b m ok, e = .returned (.tuple #[.int .i64 b, .int .i64 m, .bool ok]) ∧ Gr w w' ∧ LeastR c res l u b m ok := by
  refine calls_cw Try.func26 rfl Try.ntmps26 rfl ?_
  have hS := ((St.ofc hc).args (Nat.le_refl _) _ hl rfl).args (Nat.le_refl _) _ hr rfl
  have hll := hl.2.1
  have hrr := hr.2.1
  refine cw_seq ?_
  -- region 0
  refine cw_region ?_
  refine lw_box rfl rfl rfl rfl hS ?_
  clear hS; intro b4 w1 _ _ hS
  refine lw_v rfl rfl (ok_assign rfl (.n rfl) rfl) ?_
  refine lw_v rfl rfl (ok_assign rfl (.n rfl) rfl) ?_
  refine lw_v rfl rfl (ok_assign rfl (.n rfl) rfl) ?_
  refine lw_nil ?_
  refine Ends.keep [(1, .eq _), (2, .eq _), (3, .eq _), (4, .eq _)] (.cons rfl (.cons rfl (.cons rfl (.cons rfl .nil)))) ?_
  refine ends_then ?_
  refine cw_seq ?_
  refine cw_seq ?_
  -- region 1
  refine cw_region ?_
  refine lw_v rfl rfl (ok_ldS rfl (.n rfl) rfl Try.isAgg29 Try.sizeOf29 hS rfl) ?_
  refine lw_v rfl rfl (ok_move rfl (.n rfl) rfl) ?_
  refine lw_v rfl rfl (ok_move rfl (.n rfl) rfl) ?_
  refine lw_call (f := 70) (xs := [_, _, _]) rfl rfl rfl Try.call70 rfl (Calls.mono (f70 c q res l A1 c1 A cc _ hwf (hS.rd A hll)) ?_)
  rintro e w' ⟨rfl, hg⟩
  replace hS := hS.grow hg; clear hg
  refine ⟨_, rfl, ?_⟩
  refine lw_v rfl rfl (ok_not rfl (.n rfl) rfl) ?_
  refine lw_v rfl rfl (ok_move rfl (.n rfl) rfl) ?_
  refine lw_v rfl rfl (ok_move rfl (.s rfl rfl) rfl) ?_
  refine lw_v rfl rfl (ok_lss rfl (.s rfl rfl) rfl rfl) ?_
  refine lw_v rfl rfl (ok_or rfl rfl rfl rfl) ?_
  refine lw_v rfl rfl (ok_move rfl (.n rfl) rfl) ?_
  refine lw_v rfl rfl (ok_move rfl (.s rfl rfl) rfl) ?_
  refine lw_v rfl rfl (ok_fb rfl (.s rfl rfl) Try.underlying29 rfl Try.sizeOf3 (by decide) rfl) ?_
  refine lw_v rfl rfl (ok_ldb rfl (.s rfl rfl) rfl Try.isAgg3 hS (by rfl)) ?_
  refine lw_v rfl rfl (ok_geq rfl (.s rfl rfl) rfl rfl) ?_
  refine lw_v rfl rfl (ok_or rfl rfl rfl rfl) ?_
  refine lw_nil ?_
  refine Ends.keep [(1, .eq _), (2, .eq _), (3, .eq _), (4, .eq _), (29, .eq _)] (.cons rfl (.cons rfl (.cons rfl (.cons rfl (.cons rfl .nil))))) ?_
  refine ends_then ?_
  refine cw_cond rfl (fun h29 => ?_) (fun h29 => ?_)
  ·
    have hno : ¬ (mayB c res l = true ∧ 0 ≤ u ∧ u < c.N) := not_in h29
    refine cw_seq ?_
    -- region 2
    refine cw_region ?_
    refine lw_v rfl rfl (ok_assign rfl (.n rfl) rfl) ?_
    refine lw_v rfl rfl (ok_assign rfl (.n rfl) rfl) ?_
    refine lw_v rfl rfl (ok_assign rfl (.n rfl) rfl) ?_
    refine lw_nil ?_
    refine Ends.keep [(8, .eq _), (9, .eq _), (10, .eq _)] (.cons rfl (.cons rfl (.cons rfl .nil))) ?_
    refine ends_then ?_
    refine cw_ret ?_
    refine then_ret (?_)
    exact end_ret (res3 Try.results26 rfl rfl rfl) ⟨_, _, _, rfl, hS.below, .inr ⟨rfl, rfl, rfl, fun h1 h2 h3 => absurd ⟨h1, h2, h3⟩ hno⟩⟩
  ·
    obtain ⟨⟨hm, hu0⟩, huN⟩ : (mayB c res l = true ∧ 0 ≤ u) ∧ u < c.N := is_in h29
    obtain ⟨hrl, hrh⟩ := (may_iff hwf).1 hm
    obtain ⟨v, rfl⟩ := Int.eq_ofNat_of_zero_le hu0
    clear hu0
    have hvN : v < c.N := by omega
    have hM := hwf.m
    have hN := hwf.hi
    have hfl := hwf.fl
    have hlen := hrh.len
    obtain ⟨hf0, hf1, hf2⟩ := seg_rng hwf hvN
    have eF : c.First.getD (v : Int).toNat 0 = c.First.getD v 0 := rfl
    have eF1 : c.First.getD ((v : Int) + 1).toNat 0 = c.First.getD (v + 1) 0 := rfl
    rw [← eF] at hf0 hf1
    rw [← eF1] at hf1 hf2
    refine cw_skip ?_
    refine ends_then ?_
    refine cw_seq ?_
    -- region 3
    refine cw_draw (by kernel_rfl) (List.take 4 _) (List.drop 4 _) (List.take_append_drop 4 _).symm (by kernel_rfl) ?_
    refine free_v (ok_fb rfl (.n rfl) Try.underlying29 rfl Try.sizeOf3 (by decide) rfl) ?_
    refine free_v (ok_ldb rfl (.n rfl) rfl Try.isAgg3 hS (by rfl)) ?_
    refine free_v (ok_addi rfl (.n rfl) rfl rfl (fun _ => ⟨by omega, by omega⟩)) ?_
    refine free_v (ok_assign rfl (.n rfl) rfl) ?_
    refine free_nil ?_
    intro w2 hg_; replace hS := hS.grow hg_; clear hg_
    refine lw_v rfl rfl (ok_assign rfl (.n rfl) rfl) ?_
    refine lw_nil ?_
    refine Ends.keep [(1, .eq _), (2, .eq _), (3, .eq _), (4, .eq _), (11, .eq _), (12, .eq _)] (.cons rfl (.cons rfl (.cons rfl (.cons rfl (.cons rfl (.cons rfl .nil)))))) ?_
    refine ends_then ?_
    refine cw_seq ?_
    refine cw_seq ?_
    -- region 4
    refine cw_region ?_
    refine lw_v rfl rfl (ok_fb rfl (.n rfl) Try.underlying29 rfl Try.sizeOf26 (by decide) rfl) ?_
    refine lw_v rfl rfl (ok_ldb rfl (.n rfl) rfl Try.isAgg26 hS (by rfl)) ?_
    refine lw_v rfl rfl (ok_move rfl (.n rfl) rfl) ?_
    refine lw_v rfl rfl (ok_ix rfl (.n rfl) Try.underlying26 Try.sizeOf3 rfl rfl hS (fun _ => ⟨by omega, by omega⟩)) ?_
    refine lw_v rfl rfl (ok_ldx rfl (.n rfl) rfl Try.isAgg3 hS (fun _ => ⟨by omega, by omega⟩) (by rfl)) ?_
    refine lw_v rfl rfl (ok_assign rfl (.n rfl) rfl) ?_
    refine lw_nil ?_
    refine Ends.keep [(1, .eq _), (2, .eq _), (3, .eq _), (4, .eq _), (11, .eq _), (12, .eq _), (13, .eq _)] (.cons rfl (.cons rfl (.cons rfl (.cons rfl (.cons rfl (.cons rfl (.cons rfl .nil))))))) ?_
    refine ends_then ?_
    refine cw_block ?_
    -- LOOP at region 5: changed live slots [11, 12, 13], kept [1, 2, 3, 4]
    refine cw_loop3 [(1, .eq _), (2, .eq _), (3, .eq _), (4, .eq _)] (fun (a b m : Int) => [(11, .eq (.int .i64 b)), (12, .eq (.int .i64 m)), (13, .eq (.int .i64 a))]) (fun a b m w' => (c.First.getD (v : Int).toNat 0 ≤ a ∧ a ≤ c.First.getD ((v : Int) + 1).toNat 0 ∧ LeastTo c res l v a b m) ∧ St w.heap.size w w' [bx b4 (csV c q).cells.toList 29, sl (eInt .i64) 1 A1 res.length c1 res, sl (eInt .i64) 1 A l.length cc l, sl (eInt .i64) 1 q.a0 c.First.length q.c0 c.First, sl (eInt .i64) 1 q.a1 c.Head.length q.c1 c.Head, sl (eInt .i64) 1 q.a2 c.Rev.length q.c2 c.Rev, sl (eInt .i64) 1 q.a3 c.Cap.length q.c3 c.Cap, sl (eInt .i64) 1 q.a4 c.Arc.length q.c4 c.Arc, sl eBool 1 q.a5 c.Back.length q.c5 c.Back]) (fun a _ _ => (c.First.getD ((v : Int) + 1).toNat 0 - a).toNat) (c.First.getD (v : Int).toNat 0) 0 (c.N + 1) (.cons rfl (.cons rfl (.cons rfl (.cons rfl .nil)))) (.cons rfl (.cons rfl (.cons rfl (.cons rfl (.cons rfl (.cons rfl (.cons rfl .nil))))))) ⟨⟨Int.le_refl _, hf1, .inl ⟨rfl, rfl, fun x hx ho => by have := ho.1; omega⟩⟩, hS⟩ ?_
    clear hS
    rintro a b m wr ⟨⟨ha0, ha1, hlt0⟩, hS⟩
    refine cw_seq ?_
    refine cw_seq ?_
    -- region 5
    refine cw_region ?_
    refine lw_v rfl rfl (ok_move rfl (.n rfl) rfl) ?_
    refine lw_v rfl rfl (ok_fb rfl (.n rfl) Try.underlying29 rfl Try.sizeOf26 (by decide) rfl) ?_
    refine lw_v rfl rfl (ok_ldb rfl (.n rfl) rfl Try.isAgg26 hS (by rfl)) ?_
    refine lw_v rfl rfl (ok_move rfl (.n rfl) rfl) ?_
    refine lw_v rfl rfl (ok_addi rfl (.n rfl) rfl rfl (fun _ => ⟨by omega, by omega⟩)) ?_
    refine lw_v rfl rfl (ok_ix rfl (.n rfl) Try.underlying26 Try.sizeOf3 rfl rfl hS (fun _ => ⟨by omega, by omega⟩)) ?_
    refine lw_v rfl rfl (ok_ldx rfl (.n rfl) rfl Try.isAgg3 hS (fun _ => ⟨by omega, by omega⟩) (by rfl)) ?_
    refine lw_v rfl rfl (ok_lss rfl (.n rfl) rfl rfl) ?_
    refine lw_nil ?_
    refine Ends.keep [(1, .eq _), (2, .eq _), (3, .eq _), (4, .eq _), (11, .eq _), (12, .eq _), (13, .eq _), (45, .eq _)] (.cons rfl (.cons rfl (.cons rfl (.cons rfl (.cons rfl (.cons rfl (.cons rfl (.cons rfl .nil)))))))) ?_
    refine ends_then ?_
    refine cw_cond rfl (fun h45 => ?_) (fun h45 => ?_)
    ·
      have hlt := of_decide_eq_true h45
      obtain ⟨⟨hd0, hd1⟩, he0, he1⟩ := end_rng hwf hrh (a := a) (by omega) (by omega)
      have eE : l.getD (c.Head.getD a.toNat 0).toNat 0 = endH c l a := rfl
      rw [← eE] at he0 he1
      refine cw_skip ?_
      refine ends_then ?_
      refine cw_seq ?_
      refine cw_block ?_
      refine cw_seq ?_
      -- region 7
      refine cw_region ?_
      refine lw_v rfl rfl (ok_move rfl (.n rfl) rfl) ?_
      refine lw_v rfl rfl (ok_fb rfl (.n rfl) Try.underlying29 rfl Try.sizeOf26 (by decide) rfl) ?_
      refine lw_v rfl rfl (ok_ldb rfl (.n rfl) rfl Try.isAgg26 hS (by rfl)) ?_
      refine lw_v rfl rfl (ok_move rfl (.n rfl) rfl) ?_
      refine lw_v rfl rfl (ok_ix rfl (.n rfl) Try.underlying26 Try.sizeOf3 rfl rfl hS (fun _ => ⟨by omega, by omega⟩)) ?_
      refine lw_v rfl rfl (ok_ldx rfl (.n rfl) rfl Try.isAgg3 hS (fun _ => ⟨by omega, by omega⟩) (by rfl)) ?_
      refine lw_v rfl rfl (ok_ix rfl (.n rfl) Try.underlying26 Try.sizeOf3 rfl rfl hS (fun _ => ⟨by omega, by omega⟩)) ?_
      refine lw_v rfl rfl (ok_ldx rfl (.n rfl) rfl Try.isAgg3 hS (fun _ => ⟨by omega, by omega⟩) (by rfl)) ?_
      refine lw_v rfl rfl (ok_assign rfl (.n rfl) rfl) ?_
      refine lw_nil ?_
      refine Ends.keep [(1, .eq _), (2, .eq _), (3, .eq _), (4, .eq _), (11, .eq _), (12, .eq _), (13, .eq _), (14, .eq _)] (.cons rfl (.cons rfl (.cons rfl (.cons rfl (.cons rfl (.cons rfl (.cons rfl (.cons rfl .nil)))))))) ?_
      refine ends_then ?_
      refine cw_seq ?_
      -- region 8
      refine cw_region ?_
      refine lw_v rfl rfl (ok_move rfl (.n rfl) rfl) ?_
      refine lw_v rfl rfl (ok_move rfl (.n rfl) rfl) ?_
      refine lw_v rfl rfl (ok_ix rfl (.n rfl) Try.underlying25 Try.sizeOf2 rfl rfl hS (fun _ => ⟨by omega, by omega⟩)) ?_
      refine lw_v rfl rfl (ok_ldx rfl (.n rfl) rfl Try.isAgg2 hS (fun _ => ⟨by omega, by omega⟩) (by rfl)) ?_
      refine lw_v rfl rfl (ok_gtr rfl (.n rfl) rfl rfl) ?_
      refine lw_v rfl rfl (ok_move rfl (.n rfl) rfl) ?_
      refine lw_v rfl rfl (ok_move rfl (.s rfl rfl) rfl) ?_
      refine lw_v rfl rfl (ok_move rfl (.s rfl rfl) rfl) ?_
      refine lw_v rfl rfl (ok_lss rfl (.s rfl rfl) rfl rfl) ?_
      refine lw_v rfl rfl (ok_and rfl rfl rfl rfl) ?_
      refine lw_nil ?_
      refine Ends.keep [(1, .eq _), (2, .eq _), (3, .eq _), (4, .eq _), (11, .eq _), (12, .eq _), (13, .eq _), (14, .eq _), (65, .eq _)] (.cons rfl (.cons rfl (.cons rfl (.cons rfl (.cons rfl (.cons rfl (.cons rfl (.cons rfl (.cons rfl .nil))))))))) ?_
      refine ends_then ?_
      refine cw_cond rfl (fun h65 => ?_) (fun h65 => ?_)
      ·
        -- region 9
        refine cw_region ?_
        refine lw_v rfl rfl (ok_move rfl (.n rfl) rfl) ?_
        refine lw_v rfl rfl (ok_move rfl (.n rfl) rfl) ?_
        refine lw_v rfl rfl (ok_assign rfl (.n rfl) rfl) ?_
        refine lw_v rfl rfl (ok_assign rfl (.n rfl) rfl) ?_
        refine lw_nil ?_
        refine in_normal (?_)
        refine Ends.keep [(1, .eq _), (2, .eq _), (3, .eq _), (4, .eq _), (11, .eq _), (12, .eq _), (13, .eq _)] (.cons rfl (.cons rfl (.cons rfl (.cons rfl (.cons rfl (.cons rfl (.cons rfl .nil))))))) ?_
        refine ends_then ?_
        -- region 6
        refine cw_region ?_
        refine lw_v rfl rfl (ok_move rfl (.n rfl) rfl) ?_
        refine lw_v rfl rfl (ok_addi rfl (.n rfl) rfl rfl (fun _ => ⟨by omega, by omega⟩)) ?_
        refine lw_v rfl rfl (ok_assign rfl (.n rfl) rfl) ?_
        refine lw_nil ?_
        -- BACK
        refine ends_back3 (a + 1) _ _ (.cons rfl (.cons rfl (.cons rfl (.cons rfl (.cons rfl (.cons rfl (.cons rfl .nil))))))) ⟨⟨by omega, by omega, ?_⟩, hS⟩ (by omega)
        obtain ⟨h65a, h65b⟩ := and_of h65
        exact least_take hlt0 ⟨ha0, hlt, h65a⟩ h65b he1
      ·
        refine cw_skip ?_
        refine in_normal (?_)
        refine ends_then ?_
        -- region 6
        refine cw_region ?_
        refine lw_v rfl rfl (ok_move rfl (.n rfl) rfl) ?_
        refine lw_v rfl rfl (ok_addi rfl (.n rfl) rfl rfl (fun _ => ⟨by omega, by omega⟩)) ?_
        refine lw_v rfl rfl (ok_assign rfl (.n rfl) rfl) ?_
        refine lw_nil ?_
        -- BACK
        refine ends_back3 (a + 1) b m (.cons rfl (.cons rfl (.cons rfl (.cons rfl (.cons rfl (.cons rfl (.cons rfl .nil))))))) ⟨⟨by omega, by omega, ?_⟩, hS⟩ (by omega)
        exact least_pass hlt0 (fun ho => nand_of h65 ⟨ho.1.2.2, ho.2⟩) he1
    ·
      have hae : a = c.First.getD ((v : Int) + 1).toNat 0 := by have := of_decide_eq_false h45; omega
      refine cw_exit ?_
      refine then_exit (then_exit (in_exit (?_)))
      refine Ends.keep [(4, .eq _), (11, .eq _), (12, .eq _)] (.cons rfl (.cons rfl (.cons rfl .nil))) ?_
      refine ends_then ?_
      refine cw_seq ?_
      refine cw_seq ?_
      -- region 10
      refine cw_region ?_
      refine lw_v rfl rfl (ok_move rfl (.n rfl) rfl) ?_
      refine lw_v rfl rfl (ok_fb rfl (.n rfl) Try.underlying29 rfl Try.sizeOf3 (by decide) rfl) ?_
      refine lw_v rfl rfl (ok_ldb rfl (.n rfl) rfl Try.isAgg3 hS (by rfl)) ?_
      refine lw_v rfl rfl (ok_gtr rfl (.n rfl) rfl rfl) ?_
      refine lw_nil ?_
      refine Ends.keep [(11, .eq _), (12, .eq _), (71, .eq _)] (.cons rfl (.cons rfl (.cons rfl .nil))) ?_
      refine ends_then ?_
      refine cw_cond rfl (fun h71 => ?_) (fun h71 => ?_)
      ·
        have h71' := of_decide_eq_true h71
        refine cw_seq ?_
        -- region 11
        refine cw_region ?_
        refine lw_v rfl rfl (ok_assign rfl (.n rfl) rfl) ?_
        refine lw_v rfl rfl (ok_assign rfl (.n rfl) rfl) ?_
        refine lw_v rfl rfl (ok_assign rfl (.n rfl) rfl) ?_
        refine lw_nil ?_
        refine Ends.keep [(8, .eq _), (9, .eq _), (10, .eq _)] (.cons rfl (.cons rfl (.cons rfl .nil))) ?_
        refine ends_then ?_
        refine cw_ret ?_
        refine then_ret (?_)
        exact end_ret (res3 Try.results26 rfl rfl rfl) ⟨_, _, _, rfl, hS.below, least_none hlt0 hm hae h71'⟩
      ·
        have h71' := of_decide_eq_false h71
        refine cw_skip ?_
        refine ends_then ?_
        refine cw_seq ?_
        -- region 12
        refine cw_region ?_
        refine lw_v rfl rfl (ok_move rfl (.n rfl) rfl) ?_
        refine lw_v rfl rfl (ok_move rfl (.n rfl) rfl) ?_
        refine lw_v rfl rfl (ok_assign rfl (.n rfl) rfl) ?_
        refine lw_v rfl rfl (ok_assign rfl (.n rfl) rfl) ?_
        refine lw_v rfl rfl (ok_assign rfl (.n rfl) rfl) ?_
        refine lw_nil ?_
        refine Ends.keep [(8, .eq _), (9, .eq _), (10, .eq _)] (.cons rfl (.cons rfl (.cons rfl .nil))) ?_
        refine ends_then ?_
        refine cw_ret ?_
        exact end_ret (res3 Try.results26 rfl rfl rfl) ⟨_, _, _, rfl, hS.below, least_some hlt0 hm huN hae (by omega)⟩

set_option maxRecDepth 10000 in
/-- acequiaref06.Right. -/
theorem f29 (c : Cs) (q : Q6) (l : List Int) (A : Option Addr) (cc : Nat) (w : World) (hwf : WF c) (hl : (sl (eInt .i64) 1 A l.length cc l).p w) :
    Calls Try.prog 29 #[csV c q, .slice A l.length cc] w fun e w' => e = .returned (.bool (rightB c l)) ∧ Gr w w' := by
  refine calls_cw Try.func29 rfl Try.ntmps29 rfl ?_
  have hS := (St.start w).args (Nat.le_refl _) _ hl rfl
  have hll := hl.2.1
  have hlo := hwf.lo
  have hN := hwf.hi
  have hs := hwf.s
  have ht := hwf.t
  refine cw_seq ?_
  -- region 0
  refine cw_region ?_
  refine lw_box rfl rfl rfl rfl hS ?_
  clear hS; intro b2 w1 _ _ hS
  refine lw_v rfl rfl (ok_assign rfl (.n rfl) rfl) ?_
  refine lw_nil ?_
  refine Ends.keep [(1, .eq _), (2, .eq _)] (.cons rfl (.cons rfl .nil)) ?_
  refine ends_then ?_
  refine cw_seq ?_
  refine cw_seq ?_
  -- region 1
  refine cw_region ?_
  refine lw_v rfl rfl (ok_move rfl (.n rfl) rfl) ?_
  refine lw_v rfl rfl (ok_len rfl (.n rfl) Try.underlying26 rfl) ?_
  refine lw_v rfl rfl (ok_fb rfl (.n rfl) Try.underlying29 rfl Try.sizeOf3 (by decide) rfl) ?_
  refine lw_v rfl rfl (ok_ldb rfl (.n rfl) rfl Try.isAgg3 hS (by rfl)) ?_
  refine lw_v rfl rfl (ok_neq rfl (.n rfl) rfl rfl) ?_
  refine lw_v rfl rfl (ok_move rfl (.n rfl) rfl) ?_
  refine lw_v rfl rfl (ok_fb rfl (.s rfl rfl) Try.underlying29 rfl Try.sizeOf3 (by decide) rfl) ?_
  refine lw_v rfl rfl (ok_ldb rfl (.s rfl rfl) rfl Try.isAgg3 hS (by rfl)) ?_
  refine lw_v rfl rfl (ok_eql rfl (.s rfl rfl) rfl rfl) ?_
  refine lw_v rfl rfl (ok_or rfl rfl rfl rfl) ?_
  refine lw_nil ?_
  refine Ends.keep [(1, .eq _), (2, .eq _), (15, .eq _)] (.cons rfl (.cons rfl (.cons rfl .nil))) ?_
  refine ends_then ?_
  refine cw_cond rfl (fun h15 => ?_) (fun h15 => ?_)
  ·
    have hno : ¬ (l.length : Int) = c.N := fun h => by rw [decide_eq_true h, decide_eq_false (by omega : ¬ (c.N : Int) = 0)] at h15; cases h15
    refine cw_seq ?_
    -- region 2
    refine cw_region ?_
    refine lw_v rfl rfl (ok_assign rfl (.n rfl) rfl) ?_
    refine lw_nil ?_
    refine Ends.keep [(4, .eq _)] (.cons rfl .nil) ?_
    refine ends_then ?_
    refine cw_ret ?_
    refine then_ret (?_)
    exact end_ret (res1 Try.results29 rfl) ⟨by rw [right_no_len hno], hS.below⟩
  ·
    have hlN : (l.length : Int) = c.N := by rw [Bool.or_eq_false_iff] at h15; simpa using h15.1
    refine cw_skip ?_
    refine ends_then ?_
    refine cw_seq ?_
    refine cw_seq ?_
    -- region 3
    refine cw_region ?_
    refine lw_v rfl rfl (ok_assign rfl (.n rfl) rfl) ?_
    refine lw_nil ?_
    refine Ends.keep [(1, .eq _), (2, .eq _), (5, .eq _)] (.cons rfl (.cons rfl (.cons rfl .nil))) ?_
    refine ends_then ?_
    refine cw_block ?_
    -- LOOP at region 4: changed live slots [5], kept [1, 2]
    refine cw_loop [(1, .eq _), (2, .eq _)] (fun k : Nat => [(5, .eq (.int .i64 k))]) (fun k w' => (k ≤ c.N ∧ ∀ i, i < k → wrongB c.N (l.getD i 0) = false) ∧ St w.heap.size w w' [bx b2 (csV c q).cells.toList 29, sl (eInt .i64) 1 A l.length cc l]) (fun k => c.N - k) 0 (.cons rfl (.cons rfl .nil)) (.cons rfl (.cons rfl (.cons rfl .nil))) ⟨⟨Nat.zero_le _, fun i h => absurd h (Nat.not_lt_zero i)⟩, hS⟩ ?_
    clear hS
    rintro k wr ⟨⟨hk, hp⟩, hS⟩
    refine cw_seq ?_
    refine cw_seq ?_
    -- region 4
    refine cw_region ?_
    refine lw_v rfl rfl (ok_move rfl (.n rfl) rfl) ?_
    refine lw_v rfl rfl (ok_fb rfl (.n rfl) Try.underlying29 rfl Try.sizeOf3 (by decide) rfl) ?_
    refine lw_v rfl rfl (ok_ldb rfl (.n rfl) rfl Try.isAgg3 hS (by rfl)) ?_
    refine lw_v rfl rfl (ok_lss rfl (.n rfl) rfl rfl) ?_
    refine lw_nil ?_
    refine Ends.keep [(1, .eq _), (2, .eq _), (5, .eq _), (19, .eq _)] (.cons rfl (.cons rfl (.cons rfl (.cons rfl .nil)))) ?_
    refine ends_then ?_
    refine cw_cond rfl (fun h19 => ?_) (fun h19 => ?_)
    ·
      have hlt := of_decide_eq_true h19
      refine cw_skip ?_
      refine ends_then ?_
      refine cw_seq ?_
      refine cw_block ?_
      refine cw_seq ?_
      -- region 6
      refine cw_draw (by kernel_rfl) (List.take 12 _) (List.drop 12 _) (List.take_append_drop 12 _).symm (by kernel_rfl) ?_
      refine free_v (ok_move rfl (.n rfl) rfl) ?_
      refine free_v (ok_move rfl (.n rfl) rfl) ?_
      refine free_v (ok_ix rfl (.n rfl) Try.underlying26 Try.sizeOf3 rfl rfl hS (fun _ => ⟨by omega, by omega⟩)) ?_
      refine free_v (ok_ldx rfl (.n rfl) rfl Try.isAgg3 hS (fun _ => ⟨by omega, by omega⟩) (by rfl)) ?_
      refine free_v (ok_lss rfl (.n rfl) rfl rfl) ?_
      refine free_v (ok_move rfl (.n rfl) rfl) ?_
      refine free_v (ok_move rfl (.s rfl rfl) rfl) ?_
      refine free_v (ok_move rfl (.s rfl rfl) rfl) ?_
      refine free_v (ok_ix rfl (.s rfl rfl) Try.underlying26 Try.sizeOf3 rfl rfl hS (fun _ => ⟨by omega, by omega⟩)) ?_
      refine free_v (ok_ldx rfl (.s rfl rfl) rfl Try.isAgg3 hS (fun _ => ⟨by omega, by omega⟩) (by rfl)) ?_
      refine free_v (ok_fb rfl (.s rfl rfl) Try.underlying29 rfl Try.sizeOf3 (by decide) rfl) ?_
      refine free_v (ok_ldb rfl (.s rfl rfl) rfl Try.isAgg3 hS (by rfl)) ?_
      refine free_nil ?_
      intro w2 hg_; replace hS := hS.grow hg_; clear hg_
      refine lw_v rfl rfl (ok_gtr rfl (.s rfl rfl) rfl rfl) ?_
      refine lw_v rfl rfl (ok_or rfl rfl rfl rfl) ?_
      refine lw_nil ?_
      refine Ends.keep [(1, .eq _), (2, .eq _), (5, .eq _), (35, .eq _)] (.cons rfl (.cons rfl (.cons rfl (.cons rfl .nil)))) ?_
      refine ends_then ?_
      refine cw_cond rfl (fun h35 => ?_) (fun h35 => ?_)
      ·
        refine cw_seq ?_
        -- region 7
        refine cw_region ?_
        refine lw_v rfl rfl (ok_assign rfl (.n rfl) rfl) ?_
        refine lw_nil ?_
        refine Ends.keep [(4, .eq _)] (.cons rfl .nil) ?_
        refine ends_then ?_
        refine cw_ret ?_
        refine in_ret (then_ret (then_ret (in_ret (then_ret (?_)))))
        exact end_ret (res1 Try.results29 rfl) ⟨by rw [right_no_any (any_yes (k := k) (by omega) h35)], hS.below⟩
      ·
        refine cw_skip ?_
        refine in_normal (?_)
        refine ends_then ?_
        -- region 5
        refine cw_region ?_
        refine lw_v rfl rfl (ok_move rfl (.n rfl) rfl) ?_
        refine lw_v rfl rfl (ok_addi rfl (.n rfl) rfl rfl (fun _ => ⟨by omega, by omega⟩)) ?_
        refine lw_v rfl rfl (ok_assign rfl (.n rfl) rfl) ?_
        refine lw_nil ?_
        -- BACK
        refine ends_back (k + 1) (.cons rfl (.cons rfl (.cons rfl .nil))) ⟨⟨by omega, fun i hi => ?_⟩, hS⟩ (by omega)
        rcases Nat.lt_or_ge i k with h | h
        · exact hp i h
        · have : i = k := by omega
          subst this; exact h35
    ·
      have hkn : k = l.length := by have := of_decide_eq_false h19; omega
      refine cw_exit ?_
      refine then_exit (then_exit (in_exit (?_)))
      refine Ends.keep [(1, .eq _), (2, .eq _)] (.cons rfl (.cons rfl .nil)) ?_
      refine ends_then ?_
      refine cw_seq ?_
      -- region 8
      refine cw_draw (by kernel_rfl) (List.take 14 _) (List.drop 14 _) (List.take_append_drop 14 _).symm (by kernel_rfl) ?_
      refine free_v (ok_move rfl (.n rfl) rfl) ?_
      refine free_v (ok_fb rfl (.n rfl) Try.underlying29 rfl Try.sizeOf3 (by decide) rfl) ?_
      refine free_v (ok_ldb rfl (.n rfl) rfl Try.isAgg3 hS (by rfl)) ?_
      refine free_v (ok_ix rfl (.n rfl) Try.underlying26 Try.sizeOf3 rfl rfl hS (fun _ => ⟨by omega, by omega⟩)) ?_
      refine free_v (ok_ldx rfl (.n rfl) rfl Try.isAgg3 hS (fun _ => ⟨by omega, by omega⟩) (by rfl)) ?_
      refine free_v (ok_eql rfl (.n rfl) rfl rfl) ?_
      refine free_v (ok_move rfl (.n rfl) rfl) ?_
      refine free_v (ok_move rfl (.s rfl rfl) rfl) ?_
      refine free_v (ok_fb rfl (.s rfl rfl) Try.underlying29 rfl Try.sizeOf3 (by decide) rfl) ?_
      refine free_v (ok_ldb rfl (.s rfl rfl) rfl Try.isAgg3 hS (by rfl)) ?_
      refine free_v (ok_ix rfl (.s rfl rfl) Try.underlying26 Try.sizeOf3 rfl rfl hS (fun _ => ⟨by omega, by omega⟩)) ?_
      refine free_v (ok_ldx rfl (.s rfl rfl) rfl Try.isAgg3 hS (fun _ => ⟨by omega, by omega⟩) (by rfl)) ?_
      refine free_v (ok_fb rfl (.s rfl rfl) Try.underlying29 rfl Try.sizeOf3 (by decide) rfl) ?_
      refine free_v (ok_ldb rfl (.s rfl rfl) rfl Try.isAgg3 hS (by rfl)) ?_
      refine free_nil ?_
      intro w3 hg_; replace hS := hS.grow hg_; clear hg_
      refine lw_v rfl rfl (ok_eql rfl (.s rfl rfl) rfl rfl) ?_
      refine lw_v rfl rfl (ok_and rfl rfl rfl rfl) ?_
      refine lw_v rfl rfl (ok_assign rfl (.n rfl) rfl) ?_
      refine lw_nil ?_
      refine Ends.keep [(4, .eq _)] (.cons rfl .nil) ?_
      refine ends_then ?_
      refine cw_ret ?_
      exact end_ret (res1 Try.results29 rfl) ⟨by rw [right_end hlN (by omega) (any_no (by rw [← hkn]; exact hp))]; rfl, hS.below⟩

def fi (c : Cs) : Nat → Nat
  | 0 => 0
  | u + 1 => (c.First.getD (u + 1) 0).toNat
theorem fi_eq {c : Cs} (h : WF c) : ∀ u, fi c u = (c.First.getD u 0).toNat
  | 0 => by rw [h.f0]; rfl
  | u + 1 => rfl
theorem may_no {c : Cs} {res l : List Int} (h : (!decide ((res.length : Int) = c.Head.length) || !rightB c l) = true) : mayB c res l = false := by
  unfold mayB
  rw [← Bool.not_and, Bool.not_eq_true'] at h
  exact h
theorem may_yes {c : Cs} {res l : List Int} (h : (!decide ((res.length : Int) = c.Head.length) || !rightB c l) = false) : mayB c res l = true := by
  unfold mayB
  rw [← Bool.not_and, Bool.not_eq_false'] at h
  exact h
set_option maxRecDepth 10000 in
/-- acequiaref06.by. -/
theorem f75 (c : Cs) (q : Q6) (res l : List Int) (lo hi : Int) (A1 : Option Addr) (c1 : Nat) (A : Option Addr) (cc : Nat) (w : World) (hwf : WF c) (hc : CsAt c q w) (hr : (sl (eInt .i64) 1 A1 res.length c1 res).p w) (hl : (sl (eInt .i64) 1 A l.length cc l).p w) :
    Calls Try.prog 75 #[csV c q, .slice A1 res.length c1, .slice A l.length cc, .int .i64 lo, .int .i64 hi] w fun e w' => ∃ A' c', e = .returned (.slice A' (byL c res l lo hi).length c') ∧ Gr w w' ∧ (∀ b, (own (eInt .i64) 1 3 A' (byL c res l lo hi).length c' (byL c res l lo hi)).fp b → w.heap.size ≤ b) ∧ (own (eInt .i64) 1 3 A' (byL c res l lo hi).length c' (byL c res l lo hi)).p w' := by
  refine calls_cw Try.func75 rfl Try.ntmps75 rfl ?_
  have hS := ((St.ofc hc).args (Nat.le_refl _) _ hl rfl).args (Nat.le_refl _) _ hr rfl
  have hll := hl.2.1
  have hrr := hr.2.1
  refine cw_seq ?_
  -- region 0
  refine cw_region ?_
  refine lw_box rfl rfl rfl rfl hS ?_
  clear hS; intro b5 w1 _ _ hS
  refine lw_v rfl rfl (ok_assign rfl (.n rfl) rfl) ?_
  refine lw_nil ?_
  refine Ends.keep [(1, .eq _), (2, .eq _), (3, .eq _), (4, .eq _), (5, .eq _)] (.cons rfl (.cons rfl (.cons rfl (.cons rfl (.cons rfl .nil))))) ?_
  refine ends_then ?_
  refine cw_seq ?_
  refine cw_seq ?_
  -- region 1
  refine cw_region ?_
  refine lw_v rfl rfl (ok_move rfl (.n rfl) rfl) ?_
  refine lw_v rfl rfl (ok_len rfl (.n rfl) Try.underlying25 rfl) ?_
  refine lw_v rfl rfl (ok_fb rfl (.n rfl) Try.underlying29 rfl Try.sizeOf26 (by decide) rfl) ?_
  refine lw_v rfl rfl (ok_ldb rfl (.n rfl) rfl Try.isAgg26 hS (by rfl)) ?_
  refine lw_v rfl rfl (ok_len rfl (.n rfl) Try.underlying26 rfl) ?_
  refine lw_v rfl rfl (ok_neq rfl (.n rfl) rfl rfl) ?_
  refine lw_v rfl rfl (ok_move rfl (.n rfl) rfl) ?_
  refine lw_v rfl rfl (ok_ldS rfl (.s rfl rfl) rfl Try.isAgg29 Try.sizeOf29 hS rfl) ?_
  refine lw_v rfl rfl (ok_move rfl (.s rfl rfl) rfl) ?_
  refine lw_o rfl rfl (ok_callg (.bool (rightB c l)) rfl (.s rfl rfl) Try.call29 rfl rfl (fun _ w' hg => f29 c q l A cc w' hwf ((hS.grow hg).rd A hll))) ?_
  intro w2 hg_; replace hS := hS.grow hg_; clear hg_
  refine lw_v rfl rfl (ok_not rfl (.s rfl rfl) rfl) ?_
  refine lw_v rfl rfl (ok_or rfl rfl rfl rfl) ?_
  refine lw_nil ?_
  refine Ends.keep [(1, .eq _), (2, .eq _), (3, .eq _), (4, .eq _), (5, .eq _), (26, .eq _)] (.cons rfl (.cons rfl (.cons rfl (.cons rfl (.cons rfl (.cons rfl .nil)))))) ?_
  refine ends_then ?_
  refine cw_cond rfl (fun h26 => ?_) (fun h26 => ?_)
  ·
    have hm : mayB c res l = false := may_no h26
    have e : [] = byL c res l lo hi := by unfold byL; rw [if_neg (by rw [hm]; decide)]
    replace hS := hS.nil (eInt .i64) 1 3
    refine cw_seq ?_
    -- region 2
    refine cw_region ?_
    refine lw_v rfl rfl (ok_assign rfl (.n rfl) rfl) ?_
    refine lw_nil ?_
    refine Ends.keep [(10, .eq _)] (.cons rfl .nil) ?_
    refine ends_then ?_
    refine cw_ret ?_
    refine then_ret (?_)
    exact end_ret (res1 Try.results75 rfl) ⟨none, 0, by rw [← e]; rfl, hS.below, by rw [← e]; exact fun b hb => hS.ge _ (.head _) rfl b hb, by rw [← e]; exact hS.ok _ (.head _)⟩
  ·
    have hm : mayB c res l = true := may_yes h26
    obtain ⟨hrl, hrh⟩ := (may_iff hwf).1 hm
    have hM := hwf.m
    have hN := hwf.hi
    have hfl := hwf.fl
    have hlen := hrh.len
    refine cw_skip ?_
    refine ends_then ?_
    refine cw_seq ?_
    -- region 3
    refine cw_region ?_
    refine lw_v rfl rfl (ok_assign rfl (.n rfl) rfl) ?_
    refine lw_nil ?_
    refine Ends.keep [(1, .eq _), (2, .eq _), (3, .eq _), (4, .eq _), (5, .eq _), (11, .eq _)] (.cons rfl (.cons rfl (.cons rfl (.cons rfl (.cons rfl (.cons rfl .nil)))))) ?_
    refine ends_then ?_
    refine cw_seq ?_
    refine cw_seq ?_
    -- region 4
    refine cw_region ?_
    refine lw_v rfl rfl (ok_assign rfl (.n rfl) rfl) ?_
    refine lw_nil ?_
    refine Ends.keep [(1, .eq _), (2, .eq _), (3, .eq _), (4, .eq _), (5, .eq _), (11, .eq _), (12, .eq _)] (.cons rfl (.cons rfl (.cons rfl (.cons rfl (.cons rfl (.cons rfl (.cons rfl .nil))))))) ?_
    refine ends_then ?_
    refine cw_block ?_
    -- LOOP at region 5: changed live slots [11, 12], kept [1, 2, 3, 4, 5]
    refine cw_loop3 [(1, .eq _), (2, .eq _), (3, .eq _), (4, .eq _), (5, .eq _)] (fun (u : Nat) (A' : Option Addr) (c' : Nat) => [(11, .eq (.slice A' (filt (byP c res l lo hi) (fi c u)).length c')), (12, .eq (.int .i64 u))]) (fun u A' c' w' => u ≤ c.N ∧ St w.heap.size w w' [own (eInt .i64) 1 3 A' (filt (byP c res l lo hi) (fi c u)).length c' (filt (byP c res l lo hi) (fi c u)), bx b5 (csV c q).cells.toList 29, sl (eInt .i64) 1 A1 res.length c1 res, sl (eInt .i64) 1 A l.length cc l, sl (eInt .i64) 1 q.a0 c.First.length q.c0 c.First, sl (eInt .i64) 1 q.a1 c.Head.length q.c1 c.Head, sl (eInt .i64) 1 q.a2 c.Rev.length q.c2 c.Rev, sl (eInt .i64) 1 q.a3 c.Cap.length q.c3 c.Cap, sl (eInt .i64) 1 q.a4 c.Arc.length q.c4 c.Arc, sl eBool 1 q.a5 c.Back.length q.c5 c.Back]) (fun u _ _ => c.N - u) 0 none 0 (.cons rfl (.cons rfl (.cons rfl (.cons rfl (.cons rfl .nil))))) (.cons rfl (.cons rfl (.cons rfl (.cons rfl (.cons rfl (.cons rfl (.cons rfl .nil))))))) ⟨Nat.zero_le _, hS.nil (eInt .i64) 1 3⟩ ?_
    clear hS
    rintro u A' c' wr ⟨hu, hS⟩
    have hfi := fi_eq hwf u
    refine cw_seq ?_
    refine cw_seq ?_
    -- region 5
    refine cw_region ?_
    refine lw_v rfl rfl (ok_move rfl (.n rfl) rfl) ?_
    refine lw_v rfl rfl (ok_fb rfl (.n rfl) Try.underlying29 rfl Try.sizeOf3 (by decide) rfl) ?_
    refine lw_v rfl rfl (ok_ldb rfl (.n rfl) rfl Try.isAgg3 hS (by rfl)) ?_
    refine lw_v rfl rfl (ok_lss rfl (.n rfl) rfl rfl) ?_
    refine lw_nil ?_
    refine Ends.keep [(1, .eq _), (2, .eq _), (3, .eq _), (4, .eq _), (5, .eq _), (11, .eq _), (12, .eq _), (30, .eq _)] (.cons rfl (.cons rfl (.cons rfl (.cons rfl (.cons rfl (.cons rfl (.cons rfl (.cons rfl .nil)))))))) ?_
    refine ends_then ?_
    refine cw_cond rfl (fun h30 => ?_) (fun h30 => ?_)
    ·
      have hlt := of_decide_eq_true h30
      have huN : u < c.N := by omega
      obtain ⟨hf0, hf1, hf2⟩ := seg_rng hwf huN
      refine cw_skip ?_
      refine ends_then ?_
      refine cw_seq ?_
      refine cw_block ?_
      refine cw_seq ?_
      -- region 7
      refine cw_region ?_
      refine lw_v rfl rfl (ok_fb rfl (.n rfl) Try.underlying29 rfl Try.sizeOf26 (by decide) rfl) ?_
      refine lw_v rfl rfl (ok_ldb rfl (.n rfl) rfl Try.isAgg26 hS (by rfl)) ?_
      refine lw_v rfl rfl (ok_move rfl (.n rfl) rfl) ?_
      refine lw_v rfl rfl (ok_ix rfl (.n rfl) Try.underlying26 Try.sizeOf3 rfl rfl hS (fun _ => ⟨by omega, by omega⟩)) ?_
      refine lw_v rfl rfl (ok_eq (ok_ldx rfl (.n rfl) rfl Try.isAgg3 hS (fun _ => ⟨by omega, by omega⟩) (by rfl)) (c' := .int .i64 (((fi c u) : Nat) : Int)) (fun _ => congrArg (Value.int .i64) (by show c.First.getD u 0 = _; omega))) ?_
      refine lw_v rfl rfl (ok_assign rfl (.n rfl) rfl) ?_
      refine lw_nil ?_
      refine Ends.keep [(1, .eq _), (2, .eq _), (3, .eq _), (4, .eq _), (5, .eq _), (11, .eq _), (12, .eq _), (13, .eq _)] (.cons rfl (.cons rfl (.cons rfl (.cons rfl (.cons rfl (.cons rfl (.cons rfl (.cons rfl .nil)))))))) ?_
      refine ends_then ?_
      refine cw_block ?_
      -- LOOP at region 8: changed live slots [11, 13], kept [1, 2, 3, 4, 5, 12]
      refine cw_loop3 [(1, .eq _), (2, .eq _), (3, .eq _), (4, .eq _), (5, .eq _), (12, .eq _)] (fun (a : Nat) (A' : Option Addr) (c' : Nat) => [(11, .eq (.slice A' (filt (byP c res l lo hi) a).length c')), (13, .eq (.int .i64 a))]) (fun a A' c' w' => (c.First.getD u 0 ≤ a ∧ a ≤ c.First.getD (u + 1) 0) ∧ St w.heap.size w w' [own (eInt .i64) 1 3 A' (filt (byP c res l lo hi) a).length c' (filt (byP c res l lo hi) a), bx b5 (csV c q).cells.toList 29, sl (eInt .i64) 1 A1 res.length c1 res, sl (eInt .i64) 1 A l.length cc l, sl (eInt .i64) 1 q.a0 c.First.length q.c0 c.First, sl (eInt .i64) 1 q.a1 c.Head.length q.c1 c.Head, sl (eInt .i64) 1 q.a2 c.Rev.length q.c2 c.Rev, sl (eInt .i64) 1 q.a3 c.Cap.length q.c3 c.Cap, sl (eInt .i64) 1 q.a4 c.Arc.length q.c4 c.Arc, sl eBool 1 q.a5 c.Back.length q.c5 c.Back]) (fun a _ _ => (c.First.getD (u + 1) 0 - a).toNat) (fi c u) A' c' (.cons rfl (.cons rfl (.cons rfl (.cons rfl (.cons rfl (.cons rfl .nil)))))) (.cons rfl (.cons rfl (.cons rfl (.cons rfl (.cons rfl (.cons rfl (.cons rfl (.cons rfl .nil)))))))) ⟨⟨by omega, by omega⟩, hS⟩ ?_
      clear hS
      rintro a A' c' wr ⟨⟨ha0, ha1⟩, hS⟩
      have hfl' : (filt (byP c res l lo hi) a).length ≤ a := filt_len (byP c res l lo hi) a
      have hfs := filt_succ (byP c res l lo hi) a
      refine cw_seq ?_
      refine cw_seq ?_
      -- region 8
      refine cw_region ?_
      refine lw_v rfl rfl (ok_move rfl (.n rfl) rfl) ?_
      refine lw_v rfl rfl (ok_fb rfl (.n rfl) Try.underlying29 rfl Try.sizeOf26 (by decide) rfl) ?_
      refine lw_v rfl rfl (ok_ldb rfl (.n rfl) rfl Try.isAgg26 hS (by rfl)) ?_
      refine lw_v rfl rfl (ok_move rfl (.n rfl) rfl) ?_
      refine lw_v rfl rfl (ok_addi rfl (.n rfl) rfl rfl (fun _ => ⟨by omega, by omega⟩)) ?_
      refine lw_v rfl rfl (ok_ix rfl (.n rfl) Try.underlying26 Try.sizeOf3 rfl rfl hS (fun _ => ⟨by omega, by omega⟩)) ?_
      refine lw_v rfl rfl (ok_ldx rfl (.n rfl) rfl Try.isAgg3 hS (fun _ => ⟨by omega, by omega⟩) (by rfl)) ?_
      refine lw_v rfl rfl (ok_lss rfl (.n rfl) rfl rfl) ?_
      refine lw_nil ?_
      refine Ends.keep [(1, .eq _), (2, .eq _), (3, .eq _), (4, .eq _), (5, .eq _), (11, .eq _), (12, .eq _), (13, .eq _), (45, .eq _)] (.cons rfl (.cons rfl (.cons rfl (.cons rfl (.cons rfl (.cons rfl (.cons rfl (.cons rfl (.cons rfl .nil))))))))) ?_
      refine ends_then ?_
      refine cw_cond rfl (fun h45 => ?_) (fun h45 => ?_)
      ·
        have hla : (a : Int) < c.First.getD (u + 1) 0 := of_decide_eq_true h45
        obtain ⟨⟨hd0, hd1⟩, he0, he1⟩ := end_rng hwf hrh (a := a) (by omega) (by omega)
        have eE : l.getD (c.Head.getD (a : Int).toNat 0).toNat 0 = endH c l a := rfl
        rw [← eE] at he0 he1
        have hur := hrh.rng u huN
        have eU : l.getD (u : Int).toNat 0 = l.getD u 0 := rfl
        rw [← eU] at hur
        have htl := tail_eq hwf huN ha0 hla
        refine cw_skip ?_
        refine ends_then ?_
        refine cw_seq ?_
        refine cw_block ?_
        refine cw_seq ?_
        -- region 10
        refine cw_draw (by kernel_rfl) (List.take 12 _) (List.drop 12 _) (List.take_append_drop 12 _).symm (by kernel_rfl) ?_
        refine free_v (ok_move rfl (.n rfl) rfl) ?_
        refine free_v (ok_move rfl (.n rfl) rfl) ?_
        refine free_v (ok_ix rfl (.n rfl) Try.underlying26 Try.sizeOf3 rfl rfl hS (fun _ => ⟨by omega, by omega⟩)) ?_
        refine free_v (ok_ldx rfl (.n rfl) rfl Try.isAgg3 hS (fun _ => ⟨by omega, by omega⟩) (by rfl)) ?_
        refine free_v (ok_move rfl (.n rfl) rfl) ?_
        refine free_v (ok_fb rfl (.n rfl) Try.underlying29 rfl Try.sizeOf26 (by decide) rfl) ?_
        refine free_v (ok_ldb rfl (.n rfl) rfl Try.isAgg26 hS (by rfl)) ?_
        refine free_v (ok_move rfl (.n rfl) rfl) ?_
        refine free_v (ok_ix rfl (.n rfl) Try.underlying26 Try.sizeOf3 rfl rfl hS (fun _ => ⟨by omega, by omega⟩)) ?_
        refine free_v (ok_ldx rfl (.n rfl) rfl Try.isAgg3 hS (fun _ => ⟨by omega, by omega⟩) (by rfl)) ?_
        refine free_v (ok_ix rfl (.n rfl) Try.underlying26 Try.sizeOf3 rfl rfl hS (fun _ => ⟨by omega, by omega⟩)) ?_
        refine free_v (ok_ldx rfl (.n rfl) rfl Try.isAgg3 hS (fun _ => ⟨by omega, by omega⟩) (by rfl)) ?_
        refine free_nil ?_
        intro w3 hg_; replace hS := hS.grow hg_; clear hg_
        refine lw_v rfl rfl (ok_subi rfl (.n rfl) rfl rfl (fun _ => ⟨by omega, by omega⟩)) ?_
        refine lw_v rfl rfl (ok_assign rfl (.n rfl) rfl) ?_
        refine lw_nil ?_
        refine Ends.keep [(1, .eq _), (2, .eq _), (3, .eq _), (4, .eq _), (5, .eq _), (11, .eq _), (12, .eq _), (13, .eq _), (14, .eq _)] (.cons rfl (.cons rfl (.cons rfl (.cons rfl (.cons rfl (.cons rfl (.cons rfl (.cons rfl (.cons rfl .nil))))))))) ?_
        refine ends_then ?_
        refine cw_seq ?_
        -- region 11
        refine cw_region ?_
        refine lw_v rfl rfl (ok_move rfl (.n rfl) rfl) ?_
        refine lw_v rfl rfl (ok_fb rfl (.n rfl) Try.underlying29 rfl Try.sizeOf3 (by decide) rfl) ?_
        refine lw_v rfl rfl (ok_ldb rfl (.n rfl) rfl Try.isAgg3 hS (by rfl)) ?_
        refine lw_v rfl rfl (ok_neq rfl (.n rfl) rfl rfl) ?_
        refine lw_v rfl rfl (ok_move rfl (.n rfl) rfl) ?_
        refine lw_v rfl rfl (ok_move rfl (.s rfl rfl) rfl) ?_
        refine lw_v rfl rfl (ok_move rfl (.s rfl rfl) rfl) ?_
        refine lw_v rfl rfl (ok_ix rfl (.s rfl rfl) Try.underlying25 Try.sizeOf2 rfl rfl hS (fun _ => ⟨by omega, by omega⟩)) ?_
        refine lw_v rfl rfl (ok_ldx rfl (.s rfl rfl) rfl Try.isAgg2 hS (fun _ => ⟨by omega, by omega⟩) (by rfl)) ?_
        refine lw_v rfl rfl (ok_gtr rfl (.s rfl rfl) rfl rfl) ?_
        refine lw_v rfl rfl (ok_and rfl rfl rfl rfl) ?_
        refine lw_v rfl rfl (ok_move rfl (.n rfl) rfl) ?_
        refine lw_v rfl rfl (ok_move rfl (.s rfl rfl) rfl) ?_
        refine lw_v rfl rfl (ok_move rfl (.s rfl rfl) rfl) ?_
        refine lw_v rfl rfl (ok_geq rfl (.s rfl rfl) rfl rfl) ?_
        refine lw_v rfl rfl (ok_and rfl rfl rfl rfl) ?_
        refine lw_v rfl rfl (ok_move rfl (.n rfl) rfl) ?_
        refine lw_v rfl rfl (ok_move rfl (.s rfl rfl) rfl) ?_
        refine lw_v rfl rfl (ok_move rfl (.s rfl rfl) rfl) ?_
        refine lw_v rfl rfl (ok_leq rfl (.s rfl rfl) rfl rfl) ?_
        refine lw_v rfl rfl (ok_and rfl rfl rfl rfl) ?_
        refine lw_nil ?_
        refine Ends.keep [(1, .eq _), (2, .eq _), (3, .eq _), (4, .eq _), (5, .eq _), (11, .eq _), (12, .eq _), (13, .eq _), (81, .eq _)] (.cons rfl (.cons rfl (.cons rfl (.cons rfl (.cons rfl (.cons rfl (.cons rfl (.cons rfl (.cons rfl .nil))))))))) ?_
        refine ends_then ?_
        refine cw_cond rfl (fun h81 => ?_) (fun h81 => ?_)
        ·
          -- region 12
          refine cw_region ?_
          refine lw_v rfl rfl (ok_move rfl (.n rfl) rfl) ?_
          refine lw_v rfl rfl (ok_move rfl (.n rfl) rfl) ?_
          refine lw_ls (enc := (eInt .i64)) [(a : Int)] rfl rfl rfl Try.underlying26 Try.sizeOf3 Try.zeroValue3 rfl (by kernel_rfl) rfl (by decide) (by decide) hS ?_
          clear hS; intro A84 c84 w4 _ hS
          refine lw_append (enc := (eInt .i64)) rfl rfl rfl Try.underlying26 info3 rfl rfl rfl hS (by decide) (by omega) (by omega) ?_
          intro A85 c85 w5 hS1; replace hS := hS1 _ (Rep.r); clear hS1
          refine lw_v rfl rfl (ok_assign rfl (.n rfl) rfl) ?_
          refine lw_nil ?_
          refine in_normal (?_)
          refine Ends.keep [(1, .eq _), (2, .eq _), (3, .eq _), (4, .eq _), (5, .eq _), (11, .eq _), (12, .eq _), (13, .eq _)] (.cons rfl (.cons rfl (.cons rfl (.cons rfl (.cons rfl (.cons rfl (.cons rfl (.cons rfl .nil)))))))) ?_
          refine ends_then ?_
          -- region 9
          refine cw_region ?_
          refine lw_v rfl rfl (ok_move rfl (.n rfl) rfl) ?_
          refine lw_v rfl rfl (ok_addi rfl (.n rfl) rfl rfl (fun _ => ⟨by omega, by omega⟩)) ?_
          refine lw_v rfl rfl (ok_assign rfl (.n rfl) rfl) ?_
          refine lw_nil ?_
          -- BACK
          have hp : byP c res l lo hi a = true := by unfold byP; rw [htl]; exact h81
          rw [if_pos hp] at hfs
          change _ = filt _ _ ++ _ at hfs
          change filt _ _ = _ at hfs
          rw [← hfs] at hS ⊢
          exact ends_back3 (a + 1) A85 c85 (.cons rfl (.cons rfl (.cons rfl (.cons rfl (.cons rfl (.cons rfl (.cons rfl (.cons rfl .nil)))))))) ⟨⟨by omega, by omega⟩, hS.tail⟩ (by omega)
        ·
          refine cw_skip ?_
          refine in_normal (?_)
          refine ends_then ?_
          -- region 9
          refine cw_region ?_
          refine lw_v rfl rfl (ok_move rfl (.n rfl) rfl) ?_
          refine lw_v rfl rfl (ok_addi rfl (.n rfl) rfl rfl (fun _ => ⟨by omega, by omega⟩)) ?_
          refine lw_v rfl rfl (ok_assign rfl (.n rfl) rfl) ?_
          refine lw_nil ?_
          -- BACK
          have hp : byP c res l lo hi a = false := by unfold byP; rw [htl]; exact h81
          rw [if_neg (by rw [hp]; decide), List.append_nil] at hfs
          change filt _ _ = filt _ _ at hfs
          rw [← hfs] at hS ⊢
          exact ends_back3 (a + 1) A' c' (.cons rfl (.cons rfl (.cons rfl (.cons rfl (.cons rfl (.cons rfl (.cons rfl (.cons rfl .nil)))))))) ⟨⟨by omega, by omega⟩, hS⟩ (by omega)
      ·
        have hla : ¬ (a : Int) < c.First.getD (u + 1) 0 := of_decide_eq_false h45
        have hfe : fi c (u + 1) = (c.First.getD (u + 1) 0).toNat := rfl
        have hae : a = fi c (u + 1) := by omega
        refine cw_exit ?_
        refine then_exit (then_exit (in_exit (?_)))
        refine in_normal (?_)
        refine Ends.keep [(1, .eq _), (2, .eq _), (3, .eq _), (4, .eq _), (5, .eq _), (11, .eq _), (12, .eq _)] (.cons rfl (.cons rfl (.cons rfl (.cons rfl (.cons rfl (.cons rfl (.cons rfl .nil))))))) ?_
        refine ends_then ?_
        -- region 6
        refine cw_region ?_
        refine lw_v rfl rfl (ok_move rfl (.n rfl) rfl) ?_
        refine lw_v rfl rfl (ok_addi rfl (.n rfl) rfl rfl (fun _ => ⟨by omega, by omega⟩)) ?_
        refine lw_v rfl rfl (ok_assign rfl (.n rfl) rfl) ?_
        refine lw_nil ?_
        -- BACK
        rw [hae] at hS ⊢
        exact ends_back3 (u + 1) A' c' (.cons rfl (.cons rfl (.cons rfl (.cons rfl (.cons rfl (.cons rfl (.cons rfl .nil))))))) ⟨by omega, hS⟩ (by omega)
    ·
      have hkn : u = c.N := by have := of_decide_eq_false h30; omega
      subst hkn
      have e : (filt (byP c res l lo hi) (fi c c.N)) = byL c res l lo hi := by unfold byL; rw [if_pos hm, hfi, hwf.fN]; rfl
      refine cw_exit ?_
      refine then_exit (then_exit (in_exit (?_)))
      refine Ends.keep [(11, .eq _)] (.cons rfl .nil) ?_
      refine ends_then ?_
      refine cw_seq ?_
      -- region 13
      refine cw_region ?_
      refine lw_v rfl rfl (ok_move rfl (.n rfl) rfl) ?_
      refine lw_v rfl rfl (ok_assign rfl (.n rfl) rfl) ?_
      refine lw_nil ?_
      refine Ends.keep [(10, .eq _)] (.cons rfl .nil) ?_
      refine ends_then ?_
      refine cw_ret ?_
      rw [e] at hS ⊢
      exact end_ret (res1 Try.results75 rfl) ⟨A', c', rfl, hS.below, fun b hb => hS.ge _ (.head _) rfl b hb, hS.ok _ (.head _)⟩

set_option maxRecDepth 10000 in
/-- acequiaref06.Steep. -/
theorem f32 (c : Cs) (q : Q6) (res l : List Int) (A1 : Option Addr) (c1 : Nat) (A : Option Addr) (cc : Nat) (w : World) (hwf : WF c) (hc : CsAt c q w) (hr : (sl (eInt .i64) 1 A1 res.length c1 res).p w) (hl : (sl (eInt .i64) 1 A l.length cc l).p w) :
    Calls Try.prog 32 #[csV c q, .slice A1 res.length c1, .slice A l.length cc] w fun e w' => ∃ A' c', e = .returned (.slice A' (steepL c res l).length c') ∧ Gr w w' ∧ (∀ b, (own (eInt .i64) 1 3 A' (steepL c res l).length c' (steepL c res l)).fp b → w.heap.size ≤ b) ∧ (own (eInt .i64) 1 3 A' (steepL c res l).length c' (steepL c res l)).p w' := by
  refine calls_cw Try.func32 rfl Try.ntmps32 rfl ?_
  have hS := ((St.ofc hc).args (Nat.le_refl _) _ hl rfl).args (Nat.le_refl _) _ hr rfl
  have hll := hl.2.1
  have hrr := hr.2.1
  refine cw_seq ?_
  -- region 0
  refine cw_region ?_
  refine lw_box rfl rfl rfl rfl hS ?_
  clear hS; intro b3 w1 _ _ hS
  refine lw_v rfl rfl (ok_assign rfl (.n rfl) rfl) ?_
  refine lw_nil ?_
  refine Ends.keep [(1, .eq _), (2, .eq _), (3, .eq _)] (.cons rfl (.cons rfl (.cons rfl .nil))) ?_
  refine ends_then ?_
  refine cw_seq ?_
  -- region 1
  refine cw_region ?_
  refine lw_v rfl rfl (ok_ldS rfl (.n rfl) rfl Try.isAgg29 Try.sizeOf29 hS rfl) ?_
  refine lw_v rfl rfl (ok_move rfl (.n rfl) rfl) ?_
  refine lw_v rfl rfl (ok_move rfl (.n rfl) rfl) ?_
  refine lw_v rfl rfl (ok_fb rfl (.n rfl) Try.underlying29 rfl Try.sizeOf3 (by decide) rfl) ?_
  refine lw_v rfl rfl (ok_ldb rfl (.n rfl) rfl Try.isAgg3 hS (by rfl)) ?_
  refine lw_call (f := 75) (xs := [_, _, _, _, _]) rfl rfl rfl Try.call75 rfl (Calls.mono (f75 c q res l 2 c.N A1 c1 A cc _ hwf (hS.cs q) (hS.rd A1 hrr) (hS.rd A hll)) ?_)
  rintro e w' ⟨A', c', rfl, hg, hfr, ho⟩
  have hfr' := fun b hb => Nat.le_trans hS.base (hfr b hb)
  replace hS := hS.grow hg; clear hg
  refine ⟨_, rfl, ?_⟩
  refine lw_v rfl rfl (ok_assign rfl (.n rfl) rfl) ?_
  refine lw_nil ?_
  refine Ends.keep [(6, .eq _)] (.cons rfl .nil) ?_
  refine ends_then ?_
  refine cw_ret ?_
  have e : byL c res l 2 c.N = steepL c res l := by_down hwf fun k hk => by rw [Bool.eq_iff_iff, Bool.and_eq_true, decide_eq_true_eq, decide_eq_true_eq, decide_eq_true_eq]; omega
  rw [e] at hfr' ho ⊢
  exact end_ret (res1 Try.results32 rfl) ⟨A', c', rfl, hS.below, hfr', ho⟩

set_option maxRecDepth 10000 in
/-- acequiaref06.Flat. -/
theorem f34 (c : Cs) (q : Q6) (res l : List Int) (A1 : Option Addr) (c1 : Nat) (A : Option Addr) (cc : Nat) (w : World) (hwf : WF c) (hc : CsAt c q w) (hr : (sl (eInt .i64) 1 A1 res.length c1 res).p w) (hl : (sl (eInt .i64) 1 A l.length cc l).p w) :
    Calls Try.prog 34 #[csV c q, .slice A1 res.length c1, .slice A l.length cc] w fun e w' => ∃ A' c', e = .returned (.slice A' (flatL c res l).length c') ∧ Gr w w' ∧ (∀ b, (own (eInt .i64) 1 3 A' (flatL c res l).length c' (flatL c res l)).fp b → w.heap.size ≤ b) ∧ (own (eInt .i64) 1 3 A' (flatL c res l).length c' (flatL c res l)).p w' := by
  refine calls_cw Try.func34 rfl Try.ntmps34 rfl ?_
  have hS := ((St.ofc hc).args (Nat.le_refl _) _ hl rfl).args (Nat.le_refl _) _ hr rfl
  have hll := hl.2.1
  have hrr := hr.2.1
  refine cw_seq ?_
  -- region 0
  refine cw_region ?_
  refine lw_box rfl rfl rfl rfl hS ?_
  clear hS; intro b3 w1 _ _ hS
  refine lw_v rfl rfl (ok_assign rfl (.n rfl) rfl) ?_
  refine lw_nil ?_
  refine Ends.keep [(1, .eq _), (2, .eq _), (3, .eq _)] (.cons rfl (.cons rfl (.cons rfl .nil))) ?_
  refine ends_then ?_
  refine cw_seq ?_
  -- region 1
  refine cw_region ?_
  refine lw_v rfl rfl (ok_ldS rfl (.n rfl) rfl Try.isAgg29 Try.sizeOf29 hS rfl) ?_
  refine lw_v rfl rfl (ok_move rfl (.n rfl) rfl) ?_
  refine lw_v rfl rfl (ok_move rfl (.n rfl) rfl) ?_
  refine lw_call (f := 75) (xs := [_, _, _, _, _]) rfl rfl rfl Try.call75 rfl (Calls.mono (f75 c q res l 1 1 A1 c1 A cc _ hwf (hS.cs q) (hS.rd A1 hrr) (hS.rd A hll)) ?_)
  rintro e w' ⟨A', c', rfl, hg, hfr, ho⟩
  have hfr' := fun b hb => Nat.le_trans hS.base (hfr b hb)
  replace hS := hS.grow hg; clear hg
  refine ⟨_, rfl, ?_⟩
  refine lw_v rfl rfl (ok_assign rfl (.n rfl) rfl) ?_
  refine lw_nil ?_
  refine Ends.keep [(6, .eq _)] (.cons rfl .nil) ?_
  refine ends_then ?_
  refine cw_ret ?_
  have e : byL c res l 1 1 = flatL c res l := by_down hwf fun k hk => by rw [Bool.eq_iff_iff, Bool.and_eq_true, decide_eq_true_eq, decide_eq_true_eq, decide_eq_true_eq]; omega
  rw [e] at hfr' ho ⊢
  exact end_ret (res1 Try.results34 rfl) ⟨A', c', rfl, hS.below, hfr', ho⟩

set_option maxRecDepth 10000 in
/-- acequiaref06.Valid. -/
theorem f36 (c : Cs) (q : Q6) (res l : List Int) (A1 : Option Addr) (c1 : Nat) (A : Option Addr) (cc : Nat) (w : World) (hwf : WF c) (hc : CsAt c q w) (hr : (sl (eInt .i64) 1 A1 res.length c1 res).p w) (hl : (sl (eInt .i64) 1 A l.length cc l).p w) :
    Calls Try.prog 36 #[csV c q, .slice A1 res.length c1, .slice A l.length cc] w fun e w' => e = .returned (.bool (validB c res l)) ∧ Gr w w' := by
  cases hm : mayB c res l with
  | true =>
    refine calls_cw Try.func36 rfl Try.ntmps36 rfl ?_
    have hS := ((St.ofc hc).args (Nat.le_refl _) _ hl rfl).args (Nat.le_refl _) _ hr rfl
    have hll := hl.2.1
    have hrr := hr.2.1
    refine cw_seq ?_
    -- region 0
    refine cw_region ?_
    refine lw_box rfl rfl rfl rfl hS ?_
    clear hS; intro b3 w1 _ _ hS
    refine lw_v rfl rfl (ok_assign rfl (.n rfl) rfl) ?_
    refine lw_nil ?_
    refine Ends.keep [(1, .eq _), (2, .eq _), (3, .eq _)] (.cons rfl (.cons rfl (.cons rfl .nil))) ?_
    refine ends_then ?_
    refine cw_seq ?_
    -- region 1
    refine cw_region ?_
    refine lw_v rfl rfl (ok_move rfl (.n rfl) rfl) ?_
    refine lw_v rfl rfl (ok_len rfl (.n rfl) Try.underlying25 rfl) ?_
    refine lw_v rfl rfl (ok_fb rfl (.n rfl) Try.underlying29 rfl Try.sizeOf26 (by decide) rfl) ?_
    refine lw_v rfl rfl (ok_ldb rfl (.n rfl) rfl Try.isAgg26 hS (by rfl)) ?_
    refine lw_v rfl rfl (ok_len rfl (.n rfl) Try.underlying26 rfl) ?_
    refine lw_v rfl rfl (ok_eql rfl (.n rfl) rfl rfl) ?_
    refine lw_v rfl rfl (ok_move rfl (.n rfl) rfl) ?_
    refine lw_v rfl rfl (ok_ldS rfl (.s rfl rfl) rfl Try.isAgg29 Try.sizeOf29 hS rfl) ?_
    refine lw_v rfl rfl (ok_move rfl (.s rfl rfl) rfl) ?_
    refine lw_o rfl rfl (ok_callg (.bool (rightB c l)) rfl (.s rfl rfl) Try.call29 rfl rfl (fun _ w' hg => f29 c q l A cc w' hwf ((hS.grow hg).rd A hll))) ?_
    intro w2 hg_; replace hS := hS.grow hg_; clear hg_
    refine lw_v rfl rfl (ok_eq (g := none) (ok_and rfl rfl rfl rfl) (c' := .bool true) (fun _ => congrArg Value.bool hm)) ?_
    refine lw_v rfl rfl (ok_move rfl (.n rfl) rfl) ?_
    refine lw_on (.s rfl rfl) rfl ?_
    refine lw_v rfl rfl (ok_ldS rfl (.n rfl) rfl Try.isAgg29 Try.sizeOf29 hS rfl) ?_
    refine lw_on (.s rfl rfl) rfl ?_
    refine lw_v rfl rfl (ok_move rfl (.n rfl) rfl) ?_
    refine lw_on (.s rfl rfl) rfl ?_
    refine lw_v rfl rfl (ok_move rfl (.n rfl) rfl) ?_
    refine lw_on (.s rfl rfl) rfl ?_
    refine lw_call (f := 32) (xs := [_, _, _]) rfl rfl rfl Try.call32 rfl (Calls.mono (f32 c q res l A1 c1 A cc _ hwf (hS.cs q) (hS.rd A1 hrr) (hS.rd A hll)) ?_)
    rintro e w' ⟨A', c', rfl, hg, hfr, ho⟩
    replace hS := hS.grow hg; clear hg
    refine ⟨_, rfl, ?_⟩
    refine lw_on (.s rfl rfl) rfl ?_
    refine lw_v rfl rfl (ok_len rfl (.n rfl) Try.underlying26 rfl) ?_
    refine lw_on (.s rfl rfl) rfl ?_
    refine lw_v rfl rfl (ok_eql rfl (.n rfl) rfl rfl) ?_
    refine lw_v rfl rfl (ok_pick rfl rfl rfl rfl rfl) ?_
    refine lw_v rfl rfl (ok_assign rfl (.n rfl) rfl) ?_
    refine lw_nil ?_
    refine Ends.keep [(6, .eq _)] (.cons rfl .nil) ?_
    refine ends_then ?_
    refine cw_ret ?_
    exact end_ret (res1 Try.results36 rfl) ⟨by unfold validB; rw [hm]; rfl, hS.below⟩
  | false =>
    refine calls_cw Try.func36 rfl Try.ntmps36 rfl ?_
    have hS := ((St.ofc hc).args (Nat.le_refl _) _ hl rfl).args (Nat.le_refl _) _ hr rfl
    have hll := hl.2.1
    have hrr := hr.2.1
    refine cw_seq ?_
    -- region 0
    refine cw_region ?_
    refine lw_box rfl rfl rfl rfl hS ?_
    clear hS; intro b3 w1 _ _ hS
    refine lw_v rfl rfl (ok_assign rfl (.n rfl) rfl) ?_
    refine lw_nil ?_
    refine Ends.keep [(1, .eq _), (2, .eq _), (3, .eq _)] (.cons rfl (.cons rfl (.cons rfl .nil))) ?_
    refine ends_then ?_
    refine cw_seq ?_
    -- region 1
    refine cw_region ?_
    refine lw_v rfl rfl (ok_move rfl (.n rfl) rfl) ?_
    refine lw_v rfl rfl (ok_len rfl (.n rfl) Try.underlying25 rfl) ?_
    refine lw_v rfl rfl (ok_fb rfl (.n rfl) Try.underlying29 rfl Try.sizeOf26 (by decide) rfl) ?_
    refine lw_v rfl rfl (ok_ldb rfl (.n rfl) rfl Try.isAgg26 hS (by rfl)) ?_
    refine lw_v rfl rfl (ok_len rfl (.n rfl) Try.underlying26 rfl) ?_
    refine lw_v rfl rfl (ok_eql rfl (.n rfl) rfl rfl) ?_
    refine lw_v rfl rfl (ok_move rfl (.n rfl) rfl) ?_
    refine lw_v rfl rfl (ok_ldS rfl (.s rfl rfl) rfl Try.isAgg29 Try.sizeOf29 hS rfl) ?_
    refine lw_v rfl rfl (ok_move rfl (.s rfl rfl) rfl) ?_
    refine lw_o rfl rfl (ok_callg (.bool (rightB c l)) rfl (.s rfl rfl) Try.call29 rfl rfl (fun _ w' hg => f29 c q l A cc w' hwf ((hS.grow hg).rd A hll))) ?_
    intro w2 hg_; replace hS := hS.grow hg_; clear hg_
    refine lw_v rfl rfl (ok_eq (g := none) (ok_and rfl rfl rfl rfl) (c' := .bool false) (fun _ => congrArg Value.bool hm)) ?_
    refine lw_v rfl rfl (ok_move rfl (.n rfl) rfl) ?_
    refine lw_off rfl (.s rfl rfl) rfl rfl ?_
    refine lw_off rfl (.s rfl rfl) rfl rfl ?_
    refine lw_off rfl (.s rfl rfl) rfl rfl ?_
    refine lw_off rfl (.s rfl rfl) rfl rfl ?_
    refine lw_off rfl (.s rfl rfl) rfl rfl ?_
    refine lw_off rfl (.s rfl rfl) rfl rfl ?_
    refine lw_v rfl rfl (ok_pick rfl rfl rfl rfl rfl) ?_
    refine lw_v rfl rfl (ok_assign rfl (.n rfl) rfl) ?_
    refine lw_nil ?_
    refine Ends.keep [(6, .eq _)] (.cons rfl .nil) ?_
    refine ends_then ?_
    refine cw_ret ?_
    exact end_ret (res1 Try.results36 rfl) ⟨by unfold validB; rw [hm]; rfl, hS.below⟩


theorem sum_end {c : Cs} {l : List Int} {k : Nat} {s : Int} (hk : k ≤ l.length) (hs : s = sumTo l k) (hkr : 0 < k → rightB c l = true) (h : (decide ((k : Int) < l.length) && rightB c l) = false) : s = sumB c l := by
  unfold sumB
  cases hr : rightB c l with
  | true =>
    rw [hr, Bool.and_true, decide_eq_false_iff_not] at h
    rw [if_pos rfl, hs]
    congr 1
    omega
  | false =>
    rw [if_neg (by decide), hs]
    rcases Nat.eq_zero_or_pos k with rfl | hp
    · rfl
    · have := hkr hp; rw [hr] at this; cases this
set_option maxRecDepth 10000 in
/-- acequiaref06.Sum. -/
theorem f38 (c : Cs) (q : Q6) (l : List Int) (A : Option Addr) (cc : Nat) (w : World) (hwf : WF c) (hl : (sl (eInt .i64) 1 A l.length cc l).p w) :
    Calls Try.prog 38 #[csV c q, .slice A l.length cc] w fun e w' => e = .returned (.int .i64 (sumB c l)) ∧ Gr w w' := by
  refine calls_cw Try.func38 rfl Try.ntmps38 rfl ?_
  have hS := (St.start w).args (Nat.le_refl _) _ hl rfl
  have hll := hl.2.1
  have hN := hwf.hi
  refine cw_seq ?_
  -- region 0
  refine cw_region ?_
  refine lw_box rfl rfl rfl rfl hS ?_
  clear hS; intro b2 w1 _ _ hS
  refine lw_v rfl rfl (ok_assign rfl (.n rfl) rfl) ?_
  refine lw_nil ?_
  refine Ends.keep [(1, .eq _), (2, .eq _)] (.cons rfl (.cons rfl .nil)) ?_
  refine ends_then ?_
  refine cw_seq ?_
  -- region 1
  refine cw_region ?_
  refine lw_v rfl rfl (ok_assign rfl (.n rfl) rfl) ?_
  refine lw_nil ?_
  refine Ends.keep [(1, .eq _), (2, .eq _), (5, .eq _)] (.cons rfl (.cons rfl (.cons rfl .nil))) ?_
  refine ends_then ?_
  refine cw_seq ?_
  refine cw_seq ?_
  -- region 2
  refine cw_region ?_
  refine lw_v rfl rfl (ok_assign rfl (.n rfl) rfl) ?_
  refine lw_nil ?_
  refine Ends.keep [(1, .eq _), (2, .eq _), (5, .eq _), (6, .eq _)] (.cons rfl (.cons rfl (.cons rfl (.cons rfl .nil)))) ?_
  refine ends_then ?_
  refine cw_block ?_
  -- LOOP at region 3: changed live slots [5, 6], kept [1, 2]
  refine cw_loop2 [(1, .eq _), (2, .eq _)] (fun (k : Nat) (s : Int) => [(5, .eq (.int .i64 s)), (6, .eq (.int .i64 k))]) (fun k s w' => (k ≤ l.length ∧ s = sumTo l k ∧ (0 < k → rightB c l = true)) ∧ St w.heap.size w w' [bx b2 (csV c q).cells.toList 29, sl (eInt .i64) 1 A l.length cc l]) (fun k _ => l.length - k) 0 0 (.cons rfl (.cons rfl .nil)) (.cons rfl (.cons rfl (.cons rfl (.cons rfl .nil)))) ⟨⟨Nat.zero_le _, rfl, fun h => absurd h (Nat.lt_irrefl _)⟩, hS⟩ ?_
  clear hS
  rintro k s wr ⟨⟨hk, hs, hkr⟩, hS⟩
  refine cw_seq ?_
  refine cw_seq ?_
  -- region 3
  refine cw_region ?_
  refine lw_v rfl rfl (ok_move rfl (.n rfl) rfl) ?_
  refine lw_v rfl rfl (ok_move rfl (.n rfl) rfl) ?_
  refine lw_v rfl rfl (ok_len rfl (.n rfl) Try.underlying26 rfl) ?_
  refine lw_v rfl rfl (ok_lss rfl (.n rfl) rfl rfl) ?_
  refine lw_v rfl rfl (ok_move rfl (.n rfl) rfl) ?_
  refine lw_v rfl rfl (ok_ldS rfl (.s rfl rfl) rfl Try.isAgg29 Try.sizeOf29 hS rfl) ?_
  refine lw_v rfl rfl (ok_move rfl (.s rfl rfl) rfl) ?_
  refine lw_o rfl rfl (ok_callg (.bool (rightB c l)) rfl (.s rfl rfl) Try.call29 rfl rfl (fun _ w' hg => f29 c q l A cc w' hwf ((hS.grow hg).rd A hll))) ?_
  intro w2 hg_; replace hS := hS.grow hg_; clear hg_
  refine lw_v rfl rfl (ok_and rfl rfl rfl rfl) ?_
  refine lw_nil ?_
  refine Ends.keep [(1, .eq _), (2, .eq _), (5, .eq _), (6, .eq _), (15, .eq _)] (.cons rfl (.cons rfl (.cons rfl (.cons rfl (.cons rfl .nil))))) ?_
  refine ends_then ?_
  refine cw_cond rfl (fun h15 => ?_) (fun h15 => ?_)
  ·
    obtain ⟨hlt, hm⟩ : (k : Int) < l.length ∧ rightB c l = true := by rwa [Bool.and_eq_true, decide_eq_true_eq] at h15
    have hrh := (right_iff hwf).1 hm
    have hlen := hrh.len
    have hxr := hrh.rng k (by omega)
    have eK : l.getD (k : Int).toNat 0 = l.getD k 0 := rfl
    rw [← eK] at hxr
    have hsr := sumTo_rng hrh k (by omega)
    have hmul : (c.N : Int) * k ≤ 16 * 16 := by
      have : c.N * k ≤ 16 * 16 := Nat.mul_le_mul (by omega) (by omega)
      omega
    refine cw_skip ?_
    refine ends_then ?_
    refine cw_seq ?_
    refine cw_block ?_
    -- region 5
    refine cw_region ?_
    refine lw_v rfl rfl (ok_move rfl (.n rfl) rfl) ?_
    refine lw_v rfl rfl (ok_move rfl (.n rfl) rfl) ?_
    refine lw_v rfl rfl (ok_move rfl (.n rfl) rfl) ?_
    refine lw_v rfl rfl (ok_ix rfl (.n rfl) Try.underlying26 Try.sizeOf3 rfl rfl hS (fun _ => ⟨by omega, by omega⟩)) ?_
    refine lw_v rfl rfl (ok_ldx rfl (.n rfl) rfl Try.isAgg3 hS (fun _ => ⟨by omega, by omega⟩) (by rfl)) ?_
    refine lw_v rfl rfl (ok_addi rfl (.n rfl) rfl rfl (fun _ => ⟨by omega, by omega⟩)) ?_
    refine lw_v rfl rfl (ok_assign rfl (.n rfl) rfl) ?_
    refine lw_nil ?_
    refine in_normal (?_)
    refine Ends.keep [(1, .eq _), (2, .eq _), (5, .eq _), (6, .eq _)] (.cons rfl (.cons rfl (.cons rfl (.cons rfl .nil)))) ?_
    refine ends_then ?_
    -- region 4
    refine cw_region ?_
    refine lw_v rfl rfl (ok_move rfl (.n rfl) rfl) ?_
    refine lw_v rfl rfl (ok_addi rfl (.n rfl) rfl rfl (fun _ => ⟨by omega, by omega⟩)) ?_
    refine lw_v rfl rfl (ok_assign rfl (.n rfl) rfl) ?_
    refine lw_nil ?_
    -- BACK
    refine ends_back2 (k + 1) _ (.cons rfl (.cons rfl (.cons rfl (.cons rfl .nil)))) ⟨⟨by omega, ?_, fun _ => hm⟩, hS⟩ (by omega)
    rw [hs]; rfl
  ·
    refine cw_exit ?_
    refine then_exit (then_exit (in_exit (?_)))
    refine Ends.keep [(5, .eq _)] (.cons rfl .nil) ?_
    refine ends_then ?_
    refine cw_seq ?_
    -- region 6
    refine cw_region ?_
    refine lw_v rfl rfl (ok_move rfl (.n rfl) rfl) ?_
    refine lw_v rfl rfl (ok_assign rfl (.n rfl) rfl) ?_
    refine lw_nil ?_
    refine Ends.keep [(4, .eq _)] (.cons rfl .nil) ?_
    refine ends_then ?_
    refine cw_ret ?_
    exact end_ret (res1 Try.results38 rfl) ⟨by rw [sum_end hk hs hkr h15], hS.below⟩

end Go.Proofs.Ytnpgeohkmdcbkaa.Aq

namespace Go.Proofs.Ytnpgeohkmdcbkaa.Aq

theorem heightsF_right {c : Cs} (hw : WF c) (l : List Int) : RightH c (heightsF c l) := by
  have hs := hw.s
  have ht := hw.t
  have hne := hw.ne
  have get : ∀ v, v < c.N → (heightsF c l).getD v 0 = if v = c.S then (c.N : Int) else if v = c.T then 0 else (heightsTo c.N l c.N).getD v 0 := fun v hv => by
    unfold heightsF
    rw [Int.toNat_natCast, Int.toNat_natCast]
    simp only [List.getD_eq_getElem?_getD, List.getElem?_set, List.length_set]
    have hlen : (heightsTo c.N l c.N).length = c.N := by simp [heightsTo]
    rw [hlen]
    by_cases h1 : c.S = v
    · subst h1; simp [hs]
    · rw [if_neg h1, if_neg (Ne.symm h1)]
      by_cases h2 : c.T = v
      · subst h2; simp [ht]
      · rw [if_neg h2, if_neg (Ne.symm h2)]
  refine ⟨heightsF_len c l, fun v hv => ?_, ?_, ?_⟩
  · rw [get v hv]
    split
    · omega
    · split
      · omega
      · have : (heightsTo c.N l c.N).getD v 0 = if v < c.N ∧ v < l.length then among (l.getD v 0) (c.N + 1) else 0 := by
          simp [heightsTo, List.getD_eq_getElem?_getD, hv]
        rw [this]
        split
        · unfold among
          have h1 := Int.emod_nonneg (l.getD v 0) (by omega : (c.N : Int) + 1 ≠ 0)
          have h2 := Int.emod_lt_of_pos (l.getD v 0) (by omega : (0 : Int) < (c.N : Int) + 1)
          omega
        · omega
  · rw [get _ ht, if_neg (Ne.symm hne), if_pos rfl]
  · rw [get _ hs, if_pos rfl]

theorem filt_mem {p : Nat → Bool} {M : Nat} {x : Int} : x ∈ filt p M ↔ ∃ a : Nat, a < M ∧ p a = true ∧ x = a := by
  unfold filt
  simp only [List.mem_map, List.mem_filter, List.mem_range]
  constructor
  · rintro ⟨a, ⟨h1, h2⟩, rfl⟩; exact ⟨a, h1, h2, rfl⟩
  · rintro ⟨a, h1, h2, rfl⟩; exact ⟨a, ⟨h1, h2⟩, rfl⟩
theorem filt_zero (p : Nat → Bool) : filt p 0 = [] := rfl
theorem filt_succ' (p : Nat → Bool) (k : Nat) : filt p (k + 1) = filt p k ++ (if p k = true then [(k : Int)] else []) := filt_succ p k
theorem filt_count (p : Nat → Bool) (a : Nat) : ∀ M, (filt p M).count (a : Int) = if a < M ∧ p a = true then 1 else 0
  | 0 => by simp [filt_zero]
  | M + 1 => by
    rw [filt_succ', List.count_append, filt_count p a M]
    by_cases h : a = M
    · subst h
      cases hp : p a <;> simp
    · by_cases h1 : a < M
      · have h2 : a < M + 1 := by omega
        cases hp : p M <;> simp [h1, h2, List.count_cons] <;> omega
      · have h2 : ¬ a < M + 1 := by omega
        cases hp : p M <;> simp [h1, h2, List.count_cons] <;> omega
theorem downL_may {c : Cs} {res h : List Int} {p : Int → Bool} (hm : mayB c res h = true) : downL c res h p = filt (downP c res h p) c.Head.length := by
  unfold downL
  rw [if_pos hm]
  rfl
theorem downL_rng {c : Cs} {res h : List Int} {p : Int → Bool} {x : Int} (hx : x ∈ downL c res h p) : 0 ≤ x ∧ x < c.Head.length := by
  by_cases hm : mayB c res h = true
  · rw [downL_may hm] at hx
    obtain ⟨a, h1, _, rfl⟩ := filt_mem.1 hx
    omega
  · unfold downL at hx
    rw [if_neg hm] at hx
    cases hx
end Go.Proofs.Ytnpgeohkmdcbkaa.Aq

namespace Go.Proofs.Ytnpgeohkmdcbkaa.Aq

/-- The heights with one of another height. -/
theorem up_get {h : List Int} {u : Nat} {z : Int} (hu : u < h.length) (v : Nat) : (h.set u z).getD v 0 = if v = u then z else h.getD v 0 := by
  simp only [List.getD_eq_getElem?_getD, List.getElem?_set]
  by_cases h1 : u = v
  · subst h1; simp [hu]
  · simp [h1, Ne.symm h1]
theorem up_right {c : Cs} {h : List Int} (hr : RightH c h) {u : Nat} {z : Int} (hu : u < c.N) (hs : u ≠ c.S) (ht : u ≠ c.T) (h0 : 0 ≤ z) (h1 : z ≤ c.N) : RightH c (h.set u z) := by
  have hl := hr.len
  refine ⟨by rw [List.length_set]; exact hl, fun v hv => ?_, ?_, ?_⟩
  · rw [up_get (by omega)]
    split
    · exact ⟨h0, h1⟩
    · exact hr.rng v hv
  · rw [up_get (by omega), if_neg (Ne.symm ht)]; exact hr.t
  · rw [up_get (by omega), if_neg (Ne.symm hs)]; exact hr.s
theorem least_in {ok : Bool} {u s t : Int} (h : ((!ok || decide (u = s)) || decide (u = t)) = false) : ok = true ∧ u ≠ s ∧ u ≠ t := by
  rw [Bool.or_eq_false_iff, Bool.or_eq_false_iff, decide_eq_false_iff_not, decide_eq_false_iff_not] at h
  exact ⟨by simpa using h.1.1, h.1.2, h.2⟩
theorem least_open {c : Cs} {res h : List Int} {u b l : Int} (hL : LeastR c res h u b l true) : Opn c res u.toNat b ∧ l = endH c h b ∧ ∀ a, Opn c res u.toNat a → l ≤ endH c h a := by
  rcases hL with ⟨_, _, _, _, h1, h2, h3, _⟩ | ⟨h9, _⟩
  · exact ⟨h1, h2, h3⟩
  · cases h9
/-- An arc does not end where it begins. -/
theorem no_loop {c : Cs} (hw : WF c) {x : Nat} (hx : x < c.Head.length) : (c.Head.getD x 0).toNat ≠ tailOf c x := by
  obtain ⟨h1, h2, h3⟩ := tail_at hw hx
  have h4 := hw.hd x hx
  have h5 := (hw.tl (tailOf c x) x h1 hx h2 h3).2.2.2
  omega
theorem raise_mine {c : Cs} (hw : WF c) {res h : List Int} (hr : RightH c h) {u x : Nat} {z : Int} (hx : x < c.Head.length) (ht : tailOf c x = u) (hle : 0 < res.getD x 0 → z ≤ endH c h x + 1) : downP c res (h.set u z) (fun k => decide (1 < k)) x = false := by
  obtain ⟨h1, _⟩ := tail_at hw hx
  have h4 := no_loop hw hx
  have hl := hr.len
  unfold downP
  rw [up_get (by omega), up_get (by omega), if_pos ht, if_neg (by omega)]
  by_cases h0 : 0 < res.getD x 0
  · have := hle h0
    unfold endH at this
    rw [Int.toNat_natCast] at this
    have e : (fun k : Int => decide (1 < k)) (z - h.getD (c.Head.getD x 0).toNat 0) = false := decide_eq_false (by omega)
    rw [e]
    simp
  · rw [decide_eq_false h0]; simp
theorem raise_other {c : Cs} {res h : List Int} {u x : Nat} {z : Int} {p : Int → Bool} (hu : u < h.length) (ht : tailOf c x ≠ u) (hh : (c.Head.getD x 0).toNat ≠ u) : downP c res (h.set u z) p x = downP c res h p x := by
  unfold downP
  rw [up_get hu, up_get hu, if_neg ht, if_neg hh]
theorem raise_end {c : Cs} {res h : List Int} {u x : Nat} {z : Int} (hu : u < h.length) (ht : tailOf c x ≠ u) (hh : (c.Head.getD x 0).toNat = u) (hz : h.getD u 0 ≤ z) (hd : downP c res (h.set u z) (fun k => decide (1 < k)) x = true) : downP c res h (fun k => decide (1 < k)) x = true := by
  unfold downP at hd ⊢
  rw [up_get hu, up_get hu, if_neg ht, if_pos hh] at hd
  simp only [Bool.and_eq_true, decide_eq_true_eq] at hd ⊢
  rw [hh]
  exact ⟨hd.1, by omega⟩
theorem mem_down {c : Cs} {res h : List Int} {p : Int → Bool} (hm : mayB c res h = true) {k : Nat} (hk : k < c.Head.length) : (k : Int) ∈ downL c res h p ↔ downP c res h p k = true := by
  rw [downL_may hm, filt_mem]
  constructor
  · rintro ⟨a, _, h2, h3⟩
    have : a = k := by omega
    subst this; exact h2
  · intro h1; exact ⟨k, hk, h1, rfl⟩
theorem may_up {c : Cs} (hw : WF c) {res h : List Int} (hm : mayB c res h = true) {u : Nat} {z : Int} (hu : u < c.N) (hs : u ≠ c.S) (ht : u ≠ c.T) (h0 : 0 ≤ z) (h1 : z ≤ c.N) : mayB c res (h.set u z) = true := by
  obtain ⟨h2, h3⟩ := (may_iff hw).1 hm
  exact (may_iff hw).2 ⟨h2, up_right h3 hu hs ht h0 h1⟩
/-- The three ways that it fails. -/
theorem raise_dead1 {c : Cs} (hw : WF c) {res h : List Int} (hm : mayB c res h = true) {u k : Nat} {z m0 f2 : Int} (hu : u < c.N) (hs : u ≠ c.S) (ht : u ≠ c.T) (h0 : 0 ≤ z) (h1 : z ≤ c.N) (hz : z ≤ m0 + 1) (hall : ∀ a, Opn c res u a → m0 ≤ endH c h a)
    (hk : k < c.Head.length) (hf2 : f2 = if (k : Int) ∈ steepL c res (h.set u z) then (1 : Int) else 0)
    (hb : ((decide (c.First.getD u 0 ≤ (k : Int)) && decide ((k : Int) < c.First.getD (u + 1) 0)) && decide (f2 = 1)) = true) : False := by
  rw [Bool.and_eq_true, Bool.and_eq_true, decide_eq_true_eq, decide_eq_true_eq, decide_eq_true_eq] at hb
  obtain ⟨⟨h2, h3⟩, h4⟩ := hb
  have h5 := raise_mine hw ((may_iff hw).1 hm).2 (z := z) hk (tail_eq hw hu h2 h3) (u := u) (res := res) fun h6 => by
    have := hall k ⟨h2, h3, by simpa using h6⟩
    omega
  rw [hf2] at h4
  split at h4
  · rename_i h6
    rw [steepL, mem_down (may_up hw hm hu hs ht h0 h1) hk, h5] at h6
    cases h6
  · omega
theorem not_mine {c : Cs} (hw : WF c) {u k : Nat} (hk : k < c.Head.length) (h : (!(decide (c.First.getD u 0 ≤ (k : Int)) && decide ((k : Int) < c.First.getD (u + 1) 0))) = true) : tailOf c k ≠ u := fun e => by
  obtain ⟨_, h2, h3⟩ := tail_at hw hk
  rw [e] at h2 h3
  rw [decide_eq_true h2, decide_eq_true h3] at h
  cases h
theorem raise_dead2 {c : Cs} (hw : WF c) {res h : List Int} (hm : mayB c res h = true) {u k : Nat} {z f f2 : Int} (hu : u < c.N) (hs : u ≠ c.S) (ht : u ≠ c.T) (h0 : 0 ≤ z) (h1 : z ≤ c.N)
    (hk : k < c.Head.length) (hf : f = if (k : Int) ∈ steepL c res h then (1 : Int) else 0) (hf2 : f2 = if (k : Int) ∈ steepL c res (h.set u z) then (1 : Int) else 0)
    (hb : ((!(decide (c.First.getD u 0 ≤ (k : Int)) && decide ((k : Int) < c.First.getD (u + 1) 0)) && !decide (c.Head.getD k 0 = (u : Int))) && !decide (f = f2)) = true) : False := by
  rw [Bool.and_eq_true, Bool.and_eq_true, Bool.not_eq_true', Bool.not_eq_true' (b := decide (f = f2)), decide_eq_false_iff_not] at hb
  obtain ⟨⟨h2, h3⟩, h4⟩ := hb
  rw [Bool.not_eq_true', decide_eq_false_iff_not] at h3
  have hhd := hw.hd k hk
  have hl := ((may_iff hw).1 hm).2.len
  have h5 := raise_other (c := c) (res := res) (h := h) (u := u) (x := k) (z := z) (p := fun k => decide (1 < k)) (by omega) (not_mine hw hk (by rw [h2]; rfl)) (by omega)
  apply h4
  rw [hf, hf2]
  unfold steepL
  simp only [mem_down (may_up hw hm hu hs ht h0 h1) hk, mem_down hm hk, h5]
theorem raise_dead3 {c : Cs} (hw : WF c) {res h : List Int} (hm : mayB c res h = true) {u k : Nat} {z f f2 : Int} (hu : u < c.N) (hs : u ≠ c.S) (ht : u ≠ c.T) (h0 : 0 ≤ z) (h1 : z ≤ c.N)
    (hk : k < c.Head.length) (hf : f = if (k : Int) ∈ steepL c res h then (1 : Int) else 0) (hf2 : f2 = if (k : Int) ∈ steepL c res (h.set u z) then (1 : Int) else 0)
    (hb : ((((!(decide (c.First.getD u 0 ≤ (k : Int)) && decide ((k : Int) < c.First.getD (u + 1) 0)) && decide (c.Head.getD k 0 = (u : Int))) && decide (h.getD u 0 ≤ (h.set u z).getD u 0)) && decide (f2 = 1)) && decide (f = 0)) = true) : False := by
  simp only [Bool.and_eq_true, decide_eq_true_eq] at hb
  obtain ⟨⟨⟨⟨h2, h3⟩, h4⟩, h5⟩, h6⟩ := hb
  have hl := ((may_iff hw).1 hm).2.len
  rw [up_get (by omega), if_pos rfl] at h4
  rw [hf2] at h5
  rw [hf] at h6
  split at h5
  · rename_i h7
    rw [steepL, mem_down (may_up hw hm hu hs ht h0 h1) hk] at h7
    have h8 := raise_end (by omega) (not_mine hw hk h2) (by omega) h4 h7
    rw [steepL, if_pos ((mem_down hm hk).2 h8)] at h6
    omega
  · omega
/-- It has a flat arc. -/
theorem raise_flat {c : Cs} (hw : WF c) {res h : List Int} (hm : mayB c res h = true) {u : Nat} {m0 b : Int} (hu : u < c.N) (hs : u ≠ c.S) (ht : u ≠ c.T) (hop : Opn c res u b) (hme : m0 = endH c h b) (hlt : ¬ (c.N : Int) < m0 + 1) (h0 : 0 ≤ m0) :
    (flatL c res (h.set u (m0 + 1))).any (fun x => decide (c.First.getD u 0 ≤ x) && decide (x < c.First.getD (u + 1) 0)) = true := by
  obtain ⟨h1, h2, h3⟩ := hop
  have hf := seg_rng hw hu
  obtain ⟨k, rfl⟩ : ∃ k : Nat, b = k := ⟨b.toNat, by omega⟩
  have hk : k < c.Head.length := by omega
  have htl := tail_eq hw hu h1 h2
  have hl := ((may_iff hw).1 hm).2.len
  have hnl := no_loop hw hk
  rw [List.any_eq_true]
  refine ⟨(k : Int), ?_, by rw [decide_eq_true h1, decide_eq_true h2]; rfl⟩
  rw [flatL, mem_down (may_up hw hm hu hs ht (by omega) (by omega)) hk]
  unfold downP
  rw [up_get (by omega), up_get (by omega), htl, if_pos rfl, if_neg (by omega)]
  have h4 : m0 = h.getD (c.Head.getD k 0).toNat 0 := hme
  rw [decide_eq_false (by omega), decide_eq_true (by simpa using h3), show ((fun k : Int => decide (k = 1)) (m0 + 1 - h.getD (c.Head.getD k 0).toNat 0)) = true from decide_eq_true (by omega)]
  rfl
theorem any_step {xs : List Int} {p : Int → Bool} {fl : Bool} {j : Nat} (h : fl = (xs.take j).any p) (hj : j < xs.length) : (fl || p (xs.getD (j : Int).toNat 0)) = (xs.take (j + 1)).any p := by
  have e : xs.getD (j : Int).toNat 0 = xs[j] := by simp [List.getD_eq_getElem?_getD, hj]
  rw [e, List.take_succ_eq_append_getElem hj, List.any_append, h]
  simp
theorem mem_step {xs : List Int} {f : Int → Int} {j : Nat} (hf : ∀ x, f x = if x ∈ xs.take j then (1 : Int) else 0) (hj : j < xs.length) : ∀ x, (fun x => if x = xs.getD (j : Int).toNat 0 then 1 else f x) x = if x ∈ xs.take (j + 1) then (1 : Int) else 0 := fun x => by
  have e : xs.getD (j : Int).toNat 0 = xs[j] := by simp [List.getD_eq_getElem?_getD, hj]
  rw [e, List.take_succ_eq_append_getElem hj]
  show (if x = xs[j] then 1 else f x) = _
  by_cases h : x = xs[j]
  · rw [if_pos h, if_pos (List.mem_append_right _ (List.mem_singleton.2 h))]
  · rw [if_neg h, hf]
    have e2 : (x ∈ xs.take j ++ [xs[j]]) = (x ∈ xs.take j) := propext ⟨fun hm => (List.mem_append.1 hm).elim id fun hm => absurd (List.mem_singleton.1 hm) h, fun hm => List.mem_append_left _ hm⟩
    simp only [e2]
end Go.Proofs.Ytnpgeohkmdcbkaa.Aq

namespace Go.Proofs.Ytnpgeohkmdcbkaa.Aq
open Go Go.RowKit

/-- A call that answers v, and leaves old memory as it lies. -/
def RetV (f : FuncId) (args : List Value) (w : World) (v : Value) : Prop := Calls Try.prog f args.toArray w fun e w' => e = .returned v ∧ Gr w w'
/-- A call that answers a new list of numbers. -/
def RetL (f : FuncId) (args : List Value) (w : World) (xs : List Int) : Prop :=
  Calls Try.prog f args.toArray w fun e w' => ∃ A c, e = .returned (.slice A xs.length c) ∧ Gr w w' ∧ (∀ b, (own (eInt .i64) 1 3 A xs.length c xs).fp b → w.heap.size ≤ b) ∧ (own (eInt .i64) 1 3 A xs.length c xs).p w'

/-- A vertex out of a number. -/
theorem modN (x : Int) (h0 : 0 ≤ x) (N : Nat) (hN : 0 < N) : ∃ u : Nat, x.tmod (N : Int) = (u : Int) ∧ u < N := by
  have h1 := Int.tmod_eq_emod_of_nonneg (b := (N : Int)) h0
  have h2 := Int.emod_nonneg x (by omega : (N : Int) ≠ 0)
  have h3 := Int.emod_lt_of_pos x (by omega : (0 : Int) < (N : Int))
  exact ⟨(x.tmod (N : Int)).toNat, by omega, by omega⟩
section
variable (c : Cs) (q : Q6) (res l : List Int) {m1 m2 : Nat} (A1 : Option Addr) (c1 : Nat) (A : Option Addr) (cc : Nat) (w : World)
theorem f31g (hwf : WF c) (hc : CsAt c q w) (hr : (sl (eInt .i64) 1 A1 m1 c1 res).p w) (hl : (sl (eInt .i64) 1 A m2 cc l).p w) : RetL 31 [csV c q, .slice A1 m1 c1, .slice A m2 cc] w (steepL c res l) := by
  have e1 := hr.1.1; have e2 := hl.1.1; subst e1; subst e2; exact f31 c q res l A1 c1 A cc w hwf hc hr hl
theorem f33g (hwf : WF c) (hc : CsAt c q w) (hr : (sl (eInt .i64) 1 A1 m1 c1 res).p w) (hl : (sl (eInt .i64) 1 A m2 cc l).p w) : RetL 33 [csV c q, .slice A1 m1 c1, .slice A m2 cc] w (flatL c res l) := by
  have e1 := hr.1.1; have e2 := hl.1.1; subst e1; subst e2; exact f33 c q res l A1 c1 A cc w hwf hc hr hl
theorem f35g (hwf : WF c) (hc : CsAt c q w) (hr : (sl (eInt .i64) 1 A1 m1 c1 res).p w) (hl : (sl (eInt .i64) 1 A m2 cc l).p w) : RetV 35 [csV c q, .slice A1 m1 c1, .slice A m2 cc] w (.bool (validB c res l)) := by
  have e1 := hr.1.1; have e2 := hl.1.1; subst e1; subst e2; exact f35 c q res l A1 c1 A cc w hwf hc hr hl
theorem f28g (hwf : WF c) (hl : (sl (eInt .i64) 1 A m2 cc l).p w) : RetV 28 [csV c q, .slice A m2 cc] w (.bool (rightB c l)) := by
  have e2 := hl.1.1; subst e2; exact f28 c q l A cc w hwf hl
theorem f37g (hwf : WF c) (hl : (sl (eInt .i64) 1 A m2 cc l).p w) : RetV 37 [csV c q, .slice A m2 cc] w (.int .i64 (sumB c l)) := by
  have e2 := hl.1.1; subst e2; exact f37 c q l A cc w hwf hl
theorem f26g (u : Int) (hwf : WF c) (hc : CsAt c q w) (hr : (sl (eInt .i64) 1 A1 m1 c1 res).p w) (hl : (sl (eInt .i64) 1 A m2 cc l).p w) :
    Calls Try.prog 26 #[csV c q, .slice A1 m1 c1, .slice A m2 cc, .int .i64 u] w fun e w' => ∃ b m ok, e = .returned (.tuple #[.int .i64 b, .int .i64 m, .bool ok]) ∧ Gr w w' ∧ LeastR c res l u b m ok := by
  have e1 := hr.1.1; have e2 := hl.1.1; subst e1; subst e2; exact f26 c q res l u A1 c1 A cc w hwf hc hr hl
theorem f30g (ys xs : List Int) (hr : (sl (eInt .i64) 1 A1 m1 c1 xs).p w) (hl : (sl (eInt .i64) 1 A m2 cc ys).p w) : RetV 30 [.slice A1 m1 c1, .slice A m2 cc] w (.bool (decide (xs = ys))) := by
  have e1 := hr.1.1; have e2 := hl.1.1; subst e1; subst e2; exact f30 A1 c1 xs A cc ys w hr hl
end
theorem f24a (n : Nt) (A : Option Addr) (c : Nat) (w : World) (ha : (sl eArc 3 A n.arcs.length c n.arcs).p w) (hrg : (-9223372036854775808 ≤ n.N ∧ n.N ≤ 9223372036854775807) ∧ (-9223372036854775808 ≤ n.S ∧ n.S ≤ 9223372036854775807) ∧ (-9223372036854775808 ≤ n.T ∧ n.T ≤ 9223372036854775807) ∧
      ∀ a ∈ n.arcs, -9223372036854775808 ≤ a.1 ∧ a.1 ≤ 9223372036854775807 ∧ -9223372036854775808 ≤ a.2.1 ∧ a.2.1 ≤ 9223372036854775807 ∧ -9223372036854775808 ≤ a.2.2 ∧ a.2.2 ≤ 9223372036854775807) :
    Calls Try.prog 24 #[netV n A c, .int .i64 16, .int .i64 40] w fun e w' => ∃ n' A' c', NetOk n' ∧ e = .returned (netV n' A' c') ∧ Gr w w' ∧ (∀ b, (own eArc 3 82 A' n'.arcs.length c' n'.arcs).fp b → w.heap.size ≤ b) ∧ (own eArc 3 82 A' n'.arcs.length c' n'.arcs).p w' :=
  (f24 n A c w ha hrg).mono fun _ _ ⟨A', c', h⟩ => ⟨someN n, A', c', someN_ok n, h⟩
theorem f23a (n : Nt) (A : Option Addr) (c : Nat) (l : List Int) (A1 : Option Addr) (c1 : Nat) (w : World) (hok : NetOk n) (ha : (sl eArc 3 A n.arcs.length c n.arcs).p w) (hl : (sl (eInt .i64) 1 A1 l.length c1 l).p w) (hll : l.length ≤ 140737488351232) (hrng : ∀ x ∈ l, -9223372036854775808 ≤ x ∧ x ≤ 9223372036854775807) :
    Calls Try.prog 23 #[netV n A c, .slice A1 l.length c1] w fun e w' => ∃ C R q A6 c6, (WF C ∧ ResOk C R) ∧ e = .returned (.tuple #[csV C q, .slice A6 R.length c6]) ∧ Gr w w' ∧ CsNew C q w.heap.size ∧ CsAt C q w' ∧ (∀ b, (own (eInt .i64) 1 2 A6 R.length c6 R).fp b → w.heap.size ≤ b) ∧ CsApart C q (own (eInt .i64) 1 2 A6 R.length c6 R).fp ∧ (own (eInt .i64) 1 2 A6 R.length c6 R).p w' :=
  (f23 n A c l A1 c1 w hok ha hl hll hrng).mono fun _ _ ⟨q, A6, c6, h⟩ => ⟨makeF n, resL n l, q, A6, c6, ⟨makeF_wf hok, resL_ok hok l⟩, h⟩
theorem f25a (c : Cs) (q : Q6) (l : List Int) {m : Nat} (A1 : Option Addr) (c1 : Nat) (w : World) (hwf : WF c) (hl : (sl (eInt .i64) 1 A1 m c1 l).p w) (hrng : ∀ x ∈ l, -9223372036854775808 ≤ x ∧ x ≤ 9223372036854775807) :
    Calls Try.prog 25 #[csV c q, .slice A1 m c1] w fun e w' => ∃ H A9 c9, RightH c H ∧ e = .returned (.slice A9 H.length c9) ∧ Gr w w' ∧ (∀ b, (own (eInt .i64) 1 3 A9 H.length c9 H).fp b → w.heap.size ≤ b) ∧ (own (eInt .i64) 1 3 A9 H.length c9 H).p w' := by
  have e1 := hl.1.1; subst e1; exact (f25' c q l A1 c1 w hwf hl hrng).mono fun _ _ ⟨A9, c9, h⟩ => ⟨heightsF c l, A9, c9, heightsF_right hwf l, h⟩
end Go.Proofs.Ytnpgeohkmdcbkaa.Aq
