/- The walks of csr.Len and csr.Tail, and of what they call. -/
import Derived.Test.YtnpgeohkmdcbkaaEng11
import Derived.Test.YtnpgeohkmdcbkaaPlain2
namespace Go.Proofs.Ytnpgeohkmdcbkaa.Aq
open Go Go.RowKit

set_option maxRecDepth 10000 in
/-- csr.Len. -/
theorem f77 (c : Cs) (q : Q6) (w : World) : Calls Try.prog 77 #[csV c q] w fun e w' => e = .returned (.int .i64 c.Head.length) ∧ Gr w w' := by
  refine calls_cw Try.func77 rfl Try.ntmps77 rfl ?_
  have hS := St.start w
  refine cw_seq ?_
  -- region 0
  refine cw_region ?_
  refine lw_box rfl rfl rfl rfl hS ?_
  clear hS; intro b1 w1 _ _ hS
  refine lw_v rfl rfl (ok_assign rfl (.n rfl) rfl) ?_
  refine lw_nil ?_
  refine Ends.keep [(1, .eq _)] (.cons rfl .nil) ?_
  refine ends_then ?_
  refine cw_seq ?_
  -- region 1
  refine cw_region ?_
  refine lw_v rfl rfl (ok_fb rfl (.n rfl) Try.underlying29 rfl Try.sizeOf26 (by decide) rfl) ?_
  refine lw_v rfl rfl (ok_ldb rfl (.n rfl) rfl Try.isAgg26 hS (by rfl)) ?_
  refine lw_v rfl rfl (ok_len rfl (.n rfl) Try.underlying26 rfl) ?_
  refine lw_v rfl rfl (ok_assign rfl (.n rfl) rfl) ?_
  refine lw_nil ?_
  refine Ends.keep [(2, .eq _)] (.cons rfl .nil) ?_
  refine ends_then ?_
  refine cw_ret ?_
  exact end_ret (res1 Try.results77 rfl) ⟨rfl, hS.below⟩

set_option maxRecDepth 10000 in
/-- sort.SearchInts's function. -/
theorem f99 (i : Int) (l : List Int) (A : Option Addr) (c : Nat) (x : Int) (b1 b2 : Nat) (w : World) (hl : (sl (eInt .i64) 1 A l.length c l).p w) (h1 : (rbx b1 [.slice A l.length c] 26).p w) (h2 : (rbx b2 [.int .i64 x] 3).p w) (hi : 0 ≤ i ∧ i < l.length) :
    Calls Try.prog 99 #[.int .i64 i, .pointer (some ⟨b1, 0, none⟩), .pointer (some ⟨b2, 0, none⟩)] w fun e w' => e = .returned (.bool (decide (x ≤ l.getD i.toNat 0))) ∧ Gr w w' := by
  refine calls_cw Try.func99 rfl Try.ntmps99 rfl ?_
  have hS := (((St.start w).args (Nat.le_refl _) _ hl rfl).args (Nat.le_refl _) (rbx b2 [.int .i64 x] 3) h2 rfl).args (Nat.le_refl _) (rbx b1 [.slice A l.length c] 26) h1 rfl
  refine cw_seq ?_
  -- region 0
  refine cw_region ?_
  refine lw_v rfl rfl (ok_assign rfl (.n rfl) rfl) ?_
  refine lw_nil ?_
  refine Ends.keep [(0, .eq _), (1, .eq _), (2, .eq _)] (.cons rfl (.cons rfl (.cons rfl .nil))) ?_
  refine ends_then ?_
  refine cw_seq ?_
  -- region 1
  refine cw_draw (by kernel_rfl) (List.take 5 _) (List.drop 5 _) (List.take_append_drop 5 _).symm (by kernel_rfl) ?_
  refine free_v (ok_ldb rfl (.n rfl) rfl Try.isAgg26 hS (by rfl)) ?_
  refine free_v (ok_move rfl (.n rfl) rfl) ?_
  refine free_v (ok_ix rfl (.n rfl) Try.underlying26 Try.sizeOf3 rfl rfl hS (fun _ => ⟨by omega, by omega⟩)) ?_
  refine free_v (ok_ldx rfl (.n rfl) rfl Try.isAgg3 hS (fun _ => ⟨by omega, by omega⟩) (by rfl)) ?_
  refine free_v (ok_ldb rfl (.n rfl) rfl Try.isAgg3 hS (by rfl)) ?_
  refine free_nil ?_
  intro w1 hg_; replace hS := hS.grow hg_; clear hg_
  refine lw_v rfl rfl (ok_geq rfl (.n rfl) rfl rfl) ?_
  refine lw_v rfl rfl (ok_assign rfl (.n rfl) rfl) ?_
  refine lw_nil ?_
  refine Ends.keep [(4, .eq _)] (.cons rfl .nil) ?_
  refine ends_then ?_
  refine cw_ret ?_
  exact end_ret (res1 Try.results99 rfl) ⟨rfl, hS.below⟩

theorem mid_eq (i j : Nat) (h : i + j ≤ 9223372036854775807) : IntKind.i64.wrap (IntKind.u64.wrap ((i : Int) + j) / 2) = (((i + j) / 2 : Nat) : Int) := by
  have e : IntKind.u64.wrap ((i : Int) + j) = (i : Int) + j := by
    unfold IntKind.wrap
    simp only [IntKind.bits, IntKind.signed]
    simp
    omega
  rw [e, wrap_in ⟨by omega, by omega⟩]
  omega
set_option maxRecDepth 10000 in
/-- sort.Search, with a function of which it is known what it says. -/
theorem f98 (n : Nat) (F : FuncId) (caps : List Value) (p : Nat → Bool) (w : World) (hn : n ≤ 4611686018427387903) (hF : ∀ args w, (callFunc F args).run Try.prog w = .ok (.enter F args) w) (hdo : ∀ i : Nat, i < n → Does Try.prog F caps w [.int .i64 i] (.bool (p i))) :
    Calls Try.prog 98 #[.int .i64 n, .func (.func F) #[] caps.toArray] w fun e w' => ∃ i : Nat, e = .returned (.int .i64 i) ∧ Gr w w' ∧ i ≤ n ∧ (0 < i → p (i - 1) = false) ∧ (i < n → p i = true) := by
  refine calls_cw Try.func98 rfl Try.ntmps98 rfl ?_
  have hS := St.start w
  refine cw_seq ?_
  -- region 0
  refine cw_region ?_
  refine lw_v rfl rfl (ok_assign rfl (.n rfl) rfl) ?_
  refine lw_nil ?_
  refine Ends.keep [(0, .eq _), (1, .eq _)] (.cons rfl (.cons rfl .nil)) ?_
  refine ends_then ?_
  refine cw_seq ?_
  -- region 1
  refine cw_region ?_
  refine lw_v rfl rfl (ok_move rfl (.n rfl) rfl) ?_
  refine lw_v rfl rfl (ok_assign rfl (.n rfl) rfl) ?_
  refine lw_v rfl rfl (ok_assign rfl (.n rfl) rfl) ?_
  refine lw_nil ?_
  refine Ends.keep [(1, .eq _), (5, .eq _), (6, .eq _)] (.cons rfl (.cons rfl (.cons rfl .nil))) ?_
  refine ends_then ?_
  refine cw_seq ?_
  refine cw_block ?_
  -- LOOP at region 2: changed live slots [5, 6], kept [1]
  refine cw_loop2 [(1, .eq _)] (fun (i j : Nat) => [(5, .eq (.int .i64 i)), (6, .eq (.int .i64 j))]) (fun i j w' => (i ≤ j ∧ j ≤ n ∧ (0 < i → p (i - 1) = false) ∧ (j < n → p j = true)) ∧ St w.heap.size w w' []) (fun i j => j - i) 0 n (.cons rfl .nil) (.cons rfl (.cons rfl (.cons rfl .nil))) ⟨⟨Nat.zero_le _, Nat.le_refl _, fun h => absurd h (Nat.lt_irrefl _), fun h => absurd h (Nat.lt_irrefl _)⟩, hS⟩ ?_
  clear hS
  rintro i j wr ⟨⟨hij, hjn, hpi, hpj⟩, hS⟩
  refine cw_seq ?_
  refine cw_seq ?_
  -- region 2
  refine cw_region ?_
  refine lw_v rfl rfl (ok_move rfl (.n rfl) rfl) ?_
  refine lw_v rfl rfl (ok_move rfl (.n rfl) rfl) ?_
  refine lw_v rfl rfl (ok_lss rfl (.n rfl) rfl rfl) ?_
  refine lw_nil ?_
  refine Ends.keep [(1, .eq _), (5, .eq _), (6, .eq _), (11, .eq _)] (.cons rfl (.cons rfl (.cons rfl (.cons rfl .nil)))) ?_
  refine ends_then ?_
  refine cw_cond rfl (fun h11 => ?_) (fun h11 => ?_)
  ·
    have hlt := of_decide_eq_true h11
    refine cw_skip ?_
    refine ends_then ?_
    refine cw_block ?_
    refine cw_seq ?_
    -- region 3
    refine cw_region ?_
    refine lw_v rfl rfl (ok_move rfl (.n rfl) rfl) ?_
    refine lw_v rfl rfl (ok_move rfl (.n rfl) rfl) ?_
    refine lw_v rfl rfl (ok_addi rfl (.n rfl) rfl rfl (fun _ => ⟨by omega, by omega⟩)) ?_
    refine lw_v rfl rfl (ok_conv rfl (.n rfl) Try.underlying3 Try.underlying118 rfl) ?_
    refine lw_v rfl rfl (ok_shr1 rfl (.n rfl) rfl rfl rfl) ?_
    refine lw_v rfl rfl (ok_eq (ok_conv rfl (.n rfl) Try.underlying118 Try.underlying3 rfl) (c' := .int .i64 (((i + j) / 2 : Nat) : Int)) (fun _ => congrArg (Value.int .i64) (mid_eq i j (by omega)))) ?_
    refine lw_v rfl rfl (ok_assign rfl (.n rfl) rfl) ?_
    refine lw_nil ?_
    refine Ends.keep [(1, .eq _), (5, .eq _), (6, .eq _), (7, .eq _)] (.cons rfl (.cons rfl (.cons rfl (.cons rfl .nil)))) ?_
    refine ends_then ?_
    refine cw_seq ?_
    -- region 4
    refine cw_region ?_
    refine lw_v rfl rfl (ok_move rfl (.n rfl) rfl) ?_
    refine lw_v rfl rfl (ok_move rfl (.n rfl) rfl) ?_
    refine lw_callf (f := F) (xs := [_]) rfl rfl rfl hF rfl rfl (Calls.mono (hdo ((i + j) / 2) (by omega) _ hS.below) ?_)
    rintro e w' ⟨rfl, hg⟩
    replace hS := hS.grow hg; clear hg
    refine ⟨_, rfl, ?_⟩
    refine lw_v rfl rfl (ok_not rfl (.n rfl) rfl) ?_
    refine lw_nil ?_
    refine Ends.keep [(1, .eq _), (5, .eq _), (6, .eq _), (7, .eq _), (21, .eq _)] (.cons rfl (.cons rfl (.cons rfl (.cons rfl (.cons rfl .nil))))) ?_
    refine ends_then ?_
    refine cw_cond rfl (fun h21 => ?_) (fun h21 => ?_)
    ·
      -- region 5
      refine cw_region ?_
      refine lw_v rfl rfl (ok_move rfl (.n rfl) rfl) ?_
      refine lw_v rfl rfl (ok_addi rfl (.n rfl) rfl rfl (fun _ => ⟨by omega, by omega⟩)) ?_
      refine lw_v rfl rfl (ok_assign rfl (.n rfl) rfl) ?_
      refine lw_nil ?_
      refine in_normal (?_)
      -- BACK
      refine ends_back2 ((i + j) / 2 + 1) j (.cons rfl (.cons rfl (.cons rfl .nil))) ⟨⟨by omega, by omega, fun _ => by simpa using h21, hpj⟩, hS⟩ (by omega)
    ·
      -- region 6
      refine cw_region ?_
      refine lw_v rfl rfl (ok_move rfl (.n rfl) rfl) ?_
      refine lw_v rfl rfl (ok_assign rfl (.n rfl) rfl) ?_
      refine lw_nil ?_
      refine in_normal (?_)
      -- BACK
      refine ends_back2 i ((i + j) / 2) (.cons rfl (.cons rfl (.cons rfl .nil))) ⟨⟨by omega, by omega, hpi, fun _ => by simpa using h21⟩, hS⟩ (by omega)
  ·
    have hlt := of_decide_eq_false h11
    have hieq : i = j := by omega
    subst hieq
    refine cw_exit ?_
    refine then_exit (then_exit (in_exit (?_)))
    refine Ends.keep [(5, .eq _)] (.cons rfl .nil) ?_
    refine ends_then ?_
    refine cw_seq ?_
    -- region 7
    refine cw_region ?_
    refine lw_v rfl rfl (ok_move rfl (.n rfl) rfl) ?_
    refine lw_v rfl rfl (ok_assign rfl (.n rfl) rfl) ?_
    refine lw_nil ?_
    refine Ends.keep [(4, .eq _)] (.cons rfl .nil) ?_
    refine ends_then ?_
    refine cw_ret ?_
    exact end_ret (res1 Try.results98 rfl) ⟨i, rfl, hS.below, hjn, hpi, hpj⟩

set_option maxRecDepth 10000 in
/-- sort.SearchInts. -/
theorem f78 (l : List Int) (A : Option Addr) (c : Nat) (x : Int) (w : World) (hl : (sl (eInt .i64) 1 A l.length c l).p w) :
    Calls Try.prog 78 #[.slice A l.length c, .int .i64 x] w fun e w' => ∃ i : Nat, e = .returned (.int .i64 i) ∧ Gr w w' ∧ i ≤ l.length ∧ (0 < i → decide (x ≤ l.getD (i - 1) 0) = false) ∧ (i < l.length → decide (x ≤ l.getD i 0) = true) := by
  refine calls_cw Try.func78 rfl Try.ntmps78 rfl ?_
  have hS := (St.start w).args (Nat.le_refl _) _ hl rfl
  have hll := hl.2.1
  refine cw_seq ?_
  -- region 0
  refine cw_region ?_
  refine lw_box rfl rfl rfl rfl hS ?_
  clear hS; intro b2 w1 _ _ hS
  refine lw_box rfl rfl rfl rfl hS ?_
  clear hS; intro b3 w2 _ _ hS
  refine lw_v rfl rfl (ok_assign rfl (.n rfl) rfl) ?_
  refine lw_nil ?_
  refine Ends.keep [(2, .eq _), (3, .eq _)] (.cons rfl (.cons rfl .nil)) ?_
  refine ends_then ?_
  refine cw_seq ?_
  -- region 1
  refine cw_region ?_
  refine lw_v rfl rfl (ok_ldb rfl (.n rfl) rfl Try.isAgg26 hS (by rfl)) ?_
  refine lw_v rfl rfl (ok_len rfl (.n rfl) Try.underlying26 rfl) ?_
  refine lw_v rfl rfl (ok_mkfn rfl (.n rfl) rfl) ?_
  refine lw_call (f := 98) (xs := [_, _]) rfl rfl rfl Try.call98 rfl (Calls.mono (f98 l.length 99 [_, _] (fun i => decide (x ≤ l.getD i 0)) _ (by omega) Try.call99 (fun i hi w' hg => (f99 i l A c x b2 b3 w' ((hS.grow hg).rd A hll) ((hS.grow hg).bx (b := b2)) ((hS.grow hg).bx (b := b3)) ⟨by omega, by omega⟩))) ?_)
  rintro e w' ⟨i, rfl, hg, hi1, hi2, hi3⟩
  replace hS := hS.grow hg; clear hg
  refine ⟨_, rfl, ?_⟩
  refine lw_v rfl rfl (ok_assign rfl (.n rfl) rfl) ?_
  refine lw_nil ?_
  refine Ends.keep [(4, .eq _)] (.cons rfl .nil) ?_
  refine ends_then ?_
  refine cw_ret ?_
  exact end_ret (res1 Try.results78 rfl) ⟨i, rfl, hS.below, hi1, hi2, hi3⟩

set_option maxRecDepth 10000 in
/-- csr.Tail: of a residual arc. -/
theorem f40 (c : Cs) (q : Q6) (a : Nat) (w : World) (hwf : WF c) (hc : CsAt c q w) (ha : a < c.Head.length) :
    Calls Try.prog 40 #[csV c q, .int .i64 a] w fun e w' => e = .returned (.tuple #[.int .i64 (tailOf c a), .bool true]) ∧ Gr w w' := by
  refine calls_cw Try.func40 rfl Try.ntmps40 rfl ?_
  have hS := St.ofc hc
  obtain ⟨hlo, hhi, hs, ht, hne, hfl, hM, hrl, hcl, hal, hbl, hf0, hfm, hfN, hhd, hrv, hrr, htl⟩ := id hwf
  have hcf := hc.first
  refine cw_seq ?_
  -- region 0
  refine cw_region ?_
  refine lw_box rfl rfl rfl rfl hS ?_
  clear hS; intro b2 w1 _ _ hS
  refine lw_v rfl rfl (ok_assign rfl (.n rfl) rfl) ?_
  refine lw_v rfl rfl (ok_assign rfl (.n rfl) rfl) ?_
  refine lw_nil ?_
  refine Ends.keep [(1, .eq _), (2, .eq _)] (.cons rfl (.cons rfl .nil)) ?_
  refine ends_then ?_
  refine cw_seq ?_
  refine cw_seq ?_
  -- region 1
  refine cw_region ?_
  refine lw_v rfl rfl (ok_move rfl (.n rfl) rfl) ?_
  refine lw_v rfl rfl (ok_eq (ok_lss rfl (.n rfl) rfl rfl) (c' := .bool false) (fun _ => congrArg Value.bool (decide_eq_false (by omega)))) ?_
  refine lw_v rfl rfl (ok_move rfl (.n rfl) rfl) ?_
  refine lw_on (.s rfl rfl) rfl ?_
  refine lw_v rfl rfl (ok_move rfl (.n rfl) rfl) ?_
  refine lw_on (.s rfl rfl) rfl ?_
  refine lw_v rfl rfl (ok_ldS rfl (.n rfl) rfl Try.isAgg29 Try.sizeOf29 hS rfl) ?_
  refine lw_on (.s rfl rfl) rfl ?_
  refine lw_call (f := 77) (xs := [_]) rfl rfl rfl Try.call77 rfl (Calls.mono (f77 c q _) ?_)
  rintro e w' ⟨rfl, hg⟩
  replace hS := hS.grow hg; clear hg
  refine ⟨_, rfl, ?_⟩
  refine lw_on (.s rfl rfl) rfl ?_
  refine lw_v rfl rfl (ok_geq rfl (.n rfl) rfl rfl) ?_
  refine lw_v rfl rfl (ok_pick rfl rfl rfl rfl rfl) ?_
  refine lw_nil ?_
  refine Ends.keep [(1, .eq _), (2, .eq _), (13, .eq _)] (.cons rfl (.cons rfl (.cons rfl .nil))) ?_
  refine ends_then ?_
  refine cw_cond rfl (fun h13 => ?_) (fun h13 => ?_)
  ·
    exact absurd h13 (by rw [decide_eq_true_eq]; omega)
  ·
    refine cw_skip ?_
    refine ends_then ?_
    refine cw_seq ?_
    -- region 3
    refine cw_region ?_
    refine lw_v rfl rfl (ok_fb rfl (.n rfl) Try.underlying29 rfl Try.sizeOf26 (by decide) rfl) ?_
    refine lw_v rfl rfl (ok_ldb rfl (.n rfl) rfl Try.isAgg26 hS (by rfl)) ?_
    refine lw_v rfl rfl (ok_move rfl (.n rfl) rfl) ?_
    refine lw_v rfl rfl (ok_addi rfl (.n rfl) rfl rfl (fun _ => ⟨by omega, by omega⟩)) ?_
    refine lw_call (f := 78) (xs := [_, _]) rfl rfl rfl Try.call78 rfl (Calls.mono (f78 c.First q.a0 q.c0 (a + 1) _ (hS.rd q.a0 (by omega))) ?_)
    rintro e w' ⟨i, rfl, hg, hi1, hi2, hi3⟩
    replace hS := hS.grow hg; clear hg
    have hT := tail_found hwf ha hi1 hi2 hi3
    refine ⟨_, rfl, ?_⟩
    refine lw_v rfl rfl (ok_subi rfl (.n rfl) rfl rfl (fun _ => ⟨by omega, by omega⟩)) ?_
    refine lw_v rfl rfl (ok_assign rfl (.n rfl) rfl) ?_
    refine lw_v rfl rfl (ok_assign rfl (.n rfl) rfl) ?_
    refine lw_nil ?_
    refine Ends.keep [(4, .eq _), (5, .eq _)] (.cons rfl (.cons rfl .nil)) ?_
    refine ends_then ?_
    refine cw_ret ?_
    exact end_ret (res2 Try.results40 rfl rfl) ⟨by rw [hT], hS.below⟩

end Go.Proofs.Ytnpgeohkmdcbkaa.Aq
