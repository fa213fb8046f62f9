/- The walks of globals.Reached, and of the document's Exact and Reached. -/
import Derived.Test.YtnpgeohkmdcbkaaB10
import Derived.Test.YtnpgeohkmdcbkaaB6
namespace Go.Proofs.Ytnpgeohkmdcbkaa.Aq
open Go Go.RowKit

/-- A call that answers a new list of bools. -/
def RetBs (f : FuncId) (args : List Value) (w : World) (xs : List Bool) : Prop :=
  Calls Try.prog f args.toArray w fun e w' => ∃ A c, e = .returned (.slice A xs.length c) ∧ Gr w w' ∧ (∀ b, (own eBool 1 4 A xs.length c xs).fp b → w.heap.size ≤ b) ∧ (own eBool 1 4 A xs.length c xs).p w'
theorem exactF_right {c : Cs} (hw : WF c) {res : List Int} {wk : Int} (h : exOk c res wk = true) : RightH c (exactF c res wk) := by
  rw [exactF_yes h]; exact exact_right hw (exactL_low c res)
theorem exactF_len {c : Cs} (hw : WF c) (res : List Int) (wk : Int) : (exactF c res wk).length ≤ 16 ∧ (exOk c res wk = true ↔ (exactF c res wk).length = c.N) := by
  have hN := hw.hi
  have hlo := hw.lo
  cases h : exOk c res wk with
  | false => rw [exactF_no h]; simp; omega
  | true => have := (exactF_right hw h).len; simp; omega
/-- From whom T is reached. -/
noncomputable def reachL (c : Cs) (res : List Int) : List Bool := (exactF c res 1).map fun k => decide (k < (c.N : Int))
theorem map_step {D : List Int} {f : Int → Bool} {i : Nat} (h : i < D.length) : (D.take (i + 1)).map f = (D.take i).map f ++ [f (D.getD i 0)] := by
  rw [List.take_succ_eq_append_getElem h, List.map_append]
  simp [List.getD_eq_getElem?_getD, h]

set_option maxRecDepth 10000 in
/-- globals.Reached. -/
theorem f60 (c : Cs) (q : Q6) (res : List Int) {m1 : Nat} (A1 : Option Addr) (c1 : Nat) (w : World) (hwf : WF c) (hc : CsAt c q w) (hr : (sl (eInt .i64) 1 A1 m1 c1 res).p w) : RetBs 60 [csV c q, .slice A1 m1 c1] w (reachL c res) := by
  refine calls_cw Try.func60 rfl Try.ntmps60 rfl ?_
  have hS := (St.ofc hc).args (Nat.le_refl _) _ hr rfl
  have hM := hwf.m
  have hN := hwf.hi
  have hlo := hwf.lo
  have hfl := hwf.fl
  have hrl := hr.1.1
  have hrr := hr.2.1
  have htN := hwf.t
  have hsN := hwf.s
  refine cw_seq ?_
  -- region 0
  refine cw_region ?_
  refine lw_box rfl rfl rfl rfl hS ?_
  clear hS; intro b2 w1 _ _ hS
  refine lw_v rfl rfl (ok_assign rfl (.n rfl) rfl) ?_
  refine lw_nil ?_
  refine Ends.keep [(1, .eq _), (2, .eq _)] (.cons rfl (.cons rfl .nil)) ?_
  refine ends_then ?_
  refine cw_seq ?_
  -- region 1
  refine cw_region ?_
  refine lw_v rfl rfl (ok_assign rfl (.n rfl) rfl) ?_
  refine lw_nil ?_
  refine Ends.keep [(1, .eq _), (2, .eq _), (5, .eq _)] (.cons rfl (.cons rfl (.cons rfl .nil))) ?_
  refine ends_then ?_
  refine cw_seq ?_
  refine cw_seq ?_
  -- region 2
  refine cw_region ?_
  refine lw_v rfl rfl (ok_ldS rfl (.n rfl) rfl Try.isAgg29 Try.sizeOf29 hS rfl) ?_
  refine lw_v rfl rfl (ok_move rfl (.n rfl) rfl) ?_
  refine lw_call (f := 44) (xs := [_, _, _]) rfl rfl rfl Try.call44 rfl (Calls.mono (f44 c q res A1 c1 1 _ hwf (hS.cs q) (hS.rd A1 hrr)) ?_)
  rintro e w' ⟨A10, c10, rfl, hg, hfr, ho, _⟩
  replace hS := hS.new hg _ ho hfr; clear hg ho hfr
  have hel := (exactF_len hwf res 1).1
  unfold reachL
  generalize exactF c res 1 = D at hS hel ⊢
  replace hS := hS.freeze .here (by omega)
  refine ⟨_, rfl, ?_⟩
  refine lw_v rfl rfl (ok_len rfl (.n rfl) Try.underlying26 rfl) ?_
  refine lw_v rfl rfl (ok_move rfl (.n rfl) rfl) ?_
  refine lw_nil ?_
  refine Ends.keep [(2, .eq _), (5, .eq _), (10, .eq _), (11, .eq _), (12, .eq _)] (.cons rfl (.cons rfl (.cons rfl (.cons rfl (.cons rfl .nil))))) ?_
  refine ends_then ?_
  refine cw_block ?_
  -- LOOP at region 3: changed live slots [5, 12], kept [2, 10, 11]
  refine cw_loop3 [(2, .eq _), (10, .eq _), (11, .eq _)] (fun (i : Nat) (A' : Option Addr) (c' : Nat) => [(5, .eq (.slice A' ((D.take i).map (fun k => decide (k < (c.N : Int)))).length c')), (12, .eq (.int .i64 i))]) (fun i A' c' w' => i ≤ D.length ∧ St w.heap.size w w' [own eBool 1 4 A' ((D.take i).map (fun k => decide (k < (c.N : Int)))).length c' ((D.take i).map (fun k => decide (k < (c.N : Int)))), sl (eInt .i64) 1 A10 D.length c10 D, bx b2 (csV c q).cells.toList 29, sl (eInt .i64) 1 A1 m1 c1 res, sl (eInt .i64) 1 q.a0 c.First.length q.c0 c.First, sl (eInt .i64) 1 q.a1 c.Head.length q.c1 c.Head, sl (eInt .i64) 1 q.a2 c.Rev.length q.c2 c.Rev, sl (eInt .i64) 1 q.a3 c.Cap.length q.c3 c.Cap, sl (eInt .i64) 1 q.a4 c.Arc.length q.c4 c.Arc, sl eBool 1 q.a5 c.Back.length q.c5 c.Back]) (fun i _ _ => D.length - i) 0 none 0 (.cons rfl (.cons rfl (.cons rfl .nil))) (.cons rfl (.cons rfl (.cons rfl (.cons rfl (.cons rfl .nil))))) ⟨Nat.zero_le _, hS.nil eBool 1 4⟩ ?_
  clear hS
  rintro i A' c' wr ⟨hi, hS⟩
  have hxl : ((D.take i).map (fun k => decide (k < (c.N : Int)))).length = min i D.length := by rw [List.length_map, List.length_take]
  refine cw_seq ?_
  -- region 3
  refine cw_region ?_
  refine lw_v rfl rfl (ok_lss rfl (.n rfl) rfl rfl) ?_
  refine lw_nil ?_
  refine Ends.keep [(2, .eq _), (5, .eq _), (10, .eq _), (11, .eq _), (12, .eq _), (13, .eq _)] (.cons rfl (.cons rfl (.cons rfl (.cons rfl (.cons rfl (.cons rfl .nil)))))) ?_
  refine ends_then ?_
  refine cw_seq ?_
  refine cw_cond rfl (fun h13 => ?_) (fun h13 => ?_)
  ·
    have hlt : i < D.length := by have := of_decide_eq_true h13; omega
    refine cw_skip ?_
    refine ends_then ?_
    refine cw_seq ?_
    refine cw_block ?_
    refine cw_seq ?_
    -- region 4
    refine cw_region ?_
    refine lw_v rfl rfl (ok_ix rfl (.n rfl) Try.underlying26 Try.sizeOf3 rfl rfl hS (fun _ => ⟨by omega, by omega⟩)) ?_
    refine lw_v rfl rfl (ok_ldx rfl (.n rfl) rfl Try.isAgg3 hS (fun _ => ⟨by omega, by omega⟩) (by rfl)) ?_
    refine lw_v rfl rfl (ok_assign rfl (.n rfl) rfl) ?_
    refine lw_nil ?_
    refine Ends.keep [(2, .eq _), (5, .eq _), (7, .eq _), (10, .eq _), (11, .eq _), (12, .eq _)] (.cons rfl (.cons rfl (.cons rfl (.cons rfl (.cons rfl (.cons rfl .nil)))))) ?_
    refine ends_then ?_
    -- region 5
    refine cw_region ?_
    refine lw_v rfl rfl (ok_move rfl (.n rfl) rfl) ?_
    refine lw_v rfl rfl (ok_move rfl (.n rfl) rfl) ?_
    refine lw_v rfl rfl (ok_fb rfl (.n rfl) Try.underlying29 rfl Try.sizeOf3 (by decide) rfl) ?_
    refine lw_v rfl rfl (ok_eq (ok_ldb rfl (.n rfl) rfl Try.isAgg3 hS (by rfl)) (c' := .int .i64 (c.N : Int)) (fun _ => rfl)) ?_
    refine lw_v rfl rfl (ok_lss rfl (.n rfl) rfl rfl) ?_
    refine lw_ls (enc := eBool) [decide (D.getD i 0 < (c.N : Int))] rfl rfl rfl Try.underlying27 Try.sizeOf4 Try.zeroValue4 rfl (by kernel_rfl) rfl (by decide) (by decide) hS ?_
    clear hS; intro A21 c21 w2 _ hS
    refine lw_append (enc := eBool) rfl rfl rfl Try.underlying27 info4 rfl rfl rfl hS (by decide) (by omega) (by omega) ?_
    intro A22 c22 w3 hS1; replace hS := hS1 _ (Rep.r); clear hS1
    refine lw_v rfl rfl (ok_assign rfl (.n rfl) rfl) ?_
    refine lw_nil ?_
    refine in_normal (?_)
    refine Ends.keep [(2, .eq _), (5, .eq _), (10, .eq _), (11, .eq _), (12, .eq _)] (.cons rfl (.cons rfl (.cons rfl (.cons rfl (.cons rfl .nil))))) ?_
    refine ends_then ?_
    -- region 6
    refine cw_region ?_
    refine lw_v rfl rfl (ok_addi rfl (.n rfl) rfl rfl (fun _ => ⟨by omega, by omega⟩)) ?_
    refine lw_v rfl rfl (ok_move rfl (.n rfl) rfl) ?_
    refine lw_nil ?_
    -- BACK
    have e : ((D.take i).map (fun k => decide (k < (c.N : Int)))) ++ [decide (D.getD i 0 < (c.N : Int))] = (D.take (i + 1)).map (fun k => decide (k < (c.N : Int))) := (map_step (by omega)).symm
    replace hS := hS.tail
    rw [e] at hS ⊢
    exact ends_back3 (i + 1) A22 c22 (.cons rfl (.cons rfl (.cons rfl (.cons rfl (.cons rfl .nil))))) ⟨by omega, hS⟩ (by omega)
  ·
    have hie : i = D.length := by have := of_decide_eq_false h13; omega
    refine cw_exit ?_
    refine then_exit (then_exit (in_exit (?_)))
    refine Ends.keep [(5, .eq _)] (.cons rfl .nil) ?_
    refine ends_then ?_
    refine cw_seq ?_
    -- region 7
    refine cw_region ?_
    refine lw_v rfl rfl (ok_move rfl (.n rfl) rfl) ?_
    refine lw_v rfl rfl (ok_assign rfl (.n rfl) rfl) ?_
    refine lw_nil ?_
    refine Ends.keep [(4, .eq _)] (.cons rfl .nil) ?_
    refine ends_then ?_
    refine cw_ret ?_
    rw [List.take_of_length_le (by omega)] at hS ⊢
    exact end_ret (res1 Try.results60 rfl) ⟨A', c', rfl, hS.below, fun b hb => hS.ge _ (.head _) rfl b hb, hS.ok _ (.head _)⟩

theorem exact_shut {c : Cs} (hw : WF c) {res out : List Int} {wk : Int} (hy : exOk c res wk = true) (hl : out.length = c.Head.length) (h : ∀ a : Nat, out.getD a 0 = if c.First.getD c.S 0 ≤ (a : Int) ∧ (a : Int) < c.First.getD (c.S + 1) 0 then 0 else res.getD a 0) : exactF c res wk = toL c out (c.T : Int) := by
  rw [exactF_yes hy]
  refine lowL_eq ?_
  have L := toL_low (inB_of hl hw.t)
  rw [Int.toNat_natCast] at L
  exact low_congr L (fun _ _ => rfl) fun u v hu hv => edge_shut hw h
set_option maxRecDepth 10000 in
set_option maxHeartbeats 1000000 in
/-- acequiaref20.Exact. -/
theorem f62 (c : Cs) (q : Q6) (res : List Int) {m1 : Nat} (A1 : Option Addr) (c1 : Nat) (wk : Int) (w : World) (hwf : WF c) (hc : CsAt c q w) (hr : (sl (eInt .i64) 1 A1 m1 c1 res).p w) : RetL 62 [csV c q, .slice A1 m1 c1, .int .i64 wk] w (exactF c res wk) := by
  refine calls_cw Try.func62 rfl Try.ntmps62 rfl ?_
  have hS := (St.ofc hc).args (Nat.le_refl _) _ hr rfl
  have hM := hwf.m
  have hN := hwf.hi
  have hlo := hwf.lo
  have hfl := hwf.fl
  have hrl := hr.1.1
  have hrr := hr.2.1
  have htN := hwf.t
  have hsN := hwf.s
  refine cw_seq ?_
  -- region 0
  refine cw_region ?_
  refine lw_box rfl rfl rfl rfl hS ?_
  clear hS; intro b3 w1 _ _ hS
  refine lw_v rfl rfl (ok_assign rfl (.n rfl) rfl) ?_
  refine lw_nil ?_
  refine Ends.keep [(1, .eq _), (2, .eq _), (3, .eq _)] (.cons rfl (.cons rfl (.cons rfl .nil))) ?_
  refine ends_then ?_
  refine cw_seq ?_
  refine cw_seq ?_
  -- region 1
  refine cw_region ?_
  refine lw_v rfl rfl (ok_move rfl (.n rfl) rfl) ?_
  refine lw_v rfl rfl (ok_len rfl (.n rfl) Try.underlying25 rfl) ?_
  refine lw_v rfl rfl (ok_fb rfl (.n rfl) Try.underlying29 rfl Try.sizeOf26 (by decide) rfl) ?_
  refine lw_v rfl rfl (ok_ldb rfl (.n rfl) rfl Try.isAgg26 hS (by rfl)) ?_
  refine lw_v rfl rfl (ok_len rfl (.n rfl) Try.underlying26 rfl) ?_
  refine lw_v rfl rfl (ok_neq rfl (.n rfl) rfl rfl) ?_
  refine lw_v rfl rfl (ok_move rfl (.n rfl) rfl) ?_
  refine lw_v rfl rfl (ok_fb rfl (.s rfl rfl) Try.underlying29 rfl Try.sizeOf3 (by decide) rfl) ?_
  refine lw_v rfl rfl (ok_eq (ok_ldb rfl (.s rfl rfl) rfl Try.isAgg3 hS (by rfl)) (c' := .int .i64 (c.N : Int)) (fun _ => rfl)) ?_
  refine lw_v rfl rfl (ok_eql rfl (.s rfl rfl) rfl rfl) ?_
  refine lw_v rfl rfl (ok_or rfl rfl rfl rfl) ?_
  refine lw_v rfl rfl (ok_move rfl (.n rfl) rfl) ?_
  refine lw_v rfl rfl (ok_move rfl (.s rfl rfl) rfl) ?_
  refine lw_v rfl rfl (ok_lss rfl (.s rfl rfl) rfl rfl) ?_
  refine lw_v rfl rfl (ok_or rfl rfl rfl rfl) ?_
  refine lw_v rfl rfl (ok_move rfl (.n rfl) rfl) ?_
  refine lw_v rfl rfl (ok_move rfl (.s rfl rfl) rfl) ?_
  refine lw_v rfl rfl (ok_gtr rfl (.s rfl rfl) rfl rfl) ?_
  refine lw_v rfl rfl (ok_or rfl rfl rfl rfl) ?_
  refine lw_nil ?_
  refine Ends.keep [(1, .eq _), (3, .eq _), (28, .eq _)] (.cons rfl (.cons rfl (.cons rfl .nil))) ?_
  refine ends_then ?_
  refine cw_cond rfl (fun h28 => ?_) (fun h28 => ?_)
  ·
    have hno : exOk c res wk = false := ex_no hrl hlo h28
    replace hS := hS.nil (eInt .i64) 1 3
    refine cw_seq ?_
    -- region 2
    refine cw_region ?_
    refine lw_v rfl rfl (ok_assign rfl (.n rfl) rfl) ?_
    refine lw_nil ?_
    refine Ends.keep [(6, .eq _)] (.cons rfl .nil) ?_
    refine ends_then ?_
    refine cw_ret ?_
    refine then_ret (?_)
    rw [exactF_no hno]
    exact end_ret (res1 Try.results62 rfl) ⟨none, 0, rfl, hS.below, fun b hb => hS.ge _ (.head _) rfl b hb, hS.ok _ (.head _)⟩
  ·
    have hyes := ex_yes hrl h28
    obtain ⟨hres, hwk0, hwk1⟩ := exOk_iff.1 hyes
    obtain ⟨hf0, hf1, hf2⟩ := seg_rng hwf hsN
    refine cw_skip ?_
    refine ends_then ?_
    refine cw_seq ?_
    -- region 3
    refine cw_region ?_
    refine lw_ls0 (enc := (eInt .i64)) rfl rfl rfl Try.underlying25 Try.sizeOf2 hS ?_
    clear hS; intro A29 c29 w2 _ hS
    refine lw_v rfl rfl (ok_move rfl (.n rfl) rfl) ?_
    refine lw_append0 (enc := (eInt .i64)) rfl rfl rfl Try.underlying25 info2 rfl rfl rfl hS (by omega) (by omega) ?_
    intro A31 c31 wq hS1; replace hS := hS1 _ (Rep.r); clear hS1
    rw [List.nil_append, hrl] at hS ⊢
    refine lw_v rfl rfl (ok_assign rfl (.n rfl) rfl) ?_
    refine lw_nil ?_
    refine Ends.keep [(3, .eq _), (7, .eq _)] (.cons rfl (.cons rfl .nil)) ?_
    refine ends_then ?_
    refine cw_seq ?_
    refine cw_seq ?_
    -- region 4
    refine cw_region ?_
    refine lw_v rfl rfl (ok_fb rfl (.n rfl) Try.underlying29 rfl Try.sizeOf26 (by decide) rfl) ?_
    refine lw_v rfl rfl (ok_ldb rfl (.n rfl) rfl Try.isAgg26 hS (by rfl)) ?_
    refine lw_v rfl rfl (ok_fb rfl (.n rfl) Try.underlying29 rfl Try.sizeOf3 (by decide) rfl) ?_
    refine lw_v rfl rfl (ok_eq (ok_ldb rfl (.n rfl) rfl Try.isAgg3 hS (by rfl)) (c' := .int .i64 (c.S : Int)) (fun _ => rfl)) ?_
    refine lw_v rfl rfl (ok_ix rfl (.n rfl) Try.underlying26 Try.sizeOf3 rfl rfl hS (fun _ => ⟨by omega, by omega⟩)) ?_
    refine lw_v rfl rfl (ok_eq (ok_ldx rfl (.n rfl) rfl Try.isAgg3 hS (fun _ => ⟨by omega, by omega⟩) (by rfl)) (c' := .int .i64 (((c.First.getD c.S 0).toNat : Nat) : Int)) (fun _ => congrArg (Value.int .i64) (Int.toNat_of_nonneg hf0).symm)) ?_
    refine lw_v rfl rfl (ok_assign rfl (.n rfl) rfl) ?_
    refine lw_nil ?_
    refine Ends.keep [(3, .eq _), (7, .eq _), (8, .eq _)] (.cons rfl (.cons rfl (.cons rfl .nil))) ?_
    refine ends_then ?_
    refine cw_block ?_
    -- LOOP at region 5: changed live slots [8], kept [3, 7]
    refine cw_loop [(3, .eq _), (7, .eq _)] (fun a : Nat => [(8, .eq (.int .i64 a))]) (fun a w' => (c.First.getD c.S 0 ≤ a ∧ a ≤ c.First.getD (c.S + 1) 0) ∧ ∃ out, (out.length = m1 ∧ ∀ b : Nat, out.getD b 0 = if c.First.getD c.S 0 ≤ (b : Int) ∧ (b : Int) < (a : Int) then 0 else res.getD b 0) ∧ St w.heap.size w w' [own (eInt .i64) 1 2 A31 m1 c31 out, bx b3 (csV c q).cells.toList 29, sl (eInt .i64) 1 A1 m1 c1 res, sl (eInt .i64) 1 q.a0 c.First.length q.c0 c.First, sl (eInt .i64) 1 q.a1 c.Head.length q.c1 c.Head, sl (eInt .i64) 1 q.a2 c.Rev.length q.c2 c.Rev, sl (eInt .i64) 1 q.a3 c.Cap.length q.c3 c.Cap, sl (eInt .i64) 1 q.a4 c.Arc.length q.c4 c.Arc, sl eBool 1 q.a5 c.Back.length q.c5 c.Back]) (fun a => (c.First.getD (c.S + 1) 0 - a).toNat) (c.First.getD c.S 0).toNat (.cons rfl (.cons rfl .nil)) (.cons rfl (.cons rfl (.cons rfl .nil))) ⟨⟨by omega, by omega⟩, res, ⟨hrl, fun b => by rw [if_neg (by omega)]⟩, hS⟩ ?_
    clear hS
    rintro a wr ⟨⟨ha0, ha1⟩, out, ⟨hol, hog⟩, hS⟩
    refine cw_seq ?_
    refine cw_seq ?_
    -- region 5
    refine cw_region ?_
    refine lw_v rfl rfl (ok_move rfl (.n rfl) rfl) ?_
    refine lw_v rfl rfl (ok_fb rfl (.n rfl) Try.underlying29 rfl Try.sizeOf26 (by decide) rfl) ?_
    refine lw_v rfl rfl (ok_ldb rfl (.n rfl) rfl Try.isAgg26 hS (by rfl)) ?_
    refine lw_v rfl rfl (ok_fb rfl (.n rfl) Try.underlying29 rfl Try.sizeOf3 (by decide) rfl) ?_
    refine lw_v rfl rfl (ok_eq (ok_ldb rfl (.n rfl) rfl Try.isAgg3 hS (by rfl)) (c' := .int .i64 (c.S : Int)) (fun _ => rfl)) ?_
    refine lw_v rfl rfl (ok_addi rfl (.n rfl) rfl rfl (fun _ => ⟨by omega, by omega⟩)) ?_
    refine lw_v rfl rfl (ok_ix rfl (.n rfl) Try.underlying26 Try.sizeOf3 rfl rfl hS (fun _ => ⟨by omega, by omega⟩)) ?_
    refine lw_v rfl rfl (ok_ldx rfl (.n rfl) rfl Try.isAgg3 hS (fun _ => ⟨by omega, by omega⟩) (by rfl)) ?_
    refine lw_v rfl rfl (ok_lss rfl (.n rfl) rfl rfl) ?_
    refine lw_nil ?_
    refine Ends.keep [(3, .eq _), (7, .eq _), (8, .eq _), (46, .eq _)] (.cons rfl (.cons rfl (.cons rfl (.cons rfl .nil)))) ?_
    refine ends_then ?_
    refine cw_cond rfl (fun h46 => ?_) (fun h46 => ?_)
    ·
      have hlt : (a : Int) < c.First.getD (c.S + 1) 0 := of_decide_eq_true h46
      refine cw_skip ?_
      refine ends_then ?_
      refine cw_seq ?_
      refine cw_block ?_
      -- region 7
      refine cw_region ?_
      refine lw_v rfl rfl (ok_move rfl (.n rfl) rfl) ?_
      refine lw_v rfl rfl (ok_move rfl (.n rfl) rfl) ?_
      refine lw_v rfl rfl (ok_ix rfl (.n rfl) Try.underlying25 Try.sizeOf2 rfl rfl hS (fun _ => ⟨by omega, by omega⟩)) ?_
      refine lw_stx (enc := (eInt .i64)) (0) rfl rfl rfl rfl rfl rfl Try.sizeOf2 hS (⟨by omega, by omega⟩) ?_
      clear hS; intro w3 hS
      refine lw_nil ?_
      refine in_normal (?_)
      refine Ends.keep [(3, .eq _), (7, .eq _), (8, .eq _)] (.cons rfl (.cons rfl (.cons rfl .nil))) ?_
      refine ends_then ?_
      -- region 6
      refine cw_region ?_
      refine lw_v rfl rfl (ok_move rfl (.n rfl) rfl) ?_
      refine lw_v rfl rfl (ok_addi rfl (.n rfl) rfl rfl (fun _ => ⟨by omega, by omega⟩)) ?_
      refine lw_v rfl rfl (ok_assign rfl (.n rfl) rfl) ?_
      refine lw_nil ?_
      -- BACK
      refine ends_back (a + 1) (.cons rfl (.cons rfl (.cons rfl .nil))) ⟨⟨by omega, by omega⟩, _, ⟨by rw [List.length_set]; exact hol, fun b => ?_⟩, hS⟩ (by omega)
      rw [show (a : Int).toNat = a from rfl, set_get (by omega), hog b]
      by_cases h1 : b = a
      · rw [if_pos h1, if_pos (by omega)]
      · rw [if_neg h1]
        by_cases h2 : c.First.getD c.S 0 ≤ (b : Int) ∧ (b : Int) < (a : Int)
        · rw [if_pos h2, if_pos (by omega)]
        · rw [if_neg h2, if_neg (by omega)]
    ·
      have hge : ¬ (a : Int) < c.First.getD (c.S + 1) 0 := of_decide_eq_false h46
      have hae : (a : Int) = c.First.getD (c.S + 1) 0 := by omega
      rw [hae] at hog
      have hsame := exact_shut hwf hyes (by omega : out.length = c.Head.length) hog
      have hrt := exactF_right hwf hyes
      refine cw_exit ?_
      refine then_exit (then_exit (in_exit (?_)))
      refine Ends.keep [(3, .eq _), (7, .eq _)] (.cons rfl (.cons rfl .nil)) ?_
      refine ends_then ?_
      refine cw_seq ?_
      -- region 8
      refine cw_region ?_
      refine lw_v rfl rfl (ok_ldS rfl (.n rfl) rfl Try.isAgg29 Try.sizeOf29 hS rfl) ?_
      refine lw_v rfl rfl (ok_move rfl (.n rfl) rfl) ?_
      refine lw_v rfl rfl (ok_fb rfl (.n rfl) Try.underlying29 rfl Try.sizeOf3 (by decide) rfl) ?_
      refine lw_v rfl rfl (ok_eq (ok_ldb rfl (.n rfl) rfl Try.isAgg3 hS (by rfl)) (c' := .int .i64 (c.T : Int)) (fun _ => rfl)) ?_
      refine lw_call (f := 56) (xs := [_, _, _]) rfl rfl rfl Try.call56 rfl (Calls.mono (f56 c q out (c.T : Int) A31 c31 _ hwf (hS.cs q) (hS.rd A31 (by omega))) ?_)
      rintro e w' ⟨A56, c56, rfl, hg, hfr, ho⟩
      replace hS := hS.new hg _ ho hfr; clear hg ho hfr
      rw [toL_len (by omega) htN] at hS ⊢
      refine ⟨_, rfl, ?_⟩
      refine lw_v rfl rfl (ok_assign rfl (.n rfl) rfl) ?_
      refine lw_nil ?_
      refine Ends.keep [(3, .eq _), (9, .eq _)] (.cons rfl (.cons rfl .nil)) ?_
      refine ends_then ?_
      refine cw_seq ?_
      -- region 9
      refine cw_region ?_
      refine lw_v rfl rfl (ok_move rfl (.n rfl) rfl) ?_
      refine lw_v rfl rfl (ok_fb rfl (.n rfl) Try.underlying29 rfl Try.sizeOf3 (by decide) rfl) ?_
      refine lw_v rfl rfl (ok_eq (ok_ldb rfl (.n rfl) rfl Try.isAgg3 hS (by rfl)) (c' := .int .i64 (c.S : Int)) (fun _ => rfl)) ?_
      refine lw_v rfl rfl (ok_fb rfl (.n rfl) Try.underlying29 rfl Try.sizeOf3 (by decide) rfl) ?_
      refine lw_v rfl rfl (ok_eq (ok_ldb rfl (.n rfl) rfl Try.isAgg3 hS (by rfl)) (c' := .int .i64 (c.N : Int)) (fun _ => rfl)) ?_
      refine lw_v rfl rfl (ok_ix rfl (.n rfl) Try.underlying26 Try.sizeOf3 rfl rfl hS (fun _ => ⟨by omega, by omega⟩)) ?_
      refine lw_stx (enc := (eInt .i64)) ((c.N : Int)) rfl rfl rfl rfl rfl rfl Try.sizeOf3 hS (⟨by omega, by omega⟩) ?_
      clear hS; intro w4 hS
      refine lw_nil ?_
      refine Ends.keep [(9, .eq _)] (.cons rfl .nil) ?_
      refine ends_then ?_
      refine cw_seq ?_
      -- region 10
      refine cw_region ?_
      refine lw_v rfl rfl (ok_move rfl (.n rfl) rfl) ?_
      refine lw_v rfl rfl (ok_assign rfl (.n rfl) rfl) ?_
      refine lw_nil ?_
      refine Ends.keep [(6, .eq _)] (.cons rfl .nil) ?_
      refine ends_then ?_
      refine cw_ret ?_
      rw [← hsame] at hS
      rw [show (c.S : Int).toNat = c.S from rfl, set_same hrt.s (by rw [hrt.len]; exact hsN)] at hS
      have hDl := hrt.len
      generalize exactF c res wk = D at hS hDl ⊢
      refine end_ret (res1 Try.results62 rfl) ⟨A56, c56, by rw [hDl], hS.below, ?_, ?_⟩
      · rw [hDl]; exact fun b hb => hS.ge _ (.head _) rfl b hb
      · rw [hDl]; exact hS.ok _ (.head _)

set_option maxRecDepth 10000 in
/-- acequiaref20.Reached. -/
theorem f63 (c : Cs) (q : Q6) (res : List Int) {m1 : Nat} (A1 : Option Addr) (c1 : Nat) (w : World) (hwf : WF c) (hc : CsAt c q w) (hr : (sl (eInt .i64) 1 A1 m1 c1 res).p w) : RetBs 63 [csV c q, .slice A1 m1 c1] w (reachL c res) := by
  refine calls_cw Try.func63 rfl Try.ntmps63 rfl ?_
  have hS := (St.ofc hc).args (Nat.le_refl _) _ hr rfl
  have hM := hwf.m
  have hN := hwf.hi
  have hlo := hwf.lo
  have hfl := hwf.fl
  have hrl := hr.1.1
  have hrr := hr.2.1
  have htN := hwf.t
  have hsN := hwf.s
  refine cw_seq ?_
  -- region 0
  refine cw_region ?_
  refine lw_box rfl rfl rfl rfl hS ?_
  clear hS; intro b2 w1 _ _ hS
  refine lw_v rfl rfl (ok_assign rfl (.n rfl) rfl) ?_
  refine lw_nil ?_
  refine Ends.keep [(1, .eq _), (2, .eq _)] (.cons rfl (.cons rfl .nil)) ?_
  refine ends_then ?_
  refine cw_seq ?_
  -- region 1
  refine cw_region ?_
  refine lw_v rfl rfl (ok_ldS rfl (.n rfl) rfl Try.isAgg29 Try.sizeOf29 hS rfl) ?_
  refine lw_v rfl rfl (ok_move rfl (.n rfl) rfl) ?_
  refine lw_call (f := 62) (xs := [_, _, _]) rfl rfl rfl Try.call62 rfl (Calls.mono (f62 c q res A1 c1 1 _ hwf (hS.cs q) (hS.rd A1 hrr)) ?_)
  rintro e w' ⟨A10, c10, rfl, hg, hfr, ho⟩
  replace hS := hS.new hg _ ho hfr; clear hg ho hfr
  have hel := (exactF_len hwf res 1).1
  unfold reachL
  generalize exactF c res 1 = D at hS hel ⊢
  replace hS := hS.freeze .here (by omega)
  refine ⟨_, rfl, ?_⟩
  refine lw_v rfl rfl (ok_assign rfl (.n rfl) rfl) ?_
  refine lw_nil ?_
  refine Ends.keep [(2, .eq _), (5, .eq _)] (.cons rfl (.cons rfl .nil)) ?_
  refine ends_then ?_
  refine cw_seq ?_
  -- region 2
  refine cw_region ?_
  refine lw_v rfl rfl (ok_assign rfl (.n rfl) rfl) ?_
  refine lw_nil ?_
  refine Ends.keep [(2, .eq _), (5, .eq _), (6, .eq _)] (.cons rfl (.cons rfl (.cons rfl .nil))) ?_
  refine ends_then ?_
  refine cw_seq ?_
  refine cw_seq ?_
  -- region 3
  refine cw_region ?_
  refine lw_v rfl rfl (ok_assign rfl (.n rfl) rfl) ?_
  refine lw_nil ?_
  refine Ends.keep [(2, .eq _), (5, .eq _), (6, .eq _), (7, .eq _)] (.cons rfl (.cons rfl (.cons rfl (.cons rfl .nil)))) ?_
  refine ends_then ?_
  refine cw_block ?_
  -- LOOP at region 4: changed live slots [6, 7], kept [2, 5]
  refine cw_loop3 [(2, .eq _), (5, .eq _)] (fun (i : Nat) (A' : Option Addr) (c' : Nat) => [(6, .eq (.slice A' ((D.take i).map (fun k => decide (k < (c.N : Int)))).length c')), (7, .eq (.int .i64 i))]) (fun i A' c' w' => i ≤ D.length ∧ St w.heap.size w w' [own eBool 1 4 A' ((D.take i).map (fun k => decide (k < (c.N : Int)))).length c' ((D.take i).map (fun k => decide (k < (c.N : Int)))), sl (eInt .i64) 1 A10 D.length c10 D, bx b2 (csV c q).cells.toList 29, sl (eInt .i64) 1 A1 m1 c1 res, sl (eInt .i64) 1 q.a0 c.First.length q.c0 c.First, sl (eInt .i64) 1 q.a1 c.Head.length q.c1 c.Head, sl (eInt .i64) 1 q.a2 c.Rev.length q.c2 c.Rev, sl (eInt .i64) 1 q.a3 c.Cap.length q.c3 c.Cap, sl (eInt .i64) 1 q.a4 c.Arc.length q.c4 c.Arc, sl eBool 1 q.a5 c.Back.length q.c5 c.Back]) (fun i _ _ => D.length - i) 0 none 0 (.cons rfl (.cons rfl .nil)) (.cons rfl (.cons rfl (.cons rfl (.cons rfl .nil)))) ⟨Nat.zero_le _, hS.nil eBool 1 4⟩ ?_
  clear hS
  rintro i A' c' wr ⟨hi, hS⟩
  have hxl : ((D.take i).map (fun k => decide (k < (c.N : Int)))).length = min i D.length := by rw [List.length_map, List.length_take]
  refine cw_seq ?_
  refine cw_seq ?_
  -- region 4
  refine cw_region ?_
  refine lw_v rfl rfl (ok_move rfl (.n rfl) rfl) ?_
  refine lw_v rfl rfl (ok_move rfl (.n rfl) rfl) ?_
  refine lw_v rfl rfl (ok_len rfl (.n rfl) Try.underlying26 rfl) ?_
  refine lw_v rfl rfl (ok_lss rfl (.n rfl) rfl rfl) ?_
  refine lw_nil ?_
  refine Ends.keep [(2, .eq _), (5, .eq _), (6, .eq _), (7, .eq _), (14, .eq _)] (.cons rfl (.cons rfl (.cons rfl (.cons rfl (.cons rfl .nil))))) ?_
  refine ends_then ?_
  refine cw_cond rfl (fun h14 => ?_) (fun h14 => ?_)
  ·
    have hlt : i < D.length := by have := of_decide_eq_true h14; omega
    refine cw_skip ?_
    refine ends_then ?_
    refine cw_seq ?_
    refine cw_block ?_
    -- region 6
    refine cw_draw (by kernel_rfl) (List.take 9 _) (List.drop 9 _) (List.take_append_drop 9 _).symm (by kernel_rfl) ?_
    refine free_v (ok_move rfl (.n rfl) rfl) ?_
    refine free_v (ok_move rfl (.n rfl) rfl) ?_
    refine free_v (ok_move rfl (.n rfl) rfl) ?_
    refine free_v (ok_ix rfl (.n rfl) Try.underlying26 Try.sizeOf3 rfl rfl hS (fun _ => ⟨by omega, by omega⟩)) ?_
    refine free_v (ok_ldx rfl (.n rfl) rfl Try.isAgg3 hS (fun _ => ⟨by omega, by omega⟩) (by rfl)) ?_
    refine free_v (ok_fb rfl (.n rfl) Try.underlying29 rfl Try.sizeOf3 (by decide) rfl) ?_
    refine free_v (ok_eq (ok_ldb rfl (.n rfl) rfl Try.isAgg3 hS (by rfl)) (c' := .int .i64 (c.N : Int)) (fun _ => rfl)) ?_
    refine free_v (ok_lss rfl (.n rfl) rfl rfl) ?_
    refine free_cons (ok_ls (enc := eBool) [decide (D.getD i 0 < (c.N : Int))] rfl rfl Try.underlying27 Try.sizeOf4 Try.zeroValue4 rfl (by kernel_rfl) rfl (by decide) (by decide)) ?_
    refine free_nil ?_
    intro w2 hg_
    refine LW.opened (s := 25) rfl ?_
    rintro _ ⟨A25, c25, rfl, ho_, hf_⟩; replace hS := hS.new hg_ _ ho_ hf_; clear ho_ hf_ hg_
    refine lw_append (enc := eBool) rfl rfl rfl Try.underlying27 info4 rfl rfl rfl hS (by decide) (by omega) (by omega) ?_
    intro A26 c26 w3 hS1; replace hS := hS1 _ (Rep.r); clear hS1
    refine lw_v rfl rfl (ok_assign rfl (.n rfl) rfl) ?_
    refine lw_nil ?_
    refine in_normal (?_)
    refine Ends.keep [(2, .eq _), (5, .eq _), (6, .eq _), (7, .eq _)] (.cons rfl (.cons rfl (.cons rfl (.cons rfl .nil)))) ?_
    refine ends_then ?_
    -- region 5
    refine cw_region ?_
    refine lw_v rfl rfl (ok_move rfl (.n rfl) rfl) ?_
    refine lw_v rfl rfl (ok_addi rfl (.n rfl) rfl rfl (fun _ => ⟨by omega, by omega⟩)) ?_
    refine lw_v rfl rfl (ok_assign rfl (.n rfl) rfl) ?_
    refine lw_nil ?_
    -- BACK
    have e : ((D.take i).map (fun k => decide (k < (c.N : Int)))) ++ [decide (D.getD i 0 < (c.N : Int))] = (D.take (i + 1)).map (fun k => decide (k < (c.N : Int))) := (map_step (by omega)).symm
    replace hS := hS.tail
    rw [e] at hS ⊢
    exact ends_back3 (i + 1) A26 c26 (.cons rfl (.cons rfl (.cons rfl (.cons rfl .nil)))) ⟨by omega, hS⟩ (by omega)
  ·
    have hie : i = D.length := by have := of_decide_eq_false h14; omega
    refine cw_exit ?_
    refine then_exit (then_exit (in_exit (?_)))
    refine Ends.keep [(6, .eq _)] (.cons rfl .nil) ?_
    refine ends_then ?_
    refine cw_seq ?_
    -- region 7
    refine cw_region ?_
    refine lw_v rfl rfl (ok_move rfl (.n rfl) rfl) ?_
    refine lw_v rfl rfl (ok_assign rfl (.n rfl) rfl) ?_
    refine lw_nil ?_
    refine Ends.keep [(4, .eq _)] (.cons rfl .nil) ?_
    refine ends_then ?_
    refine cw_ret ?_
    rw [List.take_of_length_le (by omega)] at hS ⊢
    exact end_ret (res1 Try.results63 rfl) ⟨A', c', rfl, hS.below, fun b hb => hS.ge _ (.head _) rfl b hb, hS.ok _ (.head _)⟩

end Go.Proofs.Ytnpgeohkmdcbkaa.Aq
