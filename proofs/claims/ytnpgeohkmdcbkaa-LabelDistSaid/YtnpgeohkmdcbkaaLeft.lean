/- The walk of acequialaw05.Left. -/
import Derived.Test.YtnpgeohkmdcbkaaRes
import Derived.Test.YtnpgeohkmdcbkaaMake
import Derived.Test.YtnpgeohkmdcbkaaA2
namespace Go.Proofs.Ytnpgeohkmdcbkaa.Aq
open Go Go.RowKit

set_option maxRecDepth 10000 in
/-- acequialaw05.Left: of a right net, and any numbers. -/
theorem f23 (n : Nt) (A : Option Addr) (c : Nat) (l : List Int) (A1 : Option Addr) (c1 : Nat) (w : World) (hok : NetOk n) (ha : (sl eArc 3 A n.arcs.length c n.arcs).p w) (hl : (sl (eInt .i64) 1 A1 l.length c1 l).p w) (hll : l.length ≤ 140737488351232) (hrng : ∀ x ∈ l, -9223372036854775808 ≤ x ∧ x ≤ 9223372036854775807) :
    Calls Try.prog 23 #[netV n A c, .slice A1 l.length c1] w fun e w' => ∃ q A6 c6, e = .returned (.tuple #[csV (makeF n) q, .slice A6 (resL n l).length c6]) ∧ Gr w w' ∧ CsNew (makeF n) q w.heap.size ∧ CsAt (makeF n) q w' ∧ (∀ b, (own (eInt .i64) 1 2 A6 (resL n l).length c6 (resL n l)).fp b → w.heap.size ≤ b) ∧ CsApart (makeF n) q (own (eInt .i64) 1 2 A6 (resL n l).length c6 (resL n l)).fp ∧ (own (eInt .i64) 1 2 A6 (resL n l).length c6 (resL n l)).p w' := by
  refine calls_cw Try.func23 rfl Try.ntmps23 rfl ?_
  have hS := ((St.start w).args (Nat.le_refl _) _ ha rfl).args (Nat.le_refl _) _ hl rfl
  have hwf := makeF_wf hok
  have hfo := flowOk hok l
  have hln := hok.len
  refine cw_seq ?_
  -- region 0
  refine cw_region ?_
  refine lw_box rfl rfl rfl rfl hS ?_
  clear hS; intro b2 w1 _ _ hS
  refine lw_alloc rfl rfl rfl Try.zeroValue29 hS ?_
  clear hS; intro b4 w2 _ _ hS
  refine lw_v rfl rfl (ok_assign rfl (.n rfl) rfl) ?_
  refine lw_nil ?_
  refine Ends.keep [(1, .eq _), (2, .eq _), (4, .eq _)] (.cons rfl (.cons rfl (.cons rfl .nil))) ?_
  refine ends_then ?_
  refine cw_seq ?_
  -- region 1
  refine cw_region ?_
  refine lw_v rfl rfl (ok_ldS rfl (.n rfl) rfl Try.isAgg24 Try.sizeOf24 hS rfl) ?_
  refine lw_call (f := 66) (xs := [_]) rfl rfl rfl Try.call66 rfl (Calls.mono (f66 n A c _ hok (hS.ok _ (.tail _ (.tail _ (.tail _ (.head _)))))) ?_)
  rintro e w3 ⟨q, rfl, hg, hnew, hat⟩
  have hnew' : CsNew (makeF n) q w.heap.size := hnew.mono fun a h b hb => Nat.le_trans hS.base (h b hb)
  replace hS := hS.csr hg hat hnew; clear hg
  refine ⟨_, rfl, ?_⟩
  refine lw_v rfl rfl (ok_move rfl (.n rfl) rfl) ?_
  refine lw_v rfl rfl (ok_extract rfl (.n rfl) rfl rfl) ?_
  refine lw_v rfl rfl (ok_extract rfl (.n rfl) rfl rfl) ?_
  refine lw_alloc rfl rfl rfl Try.zeroValue29 hS ?_
  clear hS; intro b6 w3 _ _ hS
  refine lw_stS rfl rfl rfl rfl rfl (by kernel_rfl) hS rfl (by rfl) (by rfl) ?_
  clear hS; intro w4 hS
  refine lw_v rfl rfl (ok_assign rfl (.n rfl) rfl) ?_
  refine lw_nil ?_
  refine Ends.keep [(1, .eq _), (2, .eq _), (4, .eq _), (6, .eq _)] (.cons rfl (.cons rfl (.cons rfl (.cons rfl .nil)))) ?_
  refine ends_then ?_
  refine cw_seq ?_
  -- region 2
  refine cw_draw (by kernel_rfl) (List.take 9 _) (List.drop 9 _) (List.take_append_drop 9 _).symm (by kernel_rfl) ?_
  refine free_v (ok_ldS rfl (.n rfl) rfl Try.isAgg29 Try.sizeOf29 hS rfl) ?_
  refine free_v (ok_ldS rfl (.n rfl) rfl Try.isAgg24 Try.sizeOf24 hS rfl) ?_
  refine free_v (ok_move rfl (.n rfl) rfl) ?_
  refine free_cons (ok_call (fun v w' => ∃ A5 c5, v = .slice A5 n.arcs.length c5 ∧ (own (eInt .i64) 1 2 A5 n.arcs.length c5 (withinL n l)).p w') rfl rfl Try.call68 rfl (fun w' hg => (f68 n A c l A1 c1 w' hok ((hS.grow hg).rd A (by omega)) ((hS.grow hg).rd A1 hll) hrng).mono fun e w2 ⟨A5, c5, he, hg2, _, ho⟩ => ⟨_, he, hg2, fun w3 hg3 => ⟨A5, c5, rfl, Asn.grow _ ho hg3⟩⟩)) ?_
  refine free_cons (ok_callS (fun v w' => ∃ A6 c6, v = .tuple #[.slice A6 (resL n l).length c6, .int .i64 0] ∧ (∀ b, (own (eInt .i64) 1 2 A6 (resL n l).length c6 (resL n l)).fp b → w4.heap.size ≤ b) ∧ (own (eInt .i64) 1 2 A6 (resL n l).length c6 (resL n l)).p w') (xs := [_, _]) rfl rfl Try.call67 (fun vs w' hg hv => by
        match vs, hv with
        | [v1, v2], hv =>
          obtain ⟨h1, ⟨A5, c5, rfl, ho⟩, _⟩ := hv
          have h1' : v1 = csV (makeF n) q := h1
          subst h1'
          have hk := f67 (makeF n) q (withinL n l) A5 c5 w' hwf ((hS.grow hg).cs q) (by rw [withinL_len]; exact own_sl ho (by omega)) hfo
          rw [withinL_len] at hk
          exact hk.mono fun e w2 ⟨A6, c6, he, hg2, hfr, ho6⟩ => ⟨_, he, hg2, fun w3 hg3 => ⟨A6, c6, rfl, fun b hb => Nat.le_trans (Gr.size hg) (hfr b hb), Asn.grow _ ho6 hg3⟩⟩)) ?_
  refine free_v (ok_mvS rfl (.inl rfl) rfl) ?_
  refine free_v (ok_exS (G := (fun v w' => ∃ A6 c6, v = .slice A6 (resL n l).length c6 ∧ (∀ b, (own (eInt .i64) 1 2 A6 (resL n l).length c6 (resL n l)).fp b → w4.heap.size ≤ b) ∧ (own (eInt .i64) 1 2 A6 (resL n l).length c6 (resL n l)).p w')) rfl rfl rfl (fun v w' ⟨A6, c6, e, h1, h2⟩ => ⟨_, _, e, rfl, A6, c6, rfl, h1, h2⟩)) ?_
  refine free_v (ok_exS (G := fun v _ => v = .int .i64 0) rfl rfl rfl (fun v w' ⟨A6, c6, e, h1, h2⟩ => ⟨_, _, e, rfl, rfl⟩)) ?_
  refine free_v (ok_mvS rfl (.inr rfl) rfl) ?_
  refine free_nil ?_
  intro w9 hg9
  refine LW.opened (s := 22) rfl ?_; rintro _ rfl
  refine LW.opened (s := 8) rfl ?_; rintro _ ⟨A6, c6, rfl, hf6, ho6⟩
  replace hS := hS.new hg9 _ ho6 hf6; clear ho6
  refine lw_v rfl rfl (ok_assign rfl (.n rfl) rfl) ?_
  refine lw_nil ?_
  refine Ends.keep [(4, .eq _), (6, .eq _), (8, .eq _)] (.cons rfl (.cons rfl (.cons rfl .nil))) ?_
  refine ends_then ?_
  refine cw_seq ?_
  -- region 3
  refine cw_region ?_
  refine lw_v rfl rfl (ok_ldS rfl (.n rfl) rfl Try.isAgg29 Try.sizeOf29 hS rfl) ?_
  refine lw_v rfl rfl (ok_move rfl (.n rfl) rfl) ?_
  refine lw_stS rfl rfl rfl rfl rfl (by kernel_rfl) hS rfl (by rfl) (by rfl) ?_
  clear hS; intro w5 hS
  refine lw_v rfl rfl (ok_assign rfl (.n rfl) rfl) ?_
  refine lw_nil ?_
  refine Ends.keep [(4, .eq _), (5, .eq _)] (.cons rfl (.cons rfl .nil)) ?_
  refine ends_then ?_
  refine cw_ret ?_
  exact end_ret (resST Try.results23 rfl rfl Try.isAgg29 Try.sizeOf29 hS rfl) ⟨q, A6, c6, rfl, hS.below, hnew', hS.cs q, hS.ge _ (.head _) rfl, hS.csApart q rfl, hS.ok _ (.head _)⟩

end Go.Proofs.Ytnpgeohkmdcbkaa.Aq
