/- The walk of acequialaw05.awake. -/
import Derived.Test.YtnpgeohkmdcbkaaRows5
import Derived.Test.YtnpgeohkmdcbkaaEx05
import Derived.Test.YtnpgeohkmdcbkaaLeft
import Derived.Test.YtnpgeohkmdcbkaaF30
namespace Go.Proofs.Ytnpgeohkmdcbkaa.Aq
open Go Go.RowKit

theorem f23e (n : Nt) (A : Option Addr) (c : Nat) (l : List Int) (A1 : Option Addr) (c1 : Nat) (w : World) {C : Cs} {R : List Int} (hok : NetOk n) (hC : makeF n = C) (hR : resL n l = R) (ha : (sl eArc 3 A n.arcs.length c n.arcs).p w) (hl : (sl (eInt .i64) 1 A1 l.length c1 l).p w) (hll : l.length ≤ 140737488351232) (hrng : ∀ x ∈ l, -9223372036854775808 ≤ x ∧ x ≤ 9223372036854775807) :
    Calls Try.prog 23 #[netV n A c, .slice A1 l.length c1] w fun e w' => ∃ q A6 c6, e = .returned (.tuple #[csV C q, .slice A6 R.length c6]) ∧ Gr w w' ∧ CsNew C q w.heap.size ∧ CsAt C q w' ∧ (∀ b, (own (eInt .i64) 1 2 A6 R.length c6 R).fp b → w.heap.size ≤ b) ∧ CsApart C q (own (eInt .i64) 1 2 A6 R.length c6 R).fp ∧ (own (eInt .i64) 1 2 A6 R.length c6 R).p w' := by
  subst hC; subst hR; exact f23 n A c l A1 c1 w hok ha hl hll hrng
theorem f30s (A1 : Option Addr) (c1 : Nat) (A2 : Option Addr) (c2 : Nat) {m1 m2 : Nat} (xs : List Int) (w : World) (h1 : (sl (eInt .i64) 1 A1 m1 c1 xs).p w) (h2 : (sl (eInt .i64) 1 A2 m2 c2 xs).p w) : RetV 30 [.slice A1 m1 c1, .slice A2 m2 c2] w (.bool true) := by
  have := f30g A1 c1 A2 c2 w xs xs h1 h2
  rwa [decide_eq_true rfl] at this
theorem St.rows {B : Nat} {we w w' : World} {L : List Asn} (h : St B we w L) {hs : List Hd} {xss : List (List Int)} {A : Option Addr} {m c : Nat} (g : Gr w w') (h1 : (sl eSl 1 A m c hs).p w') (h2 : (sls hs xss).p w') (f1 : ∀ b, (sl eSl 1 A m c hs).fp b → w.heap.size ≤ b) (f2 : ∀ b, (sls hs xss).fp b → w.heap.size ≤ b) :
    St B we w' (sl eSl 1 A m c hs :: sls hs xss :: L) :=
  h.newl [sl eSl 1 A m c hs, sls hs xss] g fun a ha => by
    simp only [List.mem_cons, List.not_mem_nil, or_false] at ha
    rcases ha with rfl | rfl
    · exact ⟨rfl, h1, f1⟩
    · exact ⟨rfl, h2, f2⟩
set_option maxRecDepth 10000 in
/-- acequialaw05.awake. -/
theorem f43 (w : World) : Calls Try.prog 43 #[] w fun e w' => e = .returned (.bool true) ∧ Gr w w' := by
  refine calls_cw Try.func43 rfl Try.ntmps43 rfl ?_
  obtain ⟨C, hC⟩ : ∃ C, makeF n05 = C := ⟨_, rfl⟩
  obtain ⟨R, hR⟩ : ∃ R, resL n05 [] = R := ⟨_, rfl⟩
  obtain ⟨R2, hR2⟩ : ∃ R, resL n05 [0, 0, 1] = R := ⟨_, rfl⟩
  have hwf : WF C := hC ▸ makeF_wf ok05
  have m1 := m05a
  have m2 := m05b
  have e1 := to05a
  have e2 := from05a
  have e3 := to05b
  have e4 := from05b
  have e5 := rows05
  rw [hR] at m1 e1 e2 e5
  rw [hR2] at m2 e3 e4
  rw [hC] at e1 e2 e3 e4 e5
  have hS := St.start w
  refine cw_seq ?_
  -- region 0
  refine cw_region ?_
  refine lw_v rfl rfl (ok_assign rfl (.n rfl) rfl) ?_
  refine lw_nil ?_
  refine Ends.keep [] .nil ?_
  refine ends_then ?_
  refine cw_seq ?_
  -- region 1
  refine cw_region ?_
  refine lw_v rfl rfl (ok_build rfl (.n rfl) Try.underlying82 Try.zeroValue82 pl82 rfl rfl) ?_
  refine lw_v rfl rfl (ok_build rfl (.n rfl) Try.underlying82 Try.zeroValue82 pl82 rfl rfl) ?_
  refine lw_v rfl rfl (ok_build rfl (.n rfl) Try.underlying82 Try.zeroValue82 pl82 rfl rfl) ?_
  refine lw_ls (enc := eArc) [(0, 1, 1), (1, 2, 1), (0, 2, 1)] rfl rfl rfl Try.underlying22 Try.sizeOf82 Try.zeroValue82 rfl (by kernel_rfl) rfl (by decide) (by decide) hS ?_
  clear hS; intro A9 c9 w1 _ hS
  refine lw_v rfl rfl (ok_build rfl (.n rfl) Try.underlying24 Try.zeroValue24 pl24 rfl rfl) ?_
  refine lw_alloc rfl rfl rfl Try.zeroValue24 hS ?_
  clear hS; intro b1 w2 _ _ hS
  refine lw_stS rfl rfl rfl rfl rfl (by kernel_rfl) hS rfl (by rfl) (by rfl) ?_
  clear hS; intro w3 hS
  refine lw_nil ?_
  refine Ends.keep [(1, .eq _)] (.cons rfl .nil) ?_
  refine ends_then ?_
  refine cw_seq ?_
  -- region 2
  refine cw_region ?_
  refine lw_v rfl rfl (ok_ldS rfl (.n rfl) rfl Try.isAgg24 Try.sizeOf24 hS rfl) ?_
  refine lw_call (f := 23) (xs := [_, _]) rfl rfl rfl Try.call23 rfl (Calls.mono (f23e n05 A9 c9 [] none 0 _ ok05 hC hR (hS.rd A9 (by decide)) ((hS.nils (eInt .i64) 1).ok _ (.head _)) (by decide) (fun x hx => by cases hx)) ?_)
  rintro e w' ⟨q, A6, c6, rfl, hg, hnew, hat, hfr, hap, ho⟩
  replace hS := hS.left hg hat hnew ho hfr hap; clear hg hnew hat hfr hap ho
  refine ⟨_, rfl, ?_⟩
  refine lw_v rfl rfl (ok_move rfl (.n rfl) rfl) ?_
  refine lw_v rfl rfl (ok_extract rfl (.n rfl) rfl rfl) ?_
  refine lw_v rfl rfl (ok_extract rfl (.n rfl) rfl rfl) ?_
  refine lw_alloc rfl rfl rfl Try.zeroValue29 hS ?_
  clear hS; intro b2 w4 _ _ hS
  refine lw_stS rfl rfl rfl rfl rfl (by kernel_rfl) hS rfl (by rfl) (by rfl) ?_
  clear hS; intro w5 hS
  refine lw_v rfl rfl (ok_assign rfl (.n rfl) rfl) ?_
  refine lw_nil ?_
  refine Ends.keep [(1, .eq _), (2, .eq _), (3, .eq _)] (.cons rfl (.cons rfl (.cons rfl .nil))) ?_
  refine ends_then ?_
  refine cw_seq ?_
  -- region 3
  refine cw_region ?_
  refine lw_v rfl rfl (ok_ldS rfl (.n rfl) rfl Try.isAgg24 Try.sizeOf24 hS rfl) ?_
  refine lw_ls (enc := (eInt .i64)) [0, 0, 1] rfl rfl rfl Try.underlying25 Try.sizeOf2 Try.zeroValue2 rfl (by kernel_rfl) rfl (by decide) (by decide) hS ?_
  clear hS; intro A18 c18 w6 _ hS
  refine lw_call (f := 23) (xs := [_, _]) rfl rfl rfl Try.call23 rfl (Calls.mono (f23e n05 A9 c9 [0, 0, 1] A18 c18 _ ok05 hC hR2 (hS.rd A9 (by decide)) (hS.rd A18 (by decide)) (by decide) (fun x hx => by simp only [List.mem_cons, List.not_mem_nil, or_false] at hx; omega)) ?_)
  rintro e w' ⟨q2, B6, d6, rfl, hg, hnew, hat, hfr, hap, ho⟩
  replace hS := hS.left hg hat hnew ho hfr hap; clear hg hnew hat hfr hap ho
  refine ⟨_, rfl, ?_⟩
  refine lw_v rfl rfl (ok_move rfl (.n rfl) rfl) ?_
  refine lw_v rfl rfl (ok_extract rfl (.n rfl) rfl rfl) ?_
  refine lw_v rfl rfl (ok_extract rfl (.n rfl) rfl rfl) ?_
  refine lw_alloc rfl rfl rfl Try.zeroValue29 hS ?_
  clear hS; intro b4 w7 _ _ hS
  refine lw_stS rfl rfl rfl rfl rfl (by kernel_rfl) hS rfl (by rfl) (by rfl) ?_
  clear hS; intro w8 hS
  refine lw_v rfl rfl (ok_assign rfl (.n rfl) rfl) ?_
  refine lw_nil ?_
  refine Ends.keep [(2, .eq _), (3, .eq _), (5, .eq _)] (.cons rfl (.cons rfl (.cons rfl .nil))) ?_
  refine ends_then ?_
  refine cw_seq ?_
  -- region 4
  refine cw_region ?_
  refine lw_v rfl rfl (ok_ldS rfl (.n rfl) rfl Try.isAgg29 Try.sizeOf29 hS rfl) ?_
  refine lw_v rfl rfl (ok_move rfl (.n rfl) rfl) ?_
  refine lw_call (f := 41) (xs := [_, _, _]) rfl rfl rfl Try.call41 rfl (Calls.mono (f41 C q R 2 A6 c6 _ hwf (hS.cs q) (hS.rd A6 (by omega))) ?_)
  rw [e1]
  rintro e w' ⟨A24, c24, rfl, hg, hfr, ho⟩
  replace hS := hS.new hg _ ho hfr; clear hg ho hfr
  refine ⟨_, rfl, ?_⟩
  refine lw_ls (enc := (eInt .i64)) [1, 1, 0, 4] rfl rfl rfl Try.underlying26 Try.sizeOf3 Try.zeroValue3 rfl (by kernel_rfl) rfl (by decide) (by decide) hS ?_
  clear hS; intro A25 c25 w9 _ hS
  refine lw_call (f := 30) (xs := [_, _]) rfl rfl rfl Try.call30 rfl (Calls.mono (f30s A24 c24 A25 c25 [1, 1, 0, 4] _ (hS.rd A24 (by decide)) (hS.rd A25 (by decide))) ?_)
  rintro e w' ⟨rfl, hg⟩
  replace hS := hS.grow hg; clear hg
  refine ⟨_, rfl, ?_⟩
  refine lw_v rfl rfl (ok_move rfl (.n rfl) rfl) ?_
  refine lw_on (.s rfl rfl) rfl ?_
  refine lw_v rfl rfl (ok_ldS rfl (.n rfl) rfl Try.isAgg29 Try.sizeOf29 hS rfl) ?_
  refine lw_on (.s rfl rfl) rfl ?_
  refine lw_v rfl rfl (ok_move rfl (.n rfl) rfl) ?_
  refine lw_on (.s rfl rfl) rfl ?_
  refine lw_call (f := 42) (xs := [_, _, _]) rfl rfl rfl Try.call42 rfl (Calls.mono (f42 C q R 1 A6 c6 _ hwf (hS.cs q) (hS.rd A6 (by omega))) ?_)
  rw [e2]
  rintro e w' ⟨A30, c30, rfl, hg, hfr, ho⟩
  replace hS := hS.new hg _ ho hfr; clear hg ho hfr
  refine ⟨_, rfl, ?_⟩
  refine lw_on (.s rfl rfl) rfl ?_
  refine lw_ls (enc := (eInt .i64)) [4, 0, 1, 4] rfl rfl rfl Try.underlying26 Try.sizeOf3 Try.zeroValue3 rfl (by kernel_rfl) rfl (by decide) (by decide) hS ?_
  clear hS; intro A31 c31 w10 _ hS
  refine lw_on (.s rfl rfl) rfl ?_
  refine lw_call (f := 30) (xs := [_, _]) rfl rfl rfl Try.call30 rfl (Calls.mono (f30s A30 c30 A31 c31 [4, 0, 1, 4] _ (hS.rd A30 (by decide)) (hS.rd A31 (by decide))) ?_)
  rintro e w' ⟨rfl, hg⟩
  replace hS := hS.grow hg; clear hg
  refine ⟨_, rfl, ?_⟩
  refine lw_v rfl rfl (ok_pick rfl rfl rfl rfl rfl) ?_
  refine lw_v rfl rfl (ok_move rfl (.n rfl) rfl) ?_
  refine lw_on (.s rfl rfl) rfl ?_
  refine lw_v rfl rfl (ok_ldS rfl (.n rfl) rfl Try.isAgg29 Try.sizeOf29 hS rfl) ?_
  refine lw_on (.s rfl rfl) rfl ?_
  refine lw_v rfl rfl (ok_move rfl (.n rfl) rfl) ?_
  refine lw_on (.s rfl rfl) rfl ?_
  refine lw_call (f := 41) (xs := [_, _, _]) rfl rfl rfl Try.call41 rfl (Calls.mono (f41 C q R2 2 B6 d6 _ hwf (hS.cs q) (hS.rd B6 (by omega))) ?_)
  rw [e3]
  rintro e w' ⟨A37, c37, rfl, hg, hfr, ho⟩
  replace hS := hS.new hg _ ho hfr; clear hg ho hfr
  refine ⟨_, rfl, ?_⟩
  refine lw_on (.s rfl rfl) rfl ?_
  refine lw_ls (enc := (eInt .i64)) [2, 1, 0, 4] rfl rfl rfl Try.underlying26 Try.sizeOf3 Try.zeroValue3 rfl (by kernel_rfl) rfl (by decide) (by decide) hS ?_
  clear hS; intro A38 c38 w11 _ hS
  refine lw_on (.s rfl rfl) rfl ?_
  refine lw_call (f := 30) (xs := [_, _]) rfl rfl rfl Try.call30 rfl (Calls.mono (f30s A37 c37 A38 c38 [2, 1, 0, 4] _ (hS.rd A37 (by decide)) (hS.rd A38 (by decide))) ?_)
  rintro e w' ⟨rfl, hg⟩
  replace hS := hS.grow hg; clear hg
  refine ⟨_, rfl, ?_⟩
  refine lw_v rfl rfl (ok_pick rfl rfl rfl rfl rfl) ?_
  refine lw_v rfl rfl (ok_move rfl (.n rfl) rfl) ?_
  refine lw_on (.s rfl rfl) rfl ?_
  refine lw_v rfl rfl (ok_ldS rfl (.n rfl) rfl Try.isAgg29 Try.sizeOf29 hS rfl) ?_
  refine lw_on (.s rfl rfl) rfl ?_
  refine lw_v rfl rfl (ok_move rfl (.n rfl) rfl) ?_
  refine lw_on (.s rfl rfl) rfl ?_
  refine lw_call (f := 42) (xs := [_, _, _]) rfl rfl rfl Try.call42 rfl (Calls.mono (f42 C q R2 2 B6 d6 _ hwf (hS.cs q) (hS.rd B6 (by omega))) ?_)
  rw [e4]
  rintro e w' ⟨A44, c44, rfl, hg, hfr, ho⟩
  replace hS := hS.new hg _ ho hfr; clear hg ho hfr
  refine ⟨_, rfl, ?_⟩
  refine lw_on (.s rfl rfl) rfl ?_
  refine lw_ls (enc := (eInt .i64)) [1, 2, 0, 4] rfl rfl rfl Try.underlying26 Try.sizeOf3 Try.zeroValue3 rfl (by kernel_rfl) rfl (by decide) (by decide) hS ?_
  clear hS; intro A45 c45 w12 _ hS
  refine lw_on (.s rfl rfl) rfl ?_
  refine lw_call (f := 30) (xs := [_, _]) rfl rfl rfl Try.call30 rfl (Calls.mono (f30s A44 c44 A45 c45 [1, 2, 0, 4] _ (hS.rd A44 (by decide)) (hS.rd A45 (by decide))) ?_)
  rintro e w' ⟨rfl, hg⟩
  replace hS := hS.grow hg; clear hg
  refine ⟨_, rfl, ?_⟩
  refine lw_v rfl rfl (ok_pick rfl rfl rfl rfl rfl) ?_
  refine lw_v rfl rfl (ok_move rfl (.n rfl) rfl) ?_
  refine lw_on (.s rfl rfl) rfl ?_
  refine lw_v rfl rfl (ok_ldS rfl (.n rfl) rfl Try.isAgg29 Try.sizeOf29 hS rfl) ?_
  refine lw_on (.s rfl rfl) rfl ?_
  refine lw_v rfl rfl (ok_move rfl (.n rfl) rfl) ?_
  refine lw_on (.s rfl rfl) rfl ?_
  refine lw_call (f := 49) (xs := [_, _, _]) rfl rfl rfl Try.call49 rfl (Calls.mono (f49 C q R 2 A6 c6 _ hwf (hS.cs q) (hS.rd A6 (by omega))) ?_)
  rw [e5]
  rintro e w' ⟨A51, c51, hs51, rfl, hg, hf1, hf2, ho1, ho2⟩
  replace hS := hS.rows hg ho1 ho2 hf1 hf2; clear hg ho1 ho2 hf1 hf2
  refine ⟨_, rfl, ?_⟩
  refine lw_on (.s rfl rfl) rfl ?_
  refine lw_ls (enc := (eInt .i64)) [2] rfl rfl rfl Try.underlying26 Try.sizeOf3 Try.zeroValue3 rfl (by kernel_rfl) rfl (by decide) (by decide) hS ?_
  clear hS; intro A52 c52 w13 _ hS
  refine lw_on (.s rfl rfl) rfl ?_
  refine lw_ls (enc := (eInt .i64)) [0, 1] rfl rfl rfl Try.underlying26 Try.sizeOf3 Try.zeroValue3 rfl (by kernel_rfl) rfl (by decide) (by decide) hS ?_
  clear hS; intro A53 c53 w14 _ hS
  refine lw_on (.s rfl rfl) rfl ?_
  refine lw_ls (enc := eSl) [(A52, 1, c52), (A53, 2, c53)] rfl rfl rfl Try.underlying47 Try.sizeOf26 Try.zeroValue26 rfl (by kernel_rfl) rfl (by decide) (by decide) hS ?_
  clear hS; intro A54 c54 w15 _ hS
  refine lw_on (.s rfl rfl) rfl ?_
  refine lw_call (f := 58) (xs := [_, _]) rfl rfl rfl Try.call58 rfl (Calls.mono (f58 [[2], [0, 1]] [[2], [0, 1]] hs51 [(A52, 1, c52), (A53, 2, c53)] A51 c51 A54 c54 _ (hS.ok _ (.tail _ (.tail _ (.tail _ (.head _))))) (hS.rd A54 (by decide)) (hS.ok _ (.tail _ (.tail _ (.tail _ (.tail _ (.head _)))))) ⟨rfl, fun k hk => match k, hk with
    | 0, _ => hS.rd A52 (by decide)
    | 1, _ => hS.rd A53 (by decide)⟩) ?_)
  rintro e w' ⟨rfl, hg⟩
  replace hS := hS.grow hg; clear hg
  refine ⟨_, rfl, ?_⟩
  refine lw_v rfl rfl (ok_pick rfl rfl rfl rfl rfl) ?_
  refine lw_v rfl rfl (ok_assign rfl (.n rfl) rfl) ?_
  refine lw_nil ?_
  refine Ends.keep [(0, .eq _)] (.cons rfl .nil) ?_
  refine ends_then ?_
  refine cw_ret ?_
  exact end_ret (res1 Try.results43 rfl) ⟨rfl, hS.below⟩

end Go.Proofs.Ytnpgeohkmdcbkaa.Aq
