/- The walk of the law LabelTells. -/
import Derived.Test.YtnpgeohkmdcbkaaLabD
import Derived.Test.YtnpgeohkmdcbkaaLeft
import Derived.Test.YtnpgeohkmdcbkaaAw06
import Derived.Test.YtnpgeohkmdcbkaaF30
import Derived.Test.YtnpgeohkmdcbkaaA3
import Derived.Test.YtnpgeohkmdcbkaaAH
namespace Go.Proofs.Ytnpgeohkmdcbkaa.Aq
open Go Go.RowKit

set_option maxRecDepth 10000 in
/-- acequialaw06.LabelTells. -/
theorem f3 (n : Nt) (A : Option Addr) (c : Nat) (l : List Int) (A1 : Option Addr) (c1 : Nat) (h : List Int) (A2 : Option Addr) (c2 : Nat) (u odd : Int) (w : World) (ha : (sl eArc 3 A n.arcs.length c n.arcs).p w) (hrgn : (-9223372036854775808 ≤ n.N ∧ n.N ≤ 9223372036854775807) ∧ (-9223372036854775808 ≤ n.S ∧ n.S ≤ 9223372036854775807) ∧ (-9223372036854775808 ≤ n.T ∧ n.T ≤ 9223372036854775807) ∧ ∀ a ∈ n.arcs, -9223372036854775808 ≤ a.1 ∧ a.1 ≤ 9223372036854775807 ∧ -9223372036854775808 ≤ a.2.1 ∧ a.2.1 ≤ 9223372036854775807 ∧ -9223372036854775808 ≤ a.2.2 ∧ a.2.2 ≤ 9223372036854775807) (hl : (sl (eInt .i64) 1 A1 l.length c1 l).p w) (hrgl : ∀ x ∈ l, -9223372036854775808 ≤ x ∧ x ≤ 9223372036854775807) (hh : (sl (eInt .i64) 1 A2 h.length c2 h).p w) (hrgh : ∀ x ∈ h, -9223372036854775808 ≤ x ∧ x ≤ 9223372036854775807) :
    Calls Try.prog 3 #[netV n A c, .slice A1 l.length c1, .slice A2 h.length c2, .int .i64 u, .int .u8 odd] w fun e w' => e = .returned (.bool true) ∧ Gr w w' := by
  refine calls_cw Try.func3 rfl Try.ntmps3 rfl ?_
  have hok := someN_ok n
  have hwf := makeF_wf hok
  have hro := resL_ok hok l
  have hM := hwf.m
  have hrlen := hro.len
  have hS := (((St.start w).args (Nat.le_refl _) _ ha rfl).args (Nat.le_refl _) _ hl rfl).args (Nat.le_refl _) _ hh rfl
  refine cw_seq ?_
  -- region 0
  refine cw_region ?_
  refine lw_box rfl rfl rfl rfl hS ?_
  clear hS; intro b5 w1 _ _ hS
  refine lw_v rfl rfl (ok_assign rfl (.n rfl) rfl) ?_
  refine lw_nil ?_
  refine Ends.keep [(1, .eq _), (2, .eq _), (3, .eq _), (4, .eq _), (5, .eq _)] (.cons rfl (.cons rfl (.cons rfl (.cons rfl (.cons rfl .nil))))) ?_
  refine ends_then ?_
  refine cw_seq ?_
  -- region 1
  refine cw_region ?_
  refine lw_v rfl rfl (ok_ldS rfl (.n rfl) rfl Try.isAgg24 Try.sizeOf24 hS rfl) ?_
  refine lw_call (f := 24) (xs := [_, _, _]) rfl rfl rfl Try.call24 rfl (Calls.mono (f24 n A c _ (hS.rd A (by have := ha.2.1; omega)) hrgn) ?_)
  rintro e w' ⟨AS, cS, rfl, hg, hfr, ho⟩
  replace hS := hS.new hg _ ho hfr; clear hg ho hfr
  refine ⟨_, rfl, ?_⟩
  refine lw_v rfl rfl (ok_move rfl (.n rfl) rfl) ?_
  refine lw_call (f := 23) (xs := [_, _]) rfl rfl rfl Try.call23 rfl (Calls.mono (f23 (someN n) AS cS l A1 c1 _ (someN_ok n) (hS.rd AS (by have := (someN_ok n).len; omega)) (hS.rd A1 hl.2.1) hl.2.1 hrgl) ?_)
  rintro e w' ⟨q, A6, c6, rfl, hg, hnew, hat, hfr, hap, ho⟩
  replace hS := hS.left hg hat hnew ho hfr hap; replace hS := hS.freeze .here (by omega); clear hg
  refine ⟨_, rfl, ?_⟩
  refine lw_v rfl rfl (ok_move rfl (.n rfl) rfl) ?_
  refine lw_v rfl rfl (ok_extract rfl (.n rfl) rfl rfl) ?_
  refine lw_v rfl rfl (ok_extract rfl (.n rfl) rfl rfl) ?_
  refine lw_alloc rfl rfl rfl Try.zeroValue29 hS ?_
  clear hS; intro b11 w2 _ _ hS
  refine lw_stS rfl rfl rfl rfl rfl (by kernel_rfl) hS rfl (by rfl) (by rfl) ?_
  clear hS; intro w3 hS
  refine lw_v rfl rfl (ok_assign rfl (.n rfl) rfl) ?_
  refine lw_nil ?_
  refine Ends.keep [(2, .eq _), (3, .eq _), (4, .eq _), (11, .eq _), (12, .eq _)] (.cons rfl (.cons rfl (.cons rfl (.cons rfl (.cons rfl .nil))))) ?_
  refine ends_then ?_
  refine cw_cut3 [(3, .eq _), (4, .eq _), (11, .eq _), (12, .eq _)] (fun (A3 : Option Addr) (c3 : Nat) (hh : List Int) => [(2, .eq (.slice A3 hh.length c3))]) (fun A3 c3 hh w' => hh.length ≤ 140737488351232 ∧ St w.heap.size w w' (sl (eInt .i64) 1 A3 hh.length c3 hh :: bx b11 (csV (makeF (someN n)) q).cells.toList 29 :: sl (eInt .i64) 1 A6 (resL (someN n) l).length c6 (resL (someN n) l) :: [sl (eInt .i64) 1 q.a0 (makeF (someN n)).First.length q.c0 (makeF (someN n)).First, sl (eInt .i64) 1 q.a1 (makeF (someN n)).Head.length q.c1 (makeF (someN n)).Head, sl (eInt .i64) 1 q.a2 (makeF (someN n)).Rev.length q.c2 (makeF (someN n)).Rev, sl (eInt .i64) 1 q.a3 (makeF (someN n)).Cap.length q.c3 (makeF (someN n)).Cap, sl (eInt .i64) 1 q.a4 (makeF (someN n)).Arc.length q.c4 (makeF (someN n)).Arc, sl eBool 1 q.a5 (makeF (someN n)).Back.length q.c5 (makeF (someN n)).Back, own eArc 3 82 AS (someN n).arcs.length cS (someN n).arcs, bx b5 (netV n A c).cells.toList 24, sl (eInt .i64) 1 A2 h.length c2 h, sl (eInt .i64) 1 A1 l.length c1 l, sl eArc 3 A n.arcs.length c n.arcs])) (.cons rfl (.cons rfl (.cons rfl (.cons rfl .nil)))) ?_ ?_
  ·
    refine cw_seq ?_
    -- region 2
    refine cw_region ?_
    refine lw_v rfl rfl (ok_move rfl (.n rfl) rfl) ?_
    refine lw_v rfl rfl (ok_rem rfl (.n rfl) rfl rfl (fun _ => by omega)) ?_
    refine lw_v rfl rfl (ok_gtr rfl (.n rfl) rfl rfl) ?_
    refine lw_nil ?_
    refine Ends.keep [(2, .eq _), (3, .eq _), (4, .eq _), (11, .eq _), (12, .eq _), (28, .eq _)] (.cons rfl (.cons rfl (.cons rfl (.cons rfl (.cons rfl (.cons rfl .nil)))))) ?_
    refine ends_then ?_
    refine cw_cond rfl (fun h28 => ?_) (fun h28 => ?_)
    ·
      -- region 3
      refine cw_region ?_
      refine lw_v rfl rfl (ok_ldS rfl (.n rfl) rfl Try.isAgg29 Try.sizeOf29 hS rfl) ?_
      refine lw_v rfl rfl (ok_move rfl (.n rfl) rfl) ?_
      refine lw_call (f := 25) (xs := [_, _]) rfl rfl rfl Try.call25 rfl (Calls.mono (f25' (makeF (someN n)) q h A2 c2 _ hwf (hS.rd A2 hh.2.1) hrgh) ?_)
      rintro e w' ⟨A9, c9, rfl, hg, hfr, ho⟩
      replace hS := hS.new hg _ ho hfr; clear hg ho hfr
      replace hS := hS.freeze .here (by rw [heightsF_len]; have := hwf.hi; omega)
      refine ⟨_, rfl, ?_⟩
      refine lw_v rfl rfl (ok_assign rfl (.n rfl) rfl) ?_
      refine lw_nil ?_
      -- CUT
      refine ends_cut3 A9 c9 (heightsF (makeF (someN n)) h) (.cons rfl (.cons rfl (.cons rfl (.cons rfl (.cons rfl .nil))))) ⟨by rw [heightsF_len]; have := hwf.hi; omega, hS⟩
    ·
      refine cw_skip ?_
      -- CUT
      refine ends_cut3 A2 c2 h (.cons rfl (.cons rfl (.cons rfl (.cons rfl (.cons rfl .nil))))) ⟨hh.2.1, hS.dup (.tail _ (.tail _ (.tail _ (.tail _ (.tail _ (.tail _ (.tail _ (.tail _ (.tail _ (.tail _ (.head _))))))))))) rfl⟩
  ·
    clear hS; rintro A3 c3 hh wc ⟨hh3, hS⟩
    refine cw_cut3 [(2, .eq _), (3, .eq _), (11, .eq _)] (fun (A6 : Option Addr) (c6 : Nat) (rs : List Int) => [(12, .eq (.slice A6 rs.length c6))]) (fun A6 c6 rs w' => rs.length ≤ 140737488351232 ∧ St w.heap.size w w' (sl (eInt .i64) 1 A6 rs.length c6 rs :: sl (eInt .i64) 1 A3 hh.length c3 hh :: bx b11 (csV (makeF (someN n)) q).cells.toList 29 :: [sl (eInt .i64) 1 q.a0 (makeF (someN n)).First.length q.c0 (makeF (someN n)).First, sl (eInt .i64) 1 q.a1 (makeF (someN n)).Head.length q.c1 (makeF (someN n)).Head, sl (eInt .i64) 1 q.a2 (makeF (someN n)).Rev.length q.c2 (makeF (someN n)).Rev, sl (eInt .i64) 1 q.a3 (makeF (someN n)).Cap.length q.c3 (makeF (someN n)).Cap, sl (eInt .i64) 1 q.a4 (makeF (someN n)).Arc.length q.c4 (makeF (someN n)).Arc, sl eBool 1 q.a5 (makeF (someN n)).Back.length q.c5 (makeF (someN n)).Back, own eArc 3 82 AS (someN n).arcs.length cS (someN n).arcs, bx b5 (netV n A c).cells.toList 24, sl (eInt .i64) 1 A2 h.length c2 h, sl (eInt .i64) 1 A1 l.length c1 l, sl eArc 3 A n.arcs.length c n.arcs])) (.cons rfl (.cons rfl (.cons rfl .nil))) ?_ ?_
    ·
      refine cw_seq ?_
      -- region 4
      refine cw_region ?_
      refine lw_v rfl rfl (ok_move rfl (.n rfl) rfl) ?_
      refine lw_v rfl rfl (ok_rem rfl (.n rfl) rfl rfl (fun _ => by omega)) ?_
      refine lw_v rfl rfl (ok_eql rfl (.n rfl) rfl rfl) ?_
      refine lw_nil ?_
      refine Ends.keep [(2, .eq _), (3, .eq _), (11, .eq _), (12, .eq _), (34, .eq _)] (.cons rfl (.cons rfl (.cons rfl (.cons rfl (.cons rfl .nil))))) ?_
      refine ends_then ?_
      refine cw_cond rfl (fun h34 => ?_) (fun h34 => ?_)
      ·
        -- region 5
        refine cw_region ?_
        refine lw_v rfl rfl (ok_move rfl (.n rfl) rfl) ?_
        refine lw_v rfl rfl (ok_move rfl (.n rfl) rfl) ?_
        refine lw_v rfl rfl (ok_len rfl (.n rfl) Try.underlying25 rfl) ?_
        refine lw_v rfl rfl (ok_quo rfl (.n rfl) rfl rfl (fun _ => by omega)) ?_
        refine lw_v rfl rfl (ok_slto (k := ((resL (someN n) l).take ((resL (someN n) l).length / 2)).length) (enc := (eInt .i64)) rfl (.n rfl) Try.underlying25 Try.sizeOf2 rfl rfl hS ⟨by rw [half_eq _ (by omega), List.length_take, Nat.min_eq_left (by omega)], by rw [List.length_take]; omega⟩) ?_
        refine lw_v rfl rfl (ok_assign rfl (.n rfl) rfl) ?_
        refine lw_nil ?_
        -- CUT
        refine ends_cut3 A6 c6 ((resL (someN n) l).take ((resL (someN n) l).length / 2)) (.cons rfl (.cons rfl (.cons rfl (.cons rfl .nil)))) ⟨by rw [List.length_take]; omega, (hS.take' (.tail _ (.tail _ (.head _))) ((resL (someN n) l).length / 2) (by omega)).sub (.cons_cons _ (.cons_cons _ (.cons_cons _ (.cons _ (List.Sublist.refl _)))))⟩
      ·
        refine cw_skip ?_
        -- CUT
        refine ends_cut3 A6 c6 (resL (someN n) l) (.cons rfl (.cons rfl (.cons rfl (.cons rfl .nil)))) ⟨by omega, (hS.dup (.tail _ (.tail _ (.head _))) rfl).sub (.cons_cons _ (.cons_cons _ (.cons_cons _ (.cons _ (List.Sublist.refl _)))))⟩
    ·
      clear hS; rintro A6 c6 rs wc ⟨hr6, hS⟩
      refine cw_seq ?_
      -- region 6
      refine cw_region ?_
      refine lw_v rfl rfl (ok_ldS rfl (.n rfl) rfl Try.isAgg29 Try.sizeOf29 hS rfl) ?_
      refine lw_v rfl rfl (ok_move rfl (.n rfl) rfl) ?_
      refine lw_v rfl rfl (ok_move rfl (.n rfl) rfl) ?_
      refine lw_v rfl rfl (ok_move rfl (.n rfl) rfl) ?_
      refine lw_call (f := 26) (xs := [_, _, _, _]) rfl rfl rfl Try.call26 rfl (Calls.mono (f26 (makeF (someN n)) q rs hh u A6 c6 A3 c3 _ hwf (hS.cs q) (hS.rd A6 hr6) (hS.rd A3 hh3)) ?_)
      rintro e w' ⟨b1_, m1_, ok1_, rfl, hg, hL1⟩
      replace hS := hS.grow hg; clear hg
      refine ⟨_, rfl, ?_⟩
      refine lw_v rfl rfl (ok_move rfl (.n rfl) rfl) ?_
      refine lw_v rfl rfl (ok_extract rfl (.n rfl) rfl rfl) ?_
      refine lw_v rfl rfl (ok_extract rfl (.n rfl) rfl rfl) ?_
      refine lw_v rfl rfl (ok_extract rfl (.n rfl) rfl rfl) ?_
      refine lw_v rfl rfl (ok_assign rfl (.n rfl) rfl) ?_
      refine lw_v rfl rfl (ok_assign rfl (.n rfl) rfl) ?_
      refine lw_v rfl rfl (ok_assign rfl (.n rfl) rfl) ?_
      refine lw_nil ?_
      refine Ends.keep [(2, .eq _), (3, .eq _), (11, .eq _), (12, .eq _), (13, .eq _), (14, .eq _), (15, .eq _)] (.cons rfl (.cons rfl (.cons rfl (.cons rfl (.cons rfl (.cons rfl (.cons rfl .nil))))))) ?_
      refine ends_then ?_
      refine cw_seq ?_
      -- region 7
      refine cw_region ?_
      refine lw_v rfl rfl (ok_ldS rfl (.n rfl) rfl Try.isAgg29 Try.sizeOf29 hS rfl) ?_
      refine lw_v rfl rfl (ok_move rfl (.n rfl) rfl) ?_
      refine lw_v rfl rfl (ok_move rfl (.n rfl) rfl) ?_
      refine lw_v rfl rfl (ok_move rfl (.n rfl) rfl) ?_
      refine lw_call (f := 27) (xs := [_, _, _, _]) rfl rfl rfl Try.call27 rfl (Calls.mono (f27 (makeF (someN n)) q rs hh u A6 c6 A3 c3 _ hwf (hS.cs q) (hS.rd A6 hr6) (hS.rd A3 hh3)) ?_)
      rintro e w' ⟨b2_, m2_, ok2_, rfl, hg, hL2⟩
      obtain ⟨rfl, rfl, rfl⟩ := least_unique hL1 hL2
      replace hS := hS.grow hg; clear hg
      refine ⟨_, rfl, ?_⟩
      refine lw_v rfl rfl (ok_move rfl (.n rfl) rfl) ?_
      refine lw_v rfl rfl (ok_extract rfl (.n rfl) rfl rfl) ?_
      refine lw_v rfl rfl (ok_extract rfl (.n rfl) rfl rfl) ?_
      refine lw_v rfl rfl (ok_extract rfl (.n rfl) rfl rfl) ?_
      refine lw_v rfl rfl (ok_assign rfl (.n rfl) rfl) ?_
      refine lw_v rfl rfl (ok_assign rfl (.n rfl) rfl) ?_
      refine lw_v rfl rfl (ok_assign rfl (.n rfl) rfl) ?_
      refine lw_nil ?_
      refine Ends.keep [(2, .eq _), (11, .eq _), (12, .eq _), (13, .eq _), (14, .eq _), (15, .eq _), (16, .eq _), (17, .eq _), (18, .eq _)] (.cons rfl (.cons rfl (.cons rfl (.cons rfl (.cons rfl (.cons rfl (.cons rfl (.cons rfl (.cons rfl .nil))))))))) ?_
      refine ends_then ?_
      refine cw_seq ?_
      -- region 8
      refine cw_draw (by kernel_rfl) (List.take 61 _) (List.drop 61 _) (List.take_append_drop 61 _).symm (by kernel_rfl) ?_
      refine free_v (ok_ldS rfl (.n rfl) rfl Try.isAgg29 Try.sizeOf29 hS rfl) ?_
      refine free_v (ok_move rfl (.n rfl) rfl) ?_
      refine free_cons (ok_callv (.bool (rightB (makeF (someN n)) hh)) rfl rfl Try.call28 rfl (fun w' hg => f28 (makeF (someN n)) q hh A3 c3 w' hwf ((hS.grow hg).rd A3 hh3))) ?_
      refine free_v (ok_ldS rfl (.n rfl) rfl Try.isAgg29 Try.sizeOf29 hS rfl) ?_
      refine free_v (ok_move rfl (.n rfl) rfl) ?_
      refine free_cons (ok_callv (.bool (rightB (makeF (someN n)) hh)) rfl rfl Try.call29 rfl (fun w' hg => f29 (makeF (someN n)) q hh A3 c3 w' hwf ((hS.grow hg).rd A3 hh3))) ?_
      refine free_v (ok_eq (g := none) (ok_eqb rfl (.n rfl) Try.underlying4 rfl rfl) (c' := .bool true) (fun _ => congrArg Value.bool (by simp))) ?_
      refine free_v (ok_move rfl (.n rfl) rfl) ?_
      refine free_cons (ok_on (.s rfl rfl) rfl (by rfl) (OpV.ok (ok_ldS rfl (.n rfl) rfl Try.isAgg29 Try.sizeOf29 hS rfl))) ?_
      refine free_cons (ok_on (.s rfl rfl) rfl (by rfl) (OpV.ok (ok_move rfl (.n rfl) rfl))) ?_
      refine free_cons (ok_on (.s rfl rfl) rfl (by rfl) (OpV.ok (ok_move rfl (.n rfl) rfl))) ?_
      refine free_cons (ok_on (.s rfl rfl) rfl (by rfl) (ok_call (fun v w => ∃ A c, v = .slice A (steepL (makeF (someN n)) rs hh).length c ∧ (own (eInt .i64) 1 3 A (steepL (makeF (someN n)) rs hh).length c (steepL (makeF (someN n)) rs hh)).p w) rfl rfl Try.call31 rfl (fun w' hg => (f31 (makeF (someN n)) q rs hh A6 c6 A3 c3 w' hwf ((hS.grow hg).cs q) ((hS.grow hg).rd A6 hr6) ((hS.grow hg).rd A3 hh3)).mono fun e w2 ⟨A', c', he, hg2, _, ho2⟩ => ⟨_, he, hg2, fun w3 hg3 => ⟨A', c', rfl, Asn.grow _ ho2 hg3⟩⟩))) ?_
      refine free_cons (ok_on (.s rfl rfl) rfl (by rfl) (OpV.ok (ok_ldS rfl (.n rfl) rfl Try.isAgg29 Try.sizeOf29 hS rfl))) ?_
      refine free_cons (ok_on (.s rfl rfl) rfl (by rfl) (OpV.ok (ok_move rfl (.n rfl) rfl))) ?_
      refine free_cons (ok_on (.s rfl rfl) rfl (by rfl) (OpV.ok (ok_move rfl (.n rfl) rfl))) ?_
      refine free_cons (ok_on (.s rfl rfl) rfl (by rfl) (ok_call (fun v w => ∃ A c, v = .slice A (steepL (makeF (someN n)) rs hh).length c ∧ (own (eInt .i64) 1 3 A (steepL (makeF (someN n)) rs hh).length c (steepL (makeF (someN n)) rs hh)).p w) rfl rfl Try.call32 rfl (fun w' hg => (f32 (makeF (someN n)) q rs hh A6 c6 A3 c3 w' hwf ((hS.grow hg).cs q) ((hS.grow hg).rd A6 hr6) ((hS.grow hg).rd A3 hh3)).mono fun e w2 ⟨A', c', he, hg2, _, ho2⟩ => ⟨_, he, hg2, fun w3 hg3 => ⟨A', c', rfl, Asn.grow _ ho2 hg3⟩⟩))) ?_
      refine free_cons (ok_on (.s rfl rfl) rfl (by rfl) (ok_callSv (.bool true) (xs := [_, _]) rfl rfl Try.call30 (fun vs w' hg hv => by
          match vs, hv with
          | [v0_, v1_], hv =>
            obtain ⟨⟨A_, c_, rfl, ho_⟩, ⟨B_, d_, rfl, ho2_⟩, _⟩ := hv
            exact (f30 A_ c_ _ B_ d_ _ w' (own_sl ho_ (by have := steepL_len hwf rs hh; omega)) (own_sl ho2_ (by have := steepL_len hwf rs hh; omega))).mono fun e w2 ⟨he, hg2⟩ => ⟨by rw [he, decide_eq_true rfl], hg2⟩))) ?_
      refine free_v (ok_pick rfl rfl rfl rfl rfl) ?_
      refine free_v (ok_move rfl (.n rfl) rfl) ?_
      refine free_cons (ok_on (.s rfl rfl) rfl (by rfl) (OpV.ok (ok_ldS rfl (.n rfl) rfl Try.isAgg29 Try.sizeOf29 hS rfl))) ?_
      refine free_cons (ok_on (.s rfl rfl) rfl (by rfl) (OpV.ok (ok_move rfl (.n rfl) rfl))) ?_
      refine free_cons (ok_on (.s rfl rfl) rfl (by rfl) (OpV.ok (ok_move rfl (.n rfl) rfl))) ?_
      refine free_cons (ok_on (.s rfl rfl) rfl (by rfl) (ok_call (fun v w => ∃ A c, v = .slice A (flatL (makeF (someN n)) rs hh).length c ∧ (own (eInt .i64) 1 3 A (flatL (makeF (someN n)) rs hh).length c (flatL (makeF (someN n)) rs hh)).p w) rfl rfl Try.call33 rfl (fun w' hg => (f33 (makeF (someN n)) q rs hh A6 c6 A3 c3 w' hwf ((hS.grow hg).cs q) ((hS.grow hg).rd A6 hr6) ((hS.grow hg).rd A3 hh3)).mono fun e w2 ⟨A', c', he, hg2, _, ho2⟩ => ⟨_, he, hg2, fun w3 hg3 => ⟨A', c', rfl, Asn.grow _ ho2 hg3⟩⟩))) ?_
      refine free_cons (ok_on (.s rfl rfl) rfl (by rfl) (OpV.ok (ok_ldS rfl (.n rfl) rfl Try.isAgg29 Try.sizeOf29 hS rfl))) ?_
      refine free_cons (ok_on (.s rfl rfl) rfl (by rfl) (OpV.ok (ok_move rfl (.n rfl) rfl))) ?_
      refine free_cons (ok_on (.s rfl rfl) rfl (by rfl) (OpV.ok (ok_move rfl (.n rfl) rfl))) ?_
      refine free_cons (ok_on (.s rfl rfl) rfl (by rfl) (ok_call (fun v w => ∃ A c, v = .slice A (flatL (makeF (someN n)) rs hh).length c ∧ (own (eInt .i64) 1 3 A (flatL (makeF (someN n)) rs hh).length c (flatL (makeF (someN n)) rs hh)).p w) rfl rfl Try.call34 rfl (fun w' hg => (f34 (makeF (someN n)) q rs hh A6 c6 A3 c3 w' hwf ((hS.grow hg).cs q) ((hS.grow hg).rd A6 hr6) ((hS.grow hg).rd A3 hh3)).mono fun e w2 ⟨A', c', he, hg2, _, ho2⟩ => ⟨_, he, hg2, fun w3 hg3 => ⟨A', c', rfl, Asn.grow _ ho2 hg3⟩⟩))) ?_
      refine free_cons (ok_on (.s rfl rfl) rfl (by rfl) (ok_callSv (.bool true) (xs := [_, _]) rfl rfl Try.call30 (fun vs w' hg hv => by
          match vs, hv with
          | [v0_, v1_], hv =>
            obtain ⟨⟨A_, c_, rfl, ho_⟩, ⟨B_, d_, rfl, ho2_⟩, _⟩ := hv
            exact (f30 A_ c_ _ B_ d_ _ w' (own_sl ho_ (by have := flatL_len hwf rs hh; omega)) (own_sl ho2_ (by have := flatL_len hwf rs hh; omega))).mono fun e w2 ⟨he, hg2⟩ => ⟨by rw [he, decide_eq_true rfl], hg2⟩))) ?_
      refine free_v (ok_pick rfl rfl rfl rfl rfl) ?_
      refine free_v (ok_move rfl (.n rfl) rfl) ?_
      refine free_cons (ok_on (.s rfl rfl) rfl (by rfl) (OpV.ok (ok_ldS rfl (.n rfl) rfl Try.isAgg29 Try.sizeOf29 hS rfl))) ?_
      refine free_cons (ok_on (.s rfl rfl) rfl (by rfl) (OpV.ok (ok_move rfl (.n rfl) rfl))) ?_
      refine free_cons (ok_on (.s rfl rfl) rfl (by rfl) (OpV.ok (ok_move rfl (.n rfl) rfl))) ?_
      refine free_cons (ok_on (.s rfl rfl) rfl (by rfl) (ok_callv (.bool (validB (makeF (someN n)) rs hh)) rfl rfl Try.call35 rfl (fun w' hg => f35 (makeF (someN n)) q rs hh A6 c6 A3 c3 w' hwf ((hS.grow hg).cs q) ((hS.grow hg).rd A6 hr6) ((hS.grow hg).rd A3 hh3)))) ?_
      refine free_cons (ok_on (.s rfl rfl) rfl (by rfl) (OpV.ok (ok_ldS rfl (.n rfl) rfl Try.isAgg29 Try.sizeOf29 hS rfl))) ?_
      refine free_cons (ok_on (.s rfl rfl) rfl (by rfl) (OpV.ok (ok_move rfl (.n rfl) rfl))) ?_
      refine free_cons (ok_on (.s rfl rfl) rfl (by rfl) (OpV.ok (ok_move rfl (.n rfl) rfl))) ?_
      refine free_cons (ok_on (.s rfl rfl) rfl (by rfl) (ok_callv (.bool (validB (makeF (someN n)) rs hh)) rfl rfl Try.call36 rfl (fun w' hg => f36 (makeF (someN n)) q rs hh A6 c6 A3 c3 w' hwf ((hS.grow hg).cs q) ((hS.grow hg).rd A6 hr6) ((hS.grow hg).rd A3 hh3)))) ?_
      refine free_cons (ok_on (.s rfl rfl) rfl (by rfl) (OpV.ok (ok_eq (g := none) (ok_eqb rfl (.n rfl) Try.underlying4 rfl rfl) (c' := .bool true) (fun _ => congrArg Value.bool (by simp))))) ?_
      refine free_v (ok_pick rfl rfl rfl rfl rfl) ?_
      refine free_v (ok_move rfl (.n rfl) rfl) ?_
      refine free_cons (ok_on (.s rfl rfl) rfl (by rfl) (OpV.ok (ok_move rfl (.n rfl) rfl))) ?_
      refine free_cons (ok_on (.s rfl rfl) rfl (by rfl) (OpV.ok (ok_move rfl (.n rfl) rfl))) ?_
      refine free_cons (ok_on (.s rfl rfl) rfl (by rfl) (OpV.ok (ok_eq (g := none) (ok_eql rfl (.n rfl) rfl rfl) (c' := .bool true) (fun _ => congrArg Value.bool (decide_eq_true rfl))))) ?_
      refine free_v (ok_pick rfl rfl rfl rfl rfl) ?_
      refine free_v (ok_move rfl (.n rfl) rfl) ?_
      refine free_cons (ok_on (.s rfl rfl) rfl (by rfl) (OpV.ok (ok_move rfl (.n rfl) rfl))) ?_
      refine free_cons (ok_on (.s rfl rfl) rfl (by rfl) (OpV.ok (ok_move rfl (.n rfl) rfl))) ?_
      refine free_cons (ok_on (.s rfl rfl) rfl (by rfl) (OpV.ok (ok_eq (g := none) (ok_eql rfl (.n rfl) rfl rfl) (c' := .bool true) (fun _ => congrArg Value.bool (decide_eq_true rfl))))) ?_
      refine free_v (ok_pick rfl rfl rfl rfl rfl) ?_
      refine free_v (ok_move rfl (.n rfl) rfl) ?_
      refine free_cons (ok_on (.s rfl rfl) rfl (by rfl) (OpV.ok (ok_move rfl (.n rfl) rfl))) ?_
      refine free_cons (ok_on (.s rfl rfl) rfl (by rfl) (OpV.ok (ok_move rfl (.n rfl) rfl))) ?_
      refine free_cons (ok_on (.s rfl rfl) rfl (by rfl) (OpV.ok (ok_eq (g := none) (ok_eqb rfl (.n rfl) Try.underlying4 rfl rfl) (c' := .bool true) (fun _ => congrArg Value.bool (by simp))))) ?_
      refine free_v (ok_pick rfl rfl rfl rfl rfl) ?_
      refine free_v (ok_move rfl (.n rfl) rfl) ?_
      refine free_cons (ok_on (.s rfl rfl) rfl (by rfl) (OpV.ok (ok_ldS rfl (.n rfl) rfl Try.isAgg29 Try.sizeOf29 hS rfl))) ?_
      refine free_cons (ok_on (.s rfl rfl) rfl (by rfl) (OpV.ok (ok_move rfl (.n rfl) rfl))) ?_
      refine free_cons (ok_on (.s rfl rfl) rfl (by rfl) (ok_callv (.int .i64 (sumB (makeF (someN n)) hh)) rfl rfl Try.call37 rfl (fun w' hg => f37 (makeF (someN n)) q hh A3 c3 w' hwf ((hS.grow hg).rd A3 hh3)))) ?_
      refine free_cons (ok_on (.s rfl rfl) rfl (by rfl) (OpV.ok (ok_ldS rfl (.n rfl) rfl Try.isAgg29 Try.sizeOf29 hS rfl))) ?_
      refine free_cons (ok_on (.s rfl rfl) rfl (by rfl) (OpV.ok (ok_move rfl (.n rfl) rfl))) ?_
      refine free_nil ?_
      intro w4 hg_; replace hS := hS.grow hg_; clear hg_
      refine lw_on (.s rfl rfl) rfl ?_
      refine lw_call (f := 38) (xs := [_, _]) rfl rfl rfl Try.call38 rfl (Calls.mono (f38 (makeF (someN n)) q hh A3 c3 _ hwf (hS.rd A3 hh3)) ?_)
      rintro e w' ⟨rfl, hg⟩
      replace hS := hS.grow hg; clear hg
      refine ⟨_, rfl, ?_⟩
      refine lw_on (.s rfl rfl) rfl ?_
      refine lw_v rfl rfl (ok_eq (g := none) (ok_eql rfl (.n rfl) rfl rfl) (c' := .bool true) (fun _ => congrArg Value.bool (decide_eq_true rfl))) ?_
      refine lw_v rfl rfl (ok_pick rfl rfl rfl rfl rfl) ?_
      refine lw_v rfl rfl (ok_move rfl (.n rfl) rfl) ?_
      refine lw_on (.s rfl rfl) rfl ?_
      refine lw_call (f := 39) (xs := []) rfl rfl rfl Try.call39 rfl (Calls.mono (f39 _) ?_)
      rintro e w' ⟨rfl, hg⟩
      replace hS := hS.grow hg; clear hg
      refine ⟨_, rfl, ?_⟩
      refine lw_v rfl rfl (ok_pick rfl rfl rfl rfl rfl) ?_
      refine lw_v rfl rfl (ok_assign rfl (.n rfl) rfl) ?_
      refine lw_nil ?_
      refine Ends.keep [(10, .eq _)] (.cons rfl .nil) ?_
      refine ends_then ?_
      refine cw_ret ?_
      exact end_ret (res1 Try.results3 rfl) ⟨rfl, hS.below⟩

end Go.Proofs.Ytnpgeohkmdcbkaa.Aq
