/- The walk of the law RepairTells. -/
import Derived.Test.YtnpgeohkmdcbkaaB5
import Derived.Test.YtnpgeohkmdcbkaaB9
import Derived.Test.YtnpgeohkmdcbkaaB6
namespace Go.Proofs.Ytnpgeohkmdcbkaa.Aq
open Go Go.RowKit

set_option maxRecDepth 10000 in
/-- acequialaw19.RepairTells. -/
theorem f12 (n : Nt) (A : Option Addr) (c : Nat) (l : List Int) (A1 : Option Addr) (c1 : Nat) (h : List Int) (A2 : Option Addr) (c2 : Nat) (odd : Int) (w : World) (ha : (sl eArc 3 A n.arcs.length c n.arcs).p w) (hrgn : (-9223372036854775808 ≤ n.N ∧ n.N ≤ 9223372036854775807) ∧ (-9223372036854775808 ≤ n.S ∧ n.S ≤ 9223372036854775807) ∧ (-9223372036854775808 ≤ n.T ∧ n.T ≤ 9223372036854775807) ∧ ∀ a ∈ n.arcs, -9223372036854775808 ≤ a.1 ∧ a.1 ≤ 9223372036854775807 ∧ -9223372036854775808 ≤ a.2.1 ∧ a.2.1 ≤ 9223372036854775807 ∧ -9223372036854775808 ≤ a.2.2 ∧ a.2.2 ≤ 9223372036854775807) (hl : (sl (eInt .i64) 1 A1 l.length c1 l).p w) (hrgl : ∀ x ∈ l, -9223372036854775808 ≤ x ∧ x ≤ 9223372036854775807) (hh : (sl (eInt .i64) 1 A2 h.length c2 h).p w) (hrgh : ∀ x ∈ h, -9223372036854775808 ≤ x ∧ x ≤ 9223372036854775807) (hh8 : h.length * 8 ≤ 140737488351232) (hodd : 0 ≤ odd ∧ odd ≤ 255) :
    Calls Try.prog 12 #[netV n A c, .slice A1 l.length c1, .slice A2 h.length c2, .int .u8 odd] w fun e w' => e = .returned (.bool true) ∧ Gr w w' := by
  refine calls_cw Try.func12 rfl Try.ntmps12 rfl ?_
  have hS := (((St.start w).args (Nat.le_refl _) _ ha rfl).args (Nat.le_refl _) _ hl rfl).args (Nat.le_refl _) _ hh rfl
  refine cw_seq ?_
  -- region 0
  refine cw_region ?_
  refine lw_box rfl rfl rfl rfl hS ?_
  clear hS; intro b4 w1 _ _ hS
  refine lw_v rfl rfl (ok_assign rfl (.n rfl) rfl) ?_
  refine lw_nil ?_
  refine Ends.keep [(1, .eq _), (2, .eq _), (3, .eq _), (4, .eq _)] (.cons rfl (.cons rfl (.cons rfl (.cons rfl .nil)))) ?_
  refine ends_then ?_
  refine cw_seq ?_
  -- region 1
  refine cw_region ?_
  refine lw_v rfl rfl (ok_ldS rfl (.n rfl) rfl Try.isAgg24 Try.sizeOf24 hS rfl) ?_
  refine lw_call (f := 24) (xs := [_, _, _]) rfl rfl rfl Try.call24 rfl (Calls.mono (f24a n A c _ (hS.rd A (by have := ha.2.1; omega)) hrgn) ?_)
  rintro e w' ⟨n1, AS, cS, hok, rfl, hg, hfr, ho⟩
  replace hS := hS.new hg _ ho hfr; clear hg ho hfr
  refine ⟨_, rfl, ?_⟩
  refine lw_v rfl rfl (ok_move rfl (.n rfl) rfl) ?_
  refine lw_call (f := 23) (xs := [_, _]) rfl rfl rfl Try.call23 rfl (Calls.mono (f23a n1 AS cS l A1 c1 _ hok (hS.rd AS (by have := hok.len; omega)) (hS.rd A1 hl.2.1) hl.2.1 hrgl) ?_)
  rintro e w' ⟨C, R, q, A6, c6, ⟨hwf, hro⟩, rfl, hg, hnew, hat, hfr, hap, ho⟩
  replace hS := hS.left hg hat hnew ho hfr hap; clear hg hnew hat hfr hap ho
  replace hS := hS.sub (.cons_cons _ (.cons_cons _ (.cons_cons _ (.cons_cons _ (.cons_cons _ (.cons_cons _ (.cons_cons _ (.cons _ (.cons _ (List.Sublist.refl _))))))))))
  have hM := hwf.m
  have hrlen := hro.len
  have hN := hwf.hi
  have hlo := hwf.lo
  replace hS := hS.freeze .here (by omega)
  refine ⟨_, rfl, ?_⟩
  refine lw_v rfl rfl (ok_move rfl (.n rfl) rfl) ?_
  refine lw_v rfl rfl (ok_extract rfl (.n rfl) rfl rfl) ?_
  refine lw_v rfl rfl (ok_extract rfl (.n rfl) rfl rfl) ?_
  refine lw_alloc rfl rfl rfl Try.zeroValue29 hS ?_
  clear hS; intro b9 w2 _ _ hS
  refine lw_stS rfl rfl rfl rfl rfl (by kernel_rfl) hS rfl (by rfl) (by rfl) ?_
  clear hS; intro w3 hS
  refine lw_v rfl rfl (ok_assign rfl (.n rfl) rfl) ?_
  refine lw_nil ?_
  refine Ends.keep [(2, .eq _), (3, .eq _), (9, .eq _), (10, .eq _)] (.cons rfl (.cons rfl (.cons rfl (.cons rfl .nil)))) ?_
  refine ends_then ?_
  refine cw_cut3 [(3, .eq _), (9, .eq _), (10, .eq _)] (fun (A3 : Option Addr) (c3 : Nat) (hh : List Int) => [(2, .eq (.slice A3 hh.length c3))]) (fun A3 c3 hh w' => hh.length * 8 ≤ 140737488351232 ∧ St w.heap.size w w' [sl (eInt .i64) 1 A3 hh.length c3 hh, bx b9 (csV C q).cells.toList 29, sl (eInt .i64) 1 A6 R.length c6 R, sl (eInt .i64) 1 q.a0 C.First.length q.c0 C.First, sl (eInt .i64) 1 q.a1 C.Head.length q.c1 C.Head, sl (eInt .i64) 1 q.a2 C.Rev.length q.c2 C.Rev, sl (eInt .i64) 1 q.a3 C.Cap.length q.c3 C.Cap, sl (eInt .i64) 1 q.a4 C.Arc.length q.c4 C.Arc, sl eBool 1 q.a5 C.Back.length q.c5 C.Back, sl (eInt .i64) 1 A2 h.length c2 h, sl (eInt .i64) 1 A1 l.length c1 l, sl eArc 3 A n.arcs.length c n.arcs]) (.cons rfl (.cons rfl (.cons rfl .nil))) ?_ ?_
  ·
    refine cw_seq ?_
    -- region 2
    refine cw_region ?_
    refine lw_v rfl rfl (ok_move rfl (.n rfl) rfl) ?_
    refine lw_v rfl rfl (ok_rem rfl (.n rfl) rfl rfl (fun _ => by omega)) ?_
    refine lw_v rfl rfl (ok_gtr rfl (.n rfl) rfl rfl) ?_
    refine lw_nil ?_
    refine Ends.keep [(2, .eq _), (3, .eq _), (9, .eq _), (10, .eq _), (21, .eq _)] (.cons rfl (.cons rfl (.cons rfl (.cons rfl (.cons rfl .nil))))) ?_
    refine ends_then ?_
    refine cw_cond rfl (fun h21 => ?_) (fun h21 => ?_)
    ·
      -- region 3
      refine cw_region ?_
      refine lw_v rfl rfl (ok_ldS rfl (.n rfl) rfl Try.isAgg29 Try.sizeOf29 hS rfl) ?_
      refine lw_v rfl rfl (ok_move rfl (.n rfl) rfl) ?_
      refine lw_call (f := 25) (xs := [_, _]) rfl rfl rfl Try.call25 rfl (Calls.mono (f25a C q h A2 c2 _ hwf (hS.rd A2 hh.2.1) hrgh) ?_)
      rintro e w' ⟨H, AH, cH, hrh, rfl, hg, hfr, ho⟩
      replace hS := hS.new hg _ ho hfr; clear hg ho hfr
      have hHlH := hrh.len
      replace hS := hS.freeze .here (by omega)
      refine ⟨_, rfl, ?_⟩
      refine lw_v rfl rfl (ok_assign rfl (.n rfl) rfl) ?_
      refine lw_nil ?_
      -- CUT
      refine ends_cut3 AH cH H (.cons rfl (.cons rfl (.cons rfl (.cons rfl .nil)))) ⟨by omega, hS⟩
    ·
      refine cw_skip ?_
      -- CUT
      refine ends_cut3 A2 c2 h (.cons rfl (.cons rfl (.cons rfl (.cons rfl .nil)))) ⟨hh8, hS.dup (.tail _ (.tail _ (.tail _ (.tail _ (.tail _ (.tail _ (.tail _ (.tail _ (.head _))))))))) rfl⟩
  ·
    clear hS
    rintro A3 c3 hh wc ⟨hh3, hS⟩
    refine cw_cut3 [(2, .eq _), (9, .eq _)] (fun (AR : Option Addr) (cR : Nat) (rs : List Int) => [(10, .eq (.slice AR rs.length cR))]) (fun AR cR rs w' => rs.length ≤ 1300 ∧ St w.heap.size w w' [sl (eInt .i64) 1 AR rs.length cR rs, sl (eInt .i64) 1 A3 hh.length c3 hh, bx b9 (csV C q).cells.toList 29, sl (eInt .i64) 1 q.a0 C.First.length q.c0 C.First, sl (eInt .i64) 1 q.a1 C.Head.length q.c1 C.Head, sl (eInt .i64) 1 q.a2 C.Rev.length q.c2 C.Rev, sl (eInt .i64) 1 q.a3 C.Cap.length q.c3 C.Cap, sl (eInt .i64) 1 q.a4 C.Arc.length q.c4 C.Arc, sl eBool 1 q.a5 C.Back.length q.c5 C.Back, sl (eInt .i64) 1 A2 h.length c2 h, sl (eInt .i64) 1 A1 l.length c1 l, sl eArc 3 A n.arcs.length c n.arcs]) (.cons rfl (.cons rfl .nil)) ?_ ?_
    ·
      refine cw_seq ?_
      -- region 4
      refine cw_region ?_
      refine lw_v rfl rfl (ok_move rfl (.n rfl) rfl) ?_
      refine lw_v rfl rfl (ok_rem rfl (.n rfl) rfl rfl (fun _ => by omega)) ?_
      refine lw_v rfl rfl (ok_eql rfl (.n rfl) rfl rfl) ?_
      refine lw_nil ?_
      refine Ends.keep [(2, .eq _), (9, .eq _), (10, .eq _), (27, .eq _)] (.cons rfl (.cons rfl (.cons rfl (.cons rfl .nil)))) ?_
      refine ends_then ?_
      refine cw_cond rfl (fun h27 => ?_) (fun h27 => ?_)
      ·
        -- region 5
        refine cw_region ?_
        refine lw_v rfl rfl (ok_move rfl (.n rfl) rfl) ?_
        refine lw_v rfl rfl (ok_move rfl (.n rfl) rfl) ?_
        refine lw_v rfl rfl (ok_len rfl (.n rfl) Try.underlying25 rfl) ?_
        refine lw_v rfl rfl (ok_quo rfl (.n rfl) rfl rfl (fun _ => by omega)) ?_
        refine lw_v rfl rfl (ok_slto (k := (R.take (R.length / 2)).length) (enc := (eInt .i64)) rfl (.n rfl) Try.underlying25 Try.sizeOf2 rfl rfl hS ⟨by rw [half_eq _ (by omega), List.length_take, Nat.min_eq_left (by omega)], by rw [List.length_take]; omega⟩) ?_
        refine lw_v rfl rfl (ok_assign rfl (.n rfl) rfl) ?_
        refine lw_nil ?_
        -- CUT
        refine ends_cut3 A6 c6 (R.take (R.length / 2)) (.cons rfl (.cons rfl (.cons rfl .nil))) ⟨by rw [List.length_take]; omega, (hS.take' (.tail _ (.tail _ (.head _))) (R.length / 2) (by omega)).sub (.cons_cons _ (.cons_cons _ (.cons_cons _ (.cons _ (List.Sublist.refl _)))))⟩
      ·
        refine cw_skip ?_
        -- CUT
        refine ends_cut3 A6 c6 R (.cons rfl (.cons rfl (.cons rfl .nil))) ⟨by omega, (hS.dup (.tail _ (.tail _ (.head _))) rfl).sub (.cons_cons _ (.cons_cons _ (.cons_cons _ (.cons _ (List.Sublist.refl _)))))⟩
    ·
      clear hS
      rintro AR cR rs wc ⟨hrs, hS⟩
      have hle := lowerL_le hwf rs hh
      have hb1 : (lowerL C rs hh).length ≤ 140737488351232 := by omega
      have hb2 : (lowdL C rs hh).length ≤ 140737488351232 := by have : (lowdL C rs hh).length ≤ (lowerL C rs hh).length := filt_len _ _; omega
      refine cw_seq ?_
      -- region 6
      refine cw_region ?_
      refine lw_ls0 (enc := (eInt .i64)) rfl rfl rfl Try.underlying26 Try.sizeOf3 hS ?_
      clear hS; intro A33 c33 w4 _ hS
      refine lw_v rfl rfl (ok_move rfl (.n rfl) rfl) ?_
      refine lw_append0 (enc := (eInt .i64)) rfl rfl rfl Try.underlying26 info3 rfl rfl rfl hS (by omega) (by omega) ?_
      intro A35 c35 wq hS1; replace hS := hS1 _ (Rep.r); clear hS1
      rw [List.nil_append] at hS ⊢
      replace hS := hS.freeze .here (by omega)
      refine lw_v rfl rfl (ok_assign rfl (.n rfl) rfl) ?_
      refine lw_nil ?_
      refine Ends.keep [(2, .eq _), (9, .eq _), (10, .eq _), (11, .eq _)] (.cons rfl (.cons rfl (.cons rfl (.cons rfl .nil)))) ?_
      refine ends_then ?_
      refine cw_seq ?_
      -- region 7
      refine cw_draw (by kernel_rfl) (List.take 23 _) (List.drop 23 _) (List.take_append_drop 23 _).symm (by kernel_rfl) ?_
      refine free_v (ok_ldS rfl (.n rfl) rfl Try.isAgg29 Try.sizeOf29 hS rfl) ?_
      refine free_v (ok_move rfl (.n rfl) rfl) ?_
      refine free_v (ok_move rfl (.n rfl) rfl) ?_
      refine free_cons (ok_callL rfl rfl Try.call48 rfl (fun w' hg => f48 C q rs hh AR cR A3 c3 w' hwf ((hS.grow hg).cs q) ((hS.grow hg).rd AR (by omega)) ((hS.grow hg).rd A3 (by omega)))) ?_
      refine free_v (ok_ldS rfl (.n rfl) rfl Try.isAgg29 Try.sizeOf29 hS rfl) ?_
      refine free_v (ok_move rfl (.n rfl) rfl) ?_
      refine free_v (ok_move rfl (.n rfl) rfl) ?_
      refine free_cons (ok_callL rfl rfl Try.call50 rfl (fun w' hg => f50 C q rs hh AR cR A3 c3 w' hwf ((hS.grow hg).cs q) ((hS.grow hg).rd AR (by omega)) ((hS.grow hg).rd A3 (by omega)))) ?_
      refine free_cons (ok_callSv (.bool true) (xs := [_, _]) rfl rfl Try.call30 (fun vs w' hg hv => by
          match vs, hv with
          | [v0_, v1_], hv =>
            obtain ⟨⟨A_, c_, rfl, ho_, _⟩, ⟨B_, d_, rfl, ho2_, _⟩, _⟩ := hv
            exact f30s A_ c_ B_ d_ _ w' (own_sl ho_ hb1) (own_sl ho2_ hb1))) ?_
      refine free_v (ok_move rfl (.n rfl) rfl) ?_
      refine free_cons (ok_on (.s rfl rfl) rfl (by rfl) (OpV.ok (ok_ldS rfl (.n rfl) rfl Try.isAgg29 Try.sizeOf29 hS rfl))) ?_
      refine free_cons (ok_on (.s rfl rfl) rfl (by rfl) (OpV.ok (ok_move rfl (.n rfl) rfl))) ?_
      refine free_cons (ok_on (.s rfl rfl) rfl (by rfl) (OpV.ok (ok_move rfl (.n rfl) rfl))) ?_
      refine free_cons (ok_on (.s rfl rfl) rfl (by rfl) (ok_callL rfl rfl Try.call51 rfl (fun w' hg => f51 C q rs hh AR cR A3 c3 w' hwf ((hS.grow hg).cs q) ((hS.grow hg).rd AR (by omega)) ((hS.grow hg).rd A3 (by omega))))) ?_
      refine free_cons (ok_on (.s rfl rfl) rfl (by rfl) (OpV.ok (ok_ldS rfl (.n rfl) rfl Try.isAgg29 Try.sizeOf29 hS rfl))) ?_
      refine free_cons (ok_on (.s rfl rfl) rfl (by rfl) (OpV.ok (ok_move rfl (.n rfl) rfl))) ?_
      refine free_cons (ok_on (.s rfl rfl) rfl (by rfl) (OpV.ok (ok_move rfl (.n rfl) rfl))) ?_
      refine free_cons (ok_on (.s rfl rfl) rfl (by rfl) (ok_callL rfl rfl Try.call52 rfl (fun w' hg => f52 C q rs hh AR cR A3 c3 w' hwf ((hS.grow hg).cs q) ((hS.grow hg).rd AR (by omega)) ((hS.grow hg).rd A3 (by omega))))) ?_
      refine free_cons (ok_on (.s rfl rfl) rfl (by rfl) (ok_callSv (.bool true) (xs := [_, _]) rfl rfl Try.call30 (fun vs w' hg hv => by
          match vs, hv with
          | [v0_, v1_], hv =>
            obtain ⟨⟨A_, c_, rfl, ho_, _⟩, ⟨B_, d_, rfl, ho2_, _⟩, _⟩ := hv
            exact f30s A_ c_ B_ d_ _ w' (own_sl ho_ hb2) (own_sl ho2_ hb2)))) ?_
      refine free_v (ok_pick rfl rfl rfl rfl rfl) ?_
      refine free_v (ok_move rfl (.n rfl) rfl) ?_
      refine free_cons (ok_on (.s rfl rfl) rfl (by rfl) (OpV.ok (ok_move rfl (.n rfl) rfl))) ?_
      refine free_cons (ok_on (.s rfl rfl) rfl (by rfl) (OpV.ok (ok_move rfl (.n rfl) rfl))) ?_
      refine free_nil ?_
      intro w5 hg_; replace hS := hS.grow hg_; clear hg_
      refine lw_on (.s rfl rfl) rfl ?_
      refine lw_call (f := 30) (xs := [_, _]) rfl rfl rfl Try.call30 rfl (Calls.mono (f30s A3 c3 A35 c35 _ _ (hS.rd A3 (by omega)) (hS.rd A35 (by omega))) ?_)
      rintro e w' ⟨rfl, hg⟩
      replace hS := hS.grow hg; clear hg
      refine ⟨_, rfl, ?_⟩
      refine lw_v rfl rfl (ok_pick rfl rfl rfl rfl rfl) ?_
      refine lw_v rfl rfl (ok_move rfl (.n rfl) rfl) ?_
      refine lw_on (.s rfl rfl) rfl ?_
      refine lw_call (f := 53) (xs := []) rfl rfl rfl Try.call53 rfl (Calls.mono (f53 _) ?_)
      rintro e w' ⟨rfl, hg⟩
      replace hS := hS.grow hg; clear hg
      refine ⟨_, rfl, ?_⟩
      refine lw_v rfl rfl (ok_pick rfl rfl rfl rfl rfl) ?_
      refine lw_v rfl rfl (ok_assign rfl (.n rfl) rfl) ?_
      refine lw_nil ?_
      refine Ends.keep [(8, .eq _)] (.cons rfl .nil) ?_
      refine ends_then ?_
      refine cw_ret ?_
      exact end_ret (res1 Try.results12 rfl) ⟨rfl, hS.below⟩

end Go.Proofs.Ytnpgeohkmdcbkaa.Aq
