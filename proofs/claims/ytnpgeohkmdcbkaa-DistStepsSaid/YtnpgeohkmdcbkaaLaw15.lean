/- The walk of the law DistSteps. -/
import Derived.Test.YtnpgeohkmdcbkaaLawD
import Derived.Test.YtnpgeohkmdcbkaaPlain12
namespace Go.Proofs.Ytnpgeohkmdcbkaa.Aq
open Go Go.RowKit

theorem not_steps {D : List Int} {x y : Nat} (h : D.getD (y : Int).toNat 0 + 1 < D.getD (x : Int).toNat 0) (h2 : D.getD x 0 ≤ D.getD y 0 + 1) : False := by
  have h3 : D.getD y 0 + 1 < D.getD x 0 := h
  omega
theorem steps_bad {D : List Int} {near : List Bool} {N u v : Nat} (hr : 0 ≤ D.getD (v : Int).toNat 0 ∧ D.getD (v : Int).toNat 0 ≤ N) (hz : (decide (D.getD v 0 = 0) == decide (v = u)) = true) (hn : 0 < D.getD v 0 → D.getD v 0 < N → near.getD v false = true)
    (h : (((decide (D.getD (v : Int).toNat 0 < 0) || decide ((N : Int) < D.getD (v : Int).toNat 0)) || !(decide (D.getD (v : Int).toNat 0 = 0) == decide ((v : Int) = (u : Int)))) || ((decide (0 < D.getD (v : Int).toNat 0) && decide (D.getD (v : Int).toNat 0 < (N : Int))) && !near.getD (v : Int).toNat false)) = true) : False := by
  have e : decide ((v : Int) = (u : Int)) = decide (v = u) := by rw [decide_eq_decide]; omega
  have e2 : (decide (D.getD (v : Int).toNat 0 = 0) == decide (v = u)) = true := hz
  rw [e, e2, decide_eq_false (by omega), decide_eq_false (by omega), Bool.false_or, Bool.not_true, Bool.false_or, Bool.false_or, Bool.and_eq_true, Bool.and_eq_true, decide_eq_true_eq, decide_eq_true_eq] at h
  have h3 : near.getD v false = true := hn h.1.1 h.1.2
  have h4 : (!near.getD v false) = true := h.2
  rw [h3] at h4
  cases h4

set_option maxHeartbeats 2000000 in
set_option maxRecDepth 10000 in
/-- acequialaw05.DistSteps. -/
theorem f15 (n : Nt) (A : Option Addr) (c : Nat) (l : List Int) (A1 : Option Addr) (c1 : Nat) (at0 : Int) (w : World) (ha : (sl eArc 3 A n.arcs.length c n.arcs).p w) (hrgn : (-9223372036854775808 ≤ n.N ∧ n.N ≤ 9223372036854775807) ∧ (-9223372036854775808 ≤ n.S ∧ n.S ≤ 9223372036854775807) ∧ (-9223372036854775808 ≤ n.T ∧ n.T ≤ 9223372036854775807) ∧ ∀ a ∈ n.arcs, -9223372036854775808 ≤ a.1 ∧ a.1 ≤ 9223372036854775807 ∧ -9223372036854775808 ≤ a.2.1 ∧ a.2.1 ≤ 9223372036854775807 ∧ -9223372036854775808 ≤ a.2.2 ∧ a.2.2 ≤ 9223372036854775807) (hl : (sl (eInt .i64) 1 A1 l.length c1 l).p w) (hrgl : ∀ x ∈ l, -9223372036854775808 ≤ x ∧ x ≤ 9223372036854775807) (hat0 : 0 ≤ at0 ∧ at0 ≤ 255) :
    Calls Try.prog 15 #[netV n A c, .slice A1 l.length c1, .int .u8 at0] w fun e w' => e = .returned (.bool true) ∧ Gr w w' := by
  refine calls_cw Try.func15 rfl Try.ntmps15 rfl ?_
  have hS := ((St.start w).args (Nat.le_refl _) _ ha rfl).args (Nat.le_refl _) _ hl rfl
  refine cw_seq ?_
  -- region 0
  refine cw_region ?_
  refine lw_box rfl rfl rfl rfl hS ?_
  clear hS; intro b3 w1 _ _ hS
  refine lw_v rfl rfl (ok_assign rfl (.n rfl) rfl) ?_
  refine lw_nil ?_
  refine Ends.keep [(1, .eq _), (2, .eq _), (3, .eq _)] (.cons rfl (.cons rfl (.cons rfl .nil))) ?_
  refine ends_then ?_
  refine cw_seq ?_
  -- region 1
  refine cw_region ?_
  refine lw_v rfl rfl (ok_ldS rfl (.n rfl) rfl Try.isAgg24 Try.sizeOf24 hS rfl) ?_
  refine lw_call (f := 24) (xs := [_, _, _]) rfl rfl rfl Try.call24 rfl (Calls.mono (f24a n A c _ (hS.rd A (by have := ha.2.1; omega)) hrgn) ?_)
  rintro e w' ⟨n1, AS, cS, hok, rfl, hg, hfr, ho⟩
  replace hS := hS.new hg _ ho hfr; clear hg ho hfr
  refine ⟨_, rfl, ?_⟩
  refine lw_stS rfl rfl rfl rfl rfl (by kernel_rfl) hS rfl (by rfl) (by rfl) ?_
  clear hS; intro w2 hS
  refine lw_nil ?_
  refine Ends.keep [(1, .eq _), (2, .eq _), (3, .eq _)] (.cons rfl (.cons rfl (.cons rfl .nil))) ?_
  refine ends_then ?_
  refine cw_seq ?_
  -- region 2
  refine cw_region ?_
  refine lw_v rfl rfl (ok_ldS rfl (.n rfl) rfl Try.isAgg24 Try.sizeOf24 hS rfl) ?_
  refine lw_v rfl rfl (ok_move rfl (.n rfl) rfl) ?_
  refine lw_call (f := 23) (xs := [_, _]) rfl rfl rfl Try.call23 rfl (Calls.mono (f23a n1 AS cS l A1 c1 _ hok (hS.rd AS (by have := hok.len; omega)) (hS.rd A1 hl.2.1) hl.2.1 hrgl) ?_)
  rintro e w' ⟨C, R, q, A6, c6, ⟨hwf, hro⟩, rfl, hg, hnew, hat, hfr, hap, ho⟩
  replace hS := hS.left hg hat hnew ho hfr hap; clear hg hnew hat hfr hap ho
  replace hS := hS.sub (.cons_cons _ (.cons_cons _ (.cons_cons _ (.cons_cons _ (.cons_cons _ (.cons_cons _ (.cons_cons _ (.cons _ (.cons _ (List.Sublist.refl _))))))))))
  have hM := hwf.m
  have hrlen := hro.len
  have hN := hwf.hi
  have hlo := hwf.lo
  obtain ⟨u, huv, huN⟩ := modN at0 hat0.1 C.N (by omega)
  refine ⟨_, rfl, ?_⟩
  refine lw_v rfl rfl (ok_move rfl (.n rfl) rfl) ?_
  refine lw_v rfl rfl (ok_extract rfl (.n rfl) rfl rfl) ?_
  refine lw_v rfl rfl (ok_extract rfl (.n rfl) rfl rfl) ?_
  refine lw_alloc rfl rfl rfl Try.zeroValue29 hS ?_
  clear hS; intro b7 w3 _ _ hS
  refine lw_stS rfl rfl rfl rfl rfl (by kernel_rfl) hS rfl (by rfl) (by rfl) ?_
  clear hS; intro w4 hS
  refine lw_v rfl rfl (ok_assign rfl (.n rfl) rfl) ?_
  refine lw_nil ?_
  refine Ends.keep [(2, .eq _), (7, .eq _), (8, .eq _)] (.cons rfl (.cons rfl (.cons rfl .nil))) ?_
  refine ends_then ?_
  refine cw_seq ?_
  -- region 3
  refine cw_region ?_
  refine lw_v rfl rfl (ok_move rfl (.n rfl) rfl) ?_
  refine lw_v rfl rfl (ok_eq (ok_conv rfl (.n rfl) Try.underlying5 Try.underlying3 rfl) (c' := .int .i64 at0) (fun _ => congrArg (Value.int .i64) (wrap_in ⟨by omega, by omega⟩))) ?_
  refine lw_v rfl rfl (ok_fb rfl (.n rfl) Try.underlying29 rfl Try.sizeOf3 (by decide) rfl) ?_
  refine lw_v rfl rfl (ok_ldb rfl (.n rfl) rfl Try.isAgg3 hS (by rfl)) ?_
  refine lw_v rfl rfl (ok_eq (ok_rem rfl (.n rfl) rfl rfl (fun _ => by omega)) (c' := .int .i64 (u : Int)) (fun _ => congrArg (Value.int .i64) huv)) ?_
  refine lw_v rfl rfl (ok_assign rfl (.n rfl) rfl) ?_
  refine lw_nil ?_
  refine Ends.keep [(7, .eq _), (8, .eq _), (9, .eq _)] (.cons rfl (.cons rfl (.cons rfl .nil))) ?_
  refine ends_then ?_
  refine cw_seq ?_
  refine cw_seq ?_
  -- region 4
  refine cw_region ?_
  refine lw_ls (enc := eBool) [true, false] rfl rfl rfl Try.underlying27 Try.sizeOf4 Try.zeroValue4 rfl (by kernel_rfl) rfl (by decide) (by decide) hS ?_
  clear hS; intro A33 c33 w5 _ hS
  refine lw_v rfl rfl (ok_len rfl (.n rfl) Try.underlying27 rfl) ?_
  refine lw_v rfl rfl (ok_move rfl (.n rfl) rfl) ?_
  refine lw_nil ?_
  refine Ends.keep [(7, .eq _), (8, .eq _), (9, .eq _), (33, .eq _), (34, .eq _), (35, .eq _)] (.cons rfl (.cons rfl (.cons rfl (.cons rfl (.cons rfl (.cons rfl .nil)))))) ?_
  refine ends_then ?_
  refine cw_block ?_
  -- LOOP at region 5: changed live slots [35], kept [7, 8, 9, 33, 34]
  refine cw_loop [(7, .eq _), (8, .eq _), (9, .eq _), (33, .eq _), (34, .eq _)] (fun j : Nat => [(35, .eq (.int .i64 j))]) (fun j w' => j ≤ 2 ∧ St w.heap.size w w' [own eBool 1 4 A33 2 c33 [true, false], bx b7 (csV C q).cells.toList 29, own (eInt .i64) 1 2 A6 R.length c6 R, sl (eInt .i64) 1 q.a0 C.First.length q.c0 C.First, sl (eInt .i64) 1 q.a1 C.Head.length q.c1 C.Head, sl (eInt .i64) 1 q.a2 C.Rev.length q.c2 C.Rev, sl (eInt .i64) 1 q.a3 C.Cap.length q.c3 C.Cap, sl (eInt .i64) 1 q.a4 C.Arc.length q.c4 C.Arc, sl eBool 1 q.a5 C.Back.length q.c5 C.Back, sl (eInt .i64) 1 A1 l.length c1 l, sl eArc 3 A n.arcs.length c n.arcs]) (fun j => 2 - j) 0 (.cons rfl (.cons rfl (.cons rfl (.cons rfl (.cons rfl .nil))))) (.cons rfl (.cons rfl (.cons rfl (.cons rfl (.cons rfl (.cons rfl .nil)))))) ⟨Nat.zero_le _, hS⟩ ?_
  clear hS
  rintro j wr ⟨hj, hS⟩
  refine cw_seq ?_
  -- region 5
  refine cw_region ?_
  refine lw_v rfl rfl (ok_lss rfl (.n rfl) rfl rfl) ?_
  refine lw_nil ?_
  refine Ends.keep [(7, .eq _), (8, .eq _), (9, .eq _), (33, .eq _), (34, .eq _), (35, .eq _), (36, .eq _)] (.cons rfl (.cons rfl (.cons rfl (.cons rfl (.cons rfl (.cons rfl (.cons rfl .nil))))))) ?_
  refine ends_then ?_
  refine cw_seq ?_
  refine cw_cond rfl (fun h36 => ?_) (fun h36 => ?_)
  ·
    have hj2 : j < 2 := by have := of_decide_eq_true h36; omega
    obtain ⟨b, hb⟩ : ∃ b, ([true, false] : List Bool).getD (j : Int).toNat false = b := ⟨_, rfl⟩
    refine cw_skip ?_
    refine ends_then ?_
    refine cw_seq ?_
    refine cw_block ?_
    refine cw_seq ?_
    -- region 6
    refine cw_region ?_
    refine lw_v rfl rfl (ok_ix rfl (.n rfl) Try.underlying27 Try.sizeOf4 rfl rfl hS (fun _ => ⟨by omega, by omega⟩)) ?_
    refine lw_v rfl rfl (ok_eq (ok_ldx rfl (.n rfl) rfl Try.isAgg4 hS (fun _ => ⟨by omega, by omega⟩) (by rfl)) (c' := .bool b) (fun _ => congrArg Value.bool hb)) ?_
    refine lw_v rfl rfl (ok_assign rfl (.n rfl) rfl) ?_
    refine lw_nil ?_
    refine Ends.keep [(7, .eq _), (8, .eq _), (9, .eq _), (11, .eq _), (33, .eq _), (34, .eq _), (35, .eq _)] (.cons rfl (.cons rfl (.cons rfl (.cons rfl (.cons rfl (.cons rfl (.cons rfl .nil))))))) ?_
    refine ends_then ?_
    refine cw_seq ?_
    -- region 7
    refine cw_region ?_
    refine lw_v rfl rfl (ok_ldS rfl (.n rfl) rfl Try.isAgg29 Try.sizeOf29 hS rfl) ?_
    refine lw_v rfl rfl (ok_move rfl (.n rfl) rfl) ?_
    refine lw_v rfl rfl (ok_move rfl (.n rfl) rfl) ?_
    refine lw_call (f := 42) (xs := [_, _, _]) rfl rfl rfl Try.call42 rfl (Calls.mono (f42 C q R u A6 c6 _ hwf (hS.cs q) (hS.rd A6 (by omega))) ?_)
    rintro e w' ⟨A42, c42, rfl, hg, hfr, ho⟩
    replace hS := hS.new hg _ ho hfr; clear hg ho hfr
    have hl1 := fromL_len hrlen huN
    replace hS := hS.freeze .here (by omega)
    refine ⟨_, rfl, ?_⟩
    refine lw_v rfl rfl (ok_assign rfl (.n rfl) rfl) ?_
    refine lw_nil ?_
    refine Ends.keep [(7, .eq _), (8, .eq _), (9, .eq _), (11, .eq _), (12, .eq _), (33, .eq _), (34, .eq _), (35, .eq _)] (.cons rfl (.cons rfl (.cons rfl (.cons rfl (.cons rfl (.cons rfl (.cons rfl (.cons rfl .nil)))))))) ?_
    refine ends_then ?_
    refine cw_cut3 [(7, .eq _), (8, .eq _), (9, .eq _), (11, .eq _), (33, .eq _), (34, .eq _), (35, .eq _)] (fun (AD : Option Addr) (cD : Nat) (D : List Int) => [(12, .eq (.slice AD D.length cD))]) (fun AD cD D w' => Low C.N (EE C R b) (hTo C.N u) D ∧ St w.heap.size w w' [sl (eInt .i64) 1 AD D.length cD D, own eBool 1 4 A33 2 c33 [true, false], bx b7 (csV C q).cells.toList 29, own (eInt .i64) 1 2 A6 R.length c6 R, sl (eInt .i64) 1 q.a0 C.First.length q.c0 C.First, sl (eInt .i64) 1 q.a1 C.Head.length q.c1 C.Head, sl (eInt .i64) 1 q.a2 C.Rev.length q.c2 C.Rev, sl (eInt .i64) 1 q.a3 C.Cap.length q.c3 C.Cap, sl (eInt .i64) 1 q.a4 C.Arc.length q.c4 C.Arc, sl eBool 1 q.a5 C.Back.length q.c5 C.Back, sl (eInt .i64) 1 A1 l.length c1 l, sl eArc 3 A n.arcs.length c n.arcs]) (.cons rfl (.cons rfl (.cons rfl (.cons rfl (.cons rfl (.cons rfl (.cons rfl .nil))))))) ?_ ?_
    ·
      refine cw_seq ?_
      -- region 8
      refine cw_region ?_
      refine lw_v rfl rfl (ok_move rfl (.n rfl) rfl) ?_
      refine lw_nil ?_
      refine Ends.keep [(7, .eq _), (8, .eq _), (9, .eq _), (11, .eq _), (12, .eq _), (33, .eq _), (34, .eq _), (35, .eq _), (43, .eq _)] (.cons rfl (.cons rfl (.cons rfl (.cons rfl (.cons rfl (.cons rfl (.cons rfl (.cons rfl (.cons rfl .nil))))))))) ?_
      refine ends_then ?_
      refine cw_cond rfl (fun h43 => ?_) (fun h43 => ?_)
      ·
        -- region 9
        refine cw_region ?_
        refine lw_v rfl rfl (ok_ldS rfl (.n rfl) rfl Try.isAgg29 Try.sizeOf29 hS rfl) ?_
        refine lw_v rfl rfl (ok_move rfl (.n rfl) rfl) ?_
        refine lw_v rfl rfl (ok_move rfl (.n rfl) rfl) ?_
        refine lw_call (f := 41) (xs := [_, _, _]) rfl rfl rfl Try.call41 rfl (Calls.mono (f41 C q R u A6 c6 _ hwf (hS.cs q) (hS.rd A6 (by omega))) ?_)
        rintro e w' ⟨A47, c47, rfl, hg, hfr, ho⟩
        replace hS := hS.new hg _ ho hfr; clear hg ho hfr
        have hl2 := toL_len hrlen huN
        replace hS := hS.freeze .here (by omega)
        refine ⟨_, rfl, ?_⟩
        refine lw_v rfl rfl (ok_assign rfl (.n rfl) rfl) ?_
        refine lw_nil ?_
        -- CUT
        subst h43
        refine ends_cut3 A47 c47 (toL C R (u : Int)) (.cons rfl (.cons rfl (.cons rfl (.cons rfl (.cons rfl (.cons rfl (.cons rfl (.cons rfl .nil)))))))) ⟨toL_low (inB_of hrlen huN), hS.drop2⟩
      ·
        refine cw_skip ?_
        -- CUT
        subst h43
        refine ends_cut3 A42 c42 (fromL C R (u : Int)) (.cons rfl (.cons rfl (.cons rfl (.cons rfl (.cons rfl (.cons rfl (.cons rfl (.cons rfl .nil)))))))) ⟨fromL_low (inB_of hrlen huN), hS⟩
    ·
      clear hS
      rintro AD cD D wc ⟨hL, hS⟩
      have hDl := hL.len
      have hat := fun v (hv : v < C.N) => hL.le_N hv
      have hDu : D.getD (u : Int).toNat 0 = 0 := hL.at_t huN
      refine cw_seq ?_
      refine cw_seq ?_
      -- region 10
      refine cw_region ?_
      refine lw_v rfl rfl (ok_move rfl (.n rfl) rfl) ?_
      refine lw_v rfl rfl (ok_len rfl (.n rfl) Try.underlying26 rfl) ?_
      refine lw_v rfl rfl (ok_fb rfl (.n rfl) Try.underlying29 rfl Try.sizeOf3 (by decide) rfl) ?_
      refine lw_v rfl rfl (ok_ldb rfl (.n rfl) rfl Try.isAgg3 hS (by rfl)) ?_
      refine lw_v rfl rfl (ok_neq rfl (.n rfl) rfl rfl) ?_
      refine lw_v rfl rfl (ok_move rfl (.n rfl) rfl) ?_
      refine lw_v rfl rfl (ok_move rfl (.s rfl rfl) rfl) ?_
      refine lw_v rfl rfl (ok_move rfl (.s rfl rfl) rfl) ?_
      refine lw_v rfl rfl (ok_ix rfl (.s rfl rfl) Try.underlying26 Try.sizeOf3 rfl rfl hS (fun _ => ⟨by omega, by omega⟩)) ?_
      refine lw_v rfl rfl (ok_ldx rfl (.s rfl rfl) rfl Try.isAgg3 hS (fun _ => ⟨by omega, by omega⟩) (by rfl)) ?_
      refine lw_v rfl rfl (ok_neq rfl (.s rfl rfl) rfl rfl) ?_
      refine lw_v rfl rfl (ok_or rfl rfl rfl rfl) ?_
      refine lw_nil ?_
      refine Ends.keep [(7, .eq _), (8, .eq _), (9, .eq _), (11, .eq _), (12, .eq _), (33, .eq _), (34, .eq _), (35, .eq _), (59, .eq _)] (.cons rfl (.cons rfl (.cons rfl (.cons rfl (.cons rfl (.cons rfl (.cons rfl (.cons rfl (.cons rfl .nil))))))))) ?_
      refine ends_then ?_
      refine cw_cond rfl (fun h59 => ?_) (fun h59 => ?_)
      ·
        rw [hDl, hDu] at h59; simp at h59
      ·
        refine cw_skip ?_
        refine ends_then ?_
        refine cw_seq ?_
        -- region 12
        refine cw_region ?_
        refine lw_v rfl rfl (ok_fb rfl (.n rfl) Try.underlying29 rfl Try.sizeOf3 (by decide) rfl) ?_
        refine lw_v rfl rfl (ok_ldb rfl (.n rfl) rfl Try.isAgg3 hS (by rfl)) ?_
        refine lw_make (enc := eBool) rfl rfl rfl Try.underlying27 info4 rfl rfl rfl rfl (by omega) (by omega) hS ?_
        clear hS; intro A62 c62 w6 _ hS
        refine lw_v rfl rfl (ok_assign rfl (.n rfl) rfl) ?_
        refine lw_nil ?_
        refine Ends.keep [(7, .eq _), (8, .eq _), (9, .eq _), (11, .eq _), (12, .eq _), (13, .eq _), (33, .eq _), (34, .eq _), (35, .eq _)] (.cons rfl (.cons rfl (.cons rfl (.cons rfl (.cons rfl (.cons rfl (.cons rfl (.cons rfl (.cons rfl .nil))))))))) ?_
        refine ends_then ?_
        refine cw_seq ?_
        refine cw_seq ?_
        -- region 13
        refine cw_region ?_
        refine lw_v rfl rfl (ok_move rfl (.n rfl) rfl) ?_
        refine lw_v rfl rfl (ok_len rfl (.n rfl) Try.underlying25 rfl) ?_
        refine lw_v rfl rfl (ok_move rfl (.n rfl) rfl) ?_
        refine lw_nil ?_
        refine Ends.keep [(7, .eq _), (8, .eq _), (9, .eq _), (11, .eq _), (12, .eq _), (13, .eq _), (33, .eq _), (34, .eq _), (35, .eq _), (64, .eq _), (65, .eq _)] (.cons rfl (.cons rfl (.cons rfl (.cons rfl (.cons rfl (.cons rfl (.cons rfl (.cons rfl (.cons rfl (.cons rfl (.cons rfl .nil))))))))))) ?_
        refine ends_then ?_
        refine cw_block ?_
        -- LOOP at region 14: changed live slots [65], kept [7, 8, 9, 11, 12, 13, 33, 34, 35, 64]
        refine cw_loop [(7, .eq _), (8, .eq _), (9, .eq _), (11, .eq _), (12, .eq _), (13, .eq _), (33, .eq _), (34, .eq _), (35, .eq _), (64, .eq _)] (fun k : Nat => [(65, .eq (.int .i64 k))]) (fun k w' => ∃ near, (k ≤ R.length ∧ NearI C R D b near k) ∧ St w.heap.size w w' [own eBool 1 4 A62 C.N c62 near, sl (eInt .i64) 1 AD D.length cD D, own eBool 1 4 A33 2 c33 [true, false], bx b7 (csV C q).cells.toList 29, own (eInt .i64) 1 2 A6 R.length c6 R, sl (eInt .i64) 1 q.a0 C.First.length q.c0 C.First, sl (eInt .i64) 1 q.a1 C.Head.length q.c1 C.Head, sl (eInt .i64) 1 q.a2 C.Rev.length q.c2 C.Rev, sl (eInt .i64) 1 q.a3 C.Cap.length q.c3 C.Cap, sl (eInt .i64) 1 q.a4 C.Arc.length q.c4 C.Arc, sl eBool 1 q.a5 C.Back.length q.c5 C.Back, sl (eInt .i64) 1 A1 l.length c1 l, sl eArc 3 A n.arcs.length c n.arcs]) (fun k => R.length - k) 0 (.cons rfl (.cons rfl (.cons rfl (.cons rfl (.cons rfl (.cons rfl (.cons rfl (.cons rfl (.cons rfl (.cons rfl .nil)))))))))) (.cons rfl (.cons rfl (.cons rfl (.cons rfl (.cons rfl (.cons rfl (.cons rfl (.cons rfl (.cons rfl (.cons rfl (.cons rfl .nil))))))))))) ⟨_, ⟨Nat.zero_le _, NearI.start C R D b⟩, hS⟩ ?_
        clear hS
        rintro k wr ⟨near, ⟨hk, hNi⟩, hS⟩
        refine cw_seq ?_
        -- region 14
        refine cw_region ?_
        refine lw_v rfl rfl (ok_lss rfl (.n rfl) rfl rfl) ?_
        refine lw_nil ?_
        refine Ends.keep [(7, .eq _), (8, .eq _), (9, .eq _), (11, .eq _), (12, .eq _), (13, .eq _), (33, .eq _), (34, .eq _), (35, .eq _), (64, .eq _), (65, .eq _), (66, .eq _)] (.cons rfl (.cons rfl (.cons rfl (.cons rfl (.cons rfl (.cons rfl (.cons rfl (.cons rfl (.cons rfl (.cons rfl (.cons rfl (.cons rfl .nil)))))))))))) ?_
        refine ends_then ?_
        refine cw_seq ?_
        refine cw_cond rfl (fun h66 => ?_) (fun h66 => ?_)
        ·
          have hkR : k < R.length := by have := of_decide_eq_true h66; omega
          have hkM : k < C.Head.length := by omega
          obtain ⟨z, hz', hzN⟩ := head_at hwf hkM
          have hz : C.Head.getD (k : Int).toNat 0 = (z : Int) := hz'
          have hzk : (C.Head.getD k 0).toNat = z := by rw [hz']; rfl
          have htN := (tail_at hwf hkM).1
          refine cw_skip ?_
          refine ends_then ?_
          refine cw_seq ?_
          refine cw_block ?_
          refine cw_seq ?_
          -- region 15
          refine cw_region ?_
          refine lw_v rfl rfl (ok_move rfl (.n rfl) rfl) ?_
          refine lw_v rfl rfl (ok_assign rfl (.n rfl) rfl) ?_
          refine lw_nil ?_
          refine Ends.keep [(7, .eq _), (8, .eq _), (9, .eq _), (11, .eq _), (12, .eq _), (13, .eq _), (14, .eq _), (33, .eq _), (34, .eq _), (35, .eq _), (64, .eq _), (65, .eq _)] (.cons rfl (.cons rfl (.cons rfl (.cons rfl (.cons rfl (.cons rfl (.cons rfl (.cons rfl (.cons rfl (.cons rfl (.cons rfl (.cons rfl .nil)))))))))))) ?_
          refine ends_then ?_
          refine cw_seq ?_
          -- region 16
          refine cw_region ?_
          refine lw_v rfl rfl (ok_ldS rfl (.n rfl) rfl Try.isAgg29 Try.sizeOf29 hS rfl) ?_
          refine lw_v rfl rfl (ok_move rfl (.n rfl) rfl) ?_
          refine lw_call (f := 40) (xs := [_, _]) rfl rfl rfl Try.call40 rfl (Calls.mono (f40 C q k _ hwf (hS.cs q) (by omega)) ?_)
          rintro e w' ⟨rfl, hg⟩
          replace hS := hS.grow hg; clear hg
          refine ⟨_, rfl, ?_⟩
          refine lw_v rfl rfl (ok_move rfl (.n rfl) rfl) ?_
          refine lw_v rfl rfl (ok_extract rfl (.n rfl) rfl rfl) ?_
          refine lw_v rfl rfl (ok_extract rfl (.n rfl) rfl rfl) ?_
          refine lw_v rfl rfl (ok_assign rfl (.n rfl) rfl) ?_
          refine lw_v rfl rfl (ok_assign rfl (.n rfl) rfl) ?_
          refine lw_nil ?_
          refine Ends.keep [(7, .eq _), (8, .eq _), (9, .eq _), (11, .eq _), (12, .eq _), (13, .eq _), (14, .eq _), (15, .eq _), (16, .eq _), (33, .eq _), (34, .eq _), (35, .eq _), (64, .eq _), (65, .eq _)] (.cons rfl (.cons rfl (.cons rfl (.cons rfl (.cons rfl (.cons rfl (.cons rfl (.cons rfl (.cons rfl (.cons rfl (.cons rfl (.cons rfl (.cons rfl (.cons rfl .nil)))))))))))))) ?_
          refine ends_then ?_
          refine cw_seq ?_
          refine cw_seq ?_
          -- region 17
          refine cw_region ?_
          refine lw_v rfl rfl (ok_move rfl (.n rfl) rfl) ?_
          refine lw_v rfl rfl (ok_not rfl (.n rfl) rfl) ?_
          refine lw_nil ?_
          refine Ends.keep [(7, .eq _), (8, .eq _), (9, .eq _), (11, .eq _), (12, .eq _), (13, .eq _), (14, .eq _), (15, .eq _), (33, .eq _), (34, .eq _), (35, .eq _), (64, .eq _), (65, .eq _), (75, .eq _)] (.cons rfl (.cons rfl (.cons rfl (.cons rfl (.cons rfl (.cons rfl (.cons rfl (.cons rfl (.cons rfl (.cons rfl (.cons rfl (.cons rfl (.cons rfl (.cons rfl .nil)))))))))))))) ?_
          refine ends_then ?_
          refine cw_cond rfl (fun h75 => ?_) (fun h75 => ?_)
          ·
            cases h75
          ·
            refine cw_skip ?_
            refine ends_then ?_
            refine cw_seq ?_
            -- region 19
            refine cw_region ?_
            refine lw_v rfl rfl (ok_fb rfl (.n rfl) Try.underlying29 rfl Try.sizeOf26 (by decide) rfl) ?_
            refine lw_v rfl rfl (ok_ldb rfl (.n rfl) rfl Try.isAgg26 hS (by rfl)) ?_
            refine lw_v rfl rfl (ok_move rfl (.n rfl) rfl) ?_
            refine lw_v rfl rfl (ok_ix rfl (.n rfl) Try.underlying26 Try.sizeOf3 rfl rfl hS (fun _ => ⟨by omega, by omega⟩)) ?_
            refine lw_v rfl rfl (ok_eq (ok_ldx rfl (.n rfl) rfl Try.isAgg3 hS (fun _ => ⟨by omega, by omega⟩) (by rfl)) (c' := .int .i64 (z : Int)) (fun _ => congrArg (Value.int .i64) hz)) ?_
            refine lw_v rfl rfl (ok_assign rfl (.n rfl) rfl) ?_
            refine lw_nil ?_
            refine Ends.keep [(7, .eq _), (8, .eq _), (9, .eq _), (11, .eq _), (12, .eq _), (13, .eq _), (14, .eq _), (15, .eq _), (17, .eq _), (33, .eq _), (34, .eq _), (35, .eq _), (64, .eq _), (65, .eq _)] (.cons rfl (.cons rfl (.cons rfl (.cons rfl (.cons rfl (.cons rfl (.cons rfl (.cons rfl (.cons rfl (.cons rfl (.cons rfl (.cons rfl (.cons rfl (.cons rfl .nil)))))))))))))) ?_
            refine ends_then ?_
            refine cw_cut3 [(7, .eq _), (8, .eq _), (9, .eq _), (11, .eq _), (12, .eq _), (13, .eq _), (14, .eq _), (33, .eq _), (34, .eq _), (35, .eq _), (64, .eq _), (65, .eq _)] (fun (x y : Nat) (_ : Unit) => [(15, .eq (.int .i64 x)), (17, .eq (.int .i64 y))]) (fun x y _ w' => ((x < C.N ∧ y < C.N) ∧ x = srcOf C b k ∧ y = dstOf C b k) ∧ St w.heap.size w w' [own eBool 1 4 A62 C.N c62 near, sl (eInt .i64) 1 AD D.length cD D, own eBool 1 4 A33 2 c33 [true, false], bx b7 (csV C q).cells.toList 29, own (eInt .i64) 1 2 A6 R.length c6 R, sl (eInt .i64) 1 q.a0 C.First.length q.c0 C.First, sl (eInt .i64) 1 q.a1 C.Head.length q.c1 C.Head, sl (eInt .i64) 1 q.a2 C.Rev.length q.c2 C.Rev, sl (eInt .i64) 1 q.a3 C.Cap.length q.c3 C.Cap, sl (eInt .i64) 1 q.a4 C.Arc.length q.c4 C.Arc, sl eBool 1 q.a5 C.Back.length q.c5 C.Back, sl (eInt .i64) 1 A1 l.length c1 l, sl eArc 3 A n.arcs.length c n.arcs]) (.cons rfl (.cons rfl (.cons rfl (.cons rfl (.cons rfl (.cons rfl (.cons rfl (.cons rfl (.cons rfl (.cons rfl (.cons rfl (.cons rfl .nil)))))))))))) ?_ ?_
            ·
              refine cw_seq ?_
              -- region 20
              refine cw_region ?_
              refine lw_v rfl rfl (ok_move rfl (.n rfl) rfl) ?_
              refine lw_v rfl rfl (ok_not rfl (.n rfl) rfl) ?_
              refine lw_nil ?_
              refine Ends.keep [(7, .eq _), (8, .eq _), (9, .eq _), (11, .eq _), (12, .eq _), (13, .eq _), (14, .eq _), (15, .eq _), (17, .eq _), (33, .eq _), (34, .eq _), (35, .eq _), (64, .eq _), (65, .eq _), (82, .eq _)] (.cons rfl (.cons rfl (.cons rfl (.cons rfl (.cons rfl (.cons rfl (.cons rfl (.cons rfl (.cons rfl (.cons rfl (.cons rfl (.cons rfl (.cons rfl (.cons rfl (.cons rfl .nil))))))))))))))) ?_
              refine ends_then ?_
              refine cw_cond rfl (fun h82 => ?_) (fun h82 => ?_)
              ·
                -- region 21
                refine cw_region ?_
                refine lw_v rfl rfl (ok_move rfl (.n rfl) rfl) ?_
                refine lw_v rfl rfl (ok_move rfl (.n rfl) rfl) ?_
                refine lw_v rfl rfl (ok_assign rfl (.n rfl) rfl) ?_
                refine lw_v rfl rfl (ok_assign rfl (.n rfl) rfl) ?_
                refine lw_nil ?_
                -- CUT
                have hbf : b = false := by simpa using h82
                subst hbf
                refine ends_cut3 z (tailOf C k) () (.cons rfl (.cons rfl (.cons rfl (.cons rfl (.cons rfl (.cons rfl (.cons rfl (.cons rfl (.cons rfl (.cons rfl (.cons rfl (.cons rfl (.cons rfl (.cons rfl .nil)))))))))))))) ⟨⟨⟨hzN, htN⟩, hzk.symm, rfl⟩, hS⟩
              ·
                refine cw_skip ?_
                -- CUT
                have hbf : b = true := by simpa using h82
                subst hbf
                refine ends_cut3 (tailOf C k) z () (.cons rfl (.cons rfl (.cons rfl (.cons rfl (.cons rfl (.cons rfl (.cons rfl (.cons rfl (.cons rfl (.cons rfl (.cons rfl (.cons rfl (.cons rfl (.cons rfl .nil)))))))))))))) ⟨⟨⟨htN, hzN⟩, rfl, hzk.symm⟩, hS⟩
            ·
              clear hS
              rintro x y _ wc ⟨⟨⟨hxN, hyN⟩, hxs, hys⟩, hS⟩
              have hNl := hNi.len
              have hDx : 0 ≤ D.getD (x : Int).toNat 0 ∧ D.getD (x : Int).toNat 0 ≤ C.N := hat x hxN
              have hDy : 0 ≤ D.getD (y : Int).toNat 0 ∧ D.getD (y : Int).toNat 0 ≤ C.N := hat y hyN
              refine cw_seq ?_
              -- region 22
              refine cw_region ?_
              refine lw_v rfl rfl (ok_move rfl (.n rfl) rfl) ?_
              refine lw_v rfl rfl (ok_move rfl (.n rfl) rfl) ?_
              refine lw_v rfl rfl (ok_ix rfl (.n rfl) Try.underlying25 Try.sizeOf2 rfl rfl hS (fun _ => ⟨by omega, by omega⟩)) ?_
              refine lw_v rfl rfl (ok_ldx rfl (.n rfl) rfl Try.isAgg2 hS (fun _ => ⟨by omega, by omega⟩) (by rfl)) ?_
              refine lw_v rfl rfl (ok_gtr rfl (.n rfl) rfl rfl) ?_
              refine lw_nil ?_
              refine Ends.keep [(7, .eq _), (8, .eq _), (9, .eq _), (11, .eq _), (12, .eq _), (13, .eq _), (15, .eq _), (17, .eq _), (33, .eq _), (34, .eq _), (35, .eq _), (64, .eq _), (65, .eq _), (89, .eq _)] (.cons rfl (.cons rfl (.cons rfl (.cons rfl (.cons rfl (.cons rfl (.cons rfl (.cons rfl (.cons rfl (.cons rfl (.cons rfl (.cons rfl (.cons rfl (.cons rfl .nil)))))))))))))) ?_
              refine ends_then ?_
              refine cw_cond rfl (fun h89 => ?_) (fun h89 => ?_)
              ·
                have hpos : 0 < R.getD k 0 := of_decide_eq_true h89
                refine cw_seq ?_
                refine cw_seq ?_
                -- region 23
                refine cw_draw (by kernel_rfl) (List.take 9 _) (List.drop 9 _) (List.take_append_drop 9 _).symm (by kernel_rfl) ?_
                refine free_v (ok_move rfl (.n rfl) rfl) ?_
                refine free_v (ok_move rfl (.n rfl) rfl) ?_
                refine free_v (ok_ix rfl (.n rfl) Try.underlying26 Try.sizeOf3 rfl rfl hS (fun _ => ⟨by omega, by omega⟩)) ?_
                refine free_v (ok_ldx rfl (.n rfl) rfl Try.isAgg3 hS (fun _ => ⟨by omega, by omega⟩) (by rfl)) ?_
                refine free_v (ok_move rfl (.n rfl) rfl) ?_
                refine free_v (ok_move rfl (.n rfl) rfl) ?_
                refine free_v (ok_ix rfl (.n rfl) Try.underlying26 Try.sizeOf3 rfl rfl hS (fun _ => ⟨by omega, by omega⟩)) ?_
                refine free_v (ok_ldx rfl (.n rfl) rfl Try.isAgg3 hS (fun _ => ⟨by omega, by omega⟩) (by rfl)) ?_
                refine free_v (ok_addi rfl (.n rfl) rfl rfl (fun _ => ⟨by omega, by omega⟩)) ?_
                refine free_nil ?_
                intro w7 hg_; replace hS := hS.grow hg_; clear hg_
                refine lw_v rfl rfl (ok_gtr rfl (.n rfl) rfl rfl) ?_
                refine lw_nil ?_
                refine Ends.keep [(7, .eq _), (8, .eq _), (9, .eq _), (11, .eq _), (12, .eq _), (13, .eq _), (15, .eq _), (17, .eq _), (33, .eq _), (34, .eq _), (35, .eq _), (64, .eq _), (65, .eq _), (99, .eq _)] (.cons rfl (.cons rfl (.cons rfl (.cons rfl (.cons rfl (.cons rfl (.cons rfl (.cons rfl (.cons rfl (.cons rfl (.cons rfl (.cons rfl (.cons rfl (.cons rfl .nil)))))))))))))) ?_
                refine ends_then ?_
                refine cw_cond rfl (fun h99 => ?_) (fun h99 => ?_)
                ·
                  have h9 : D.getD (y : Int).toNat 0 + 1 < D.getD (x : Int).toNat 0 := of_decide_eq_true h99
                  have := hL.ok x y hxN hyN (by rw [hxs, hys]; exact ee_arc hkM hpos b)
                  exact (not_steps h9 this).elim
                ·
                  refine cw_skip ?_
                  refine ends_then ?_
                  -- region 25
                  refine cw_draw (by kernel_rfl) (List.take 18 _) (List.drop 18 _) (List.take_append_drop 18 _).symm (by kernel_rfl) ?_
                  refine free_v (ok_move rfl (.n rfl) rfl) ?_
                  refine free_v (ok_move rfl (.n rfl) rfl) ?_
                  refine free_v (ok_move rfl (.n rfl) rfl) ?_
                  refine free_v (ok_move rfl (.n rfl) rfl) ?_
                  refine free_v (ok_ix rfl (.n rfl) Try.underlying27 Try.sizeOf4 rfl rfl hS (fun _ => ⟨by omega, by omega⟩)) ?_
                  refine free_v (ok_ldx rfl (.n rfl) rfl Try.isAgg4 hS (fun _ => ⟨by omega, by omega⟩) (by rfl)) ?_
                  refine free_v (ok_move rfl (.n rfl) rfl) ?_
                  refine free_v (ok_move rfl (.s rfl rfl) rfl) ?_
                  refine free_v (ok_move rfl (.s rfl rfl) rfl) ?_
                  refine free_v (ok_ix rfl (.s rfl rfl) Try.underlying26 Try.sizeOf3 rfl rfl hS (fun _ => ⟨by omega, by omega⟩)) ?_
                  refine free_v (ok_ldx rfl (.s rfl rfl) rfl Try.isAgg3 hS (fun _ => ⟨by omega, by omega⟩) (by rfl)) ?_
                  refine free_v (ok_move rfl (.s rfl rfl) rfl) ?_
                  refine free_v (ok_move rfl (.s rfl rfl) rfl) ?_
                  refine free_v (ok_ix rfl (.s rfl rfl) Try.underlying26 Try.sizeOf3 rfl rfl hS (fun _ => ⟨by omega, by omega⟩)) ?_
                  refine free_v (ok_ldx rfl (.s rfl rfl) rfl Try.isAgg3 hS (fun _ => ⟨by omega, by omega⟩) (by rfl)) ?_
                  refine free_v (ok_addi rfl (.s rfl rfl) rfl rfl (fun _ => ⟨by omega, by omega⟩)) ?_
                  refine free_v (ok_eql rfl (.s rfl rfl) rfl rfl) ?_
                  refine free_v (ok_or rfl rfl rfl rfl) ?_
                  refine free_nil ?_
                  intro w8 hg_; replace hS := hS.grow hg_; clear hg_
                  refine lw_v rfl rfl (ok_ix rfl (.n rfl) Try.underlying27 Try.sizeOf4 rfl rfl hS (fun _ => ⟨by omega, by omega⟩)) ?_
                  refine lw_stx (enc := eBool) (_) rfl rfl rfl rfl rfl rfl Try.sizeOf4 hS (⟨by omega, by omega⟩) ?_
                  clear hS; intro w9 hS
                  refine lw_nil ?_
                  refine in_normal (?_)
                  refine Ends.keep [(7, .eq _), (8, .eq _), (9, .eq _), (11, .eq _), (12, .eq _), (13, .eq _), (33, .eq _), (34, .eq _), (35, .eq _), (64, .eq _), (65, .eq _)] (.cons rfl (.cons rfl (.cons rfl (.cons rfl (.cons rfl (.cons rfl (.cons rfl (.cons rfl (.cons rfl (.cons rfl (.cons rfl .nil))))))))))) ?_
                  refine ends_then ?_
                  -- region 26
                  refine cw_region ?_
                  refine lw_v rfl rfl (ok_addi rfl (.n rfl) rfl rfl (fun _ => ⟨by omega, by omega⟩)) ?_
                  refine lw_v rfl rfl (ok_move rfl (.n rfl) rfl) ?_
                  refine lw_nil ?_
                  -- BACK
                  refine ends_back (k + 1) (.cons rfl (.cons rfl (.cons rfl (.cons rfl (.cons rfl (.cons rfl (.cons rfl (.cons rfl (.cons rfl (.cons rfl (.cons rfl .nil))))))))))) ⟨_, ⟨by omega, hNi.add hxN hxs hys hpos⟩, hS⟩ (by omega)
              ·
                have hpos : ¬ 0 < R.getD k 0 := of_decide_eq_false h89
                refine cw_skip ?_
                refine in_normal (?_)
                refine ends_then ?_
                -- region 26
                refine cw_region ?_
                refine lw_v rfl rfl (ok_addi rfl (.n rfl) rfl rfl (fun _ => ⟨by omega, by omega⟩)) ?_
                refine lw_v rfl rfl (ok_move rfl (.n rfl) rfl) ?_
                refine lw_nil ?_
                -- BACK
                refine ends_back (k + 1) (.cons rfl (.cons rfl (.cons rfl (.cons rfl (.cons rfl (.cons rfl (.cons rfl (.cons rfl (.cons rfl (.cons rfl (.cons rfl .nil))))))))))) ⟨near, ⟨by omega, hNi.skip hpos⟩, hS⟩ (by omega)
        ·
          have hke : k = C.Head.length := by have := of_decide_eq_false h66; omega
          subst hke
          have hNl := hNi.len
          refine cw_exit ?_
          refine then_exit (then_exit (in_exit (?_)))
          refine Ends.keep [(7, .eq _), (8, .eq _), (9, .eq _), (12, .eq _), (13, .eq _), (33, .eq _), (34, .eq _), (35, .eq _)] (.cons rfl (.cons rfl (.cons rfl (.cons rfl (.cons rfl (.cons rfl (.cons rfl (.cons rfl .nil)))))))) ?_
          refine ends_then ?_
          refine cw_seq ?_
          -- region 27
          refine cw_region ?_
          refine lw_v rfl rfl (ok_move rfl (.n rfl) rfl) ?_
          refine lw_v rfl rfl (ok_len rfl (.n rfl) Try.underlying26 rfl) ?_
          refine lw_v rfl rfl (ok_move rfl (.n rfl) rfl) ?_
          refine lw_nil ?_
          refine Ends.keep [(7, .eq _), (8, .eq _), (9, .eq _), (13, .eq _), (33, .eq _), (34, .eq _), (35, .eq _), (120, .eq _), (121, .eq _), (122, .eq _)] (.cons rfl (.cons rfl (.cons rfl (.cons rfl (.cons rfl (.cons rfl (.cons rfl (.cons rfl (.cons rfl (.cons rfl .nil)))))))))) ?_
          refine ends_then ?_
          refine cw_block ?_
          -- LOOP at region 28: changed live slots [122], kept [7, 8, 9, 13, 33, 34, 35, 120, 121]
          refine cw_loop [(7, .eq _), (8, .eq _), (9, .eq _), (13, .eq _), (33, .eq _), (34, .eq _), (35, .eq _), (120, .eq _), (121, .eq _)] (fun v : Nat => [(122, .eq (.int .i64 v))]) (fun v w' => v ≤ C.N ∧ St w.heap.size w w' [own eBool 1 4 A62 C.N c62 near, sl (eInt .i64) 1 AD D.length cD D, own eBool 1 4 A33 2 c33 [true, false], bx b7 (csV C q).cells.toList 29, own (eInt .i64) 1 2 A6 R.length c6 R, sl (eInt .i64) 1 q.a0 C.First.length q.c0 C.First, sl (eInt .i64) 1 q.a1 C.Head.length q.c1 C.Head, sl (eInt .i64) 1 q.a2 C.Rev.length q.c2 C.Rev, sl (eInt .i64) 1 q.a3 C.Cap.length q.c3 C.Cap, sl (eInt .i64) 1 q.a4 C.Arc.length q.c4 C.Arc, sl eBool 1 q.a5 C.Back.length q.c5 C.Back, sl (eInt .i64) 1 A1 l.length c1 l, sl eArc 3 A n.arcs.length c n.arcs]) (fun v => C.N - v) 0 (.cons rfl (.cons rfl (.cons rfl (.cons rfl (.cons rfl (.cons rfl (.cons rfl (.cons rfl (.cons rfl .nil))))))))) (.cons rfl (.cons rfl (.cons rfl (.cons rfl (.cons rfl (.cons rfl (.cons rfl (.cons rfl (.cons rfl (.cons rfl .nil)))))))))) ⟨Nat.zero_le _, hS⟩ ?_
          clear hS
          rintro v wr ⟨hv, hS⟩
          refine cw_seq ?_
          -- region 28
          refine cw_region ?_
          refine lw_v rfl rfl (ok_lss rfl (.n rfl) rfl rfl) ?_
          refine lw_nil ?_
          refine Ends.keep [(7, .eq _), (8, .eq _), (9, .eq _), (13, .eq _), (33, .eq _), (34, .eq _), (35, .eq _), (120, .eq _), (121, .eq _), (122, .eq _), (123, .eq _)] (.cons rfl (.cons rfl (.cons rfl (.cons rfl (.cons rfl (.cons rfl (.cons rfl (.cons rfl (.cons rfl (.cons rfl (.cons rfl .nil))))))))))) ?_
          refine ends_then ?_
          refine cw_seq ?_
          refine cw_cond rfl (fun h123 => ?_) (fun h123 => ?_)
          ·
            have hvN : v < C.N := by have := of_decide_eq_true h123; omega
            have hDv : 0 ≤ D.getD (v : Int).toNat 0 ∧ D.getD (v : Int).toNat 0 ≤ C.N := hat v hvN
            refine cw_skip ?_
            refine ends_then ?_
            refine cw_seq ?_
            refine cw_block ?_
            refine cw_seq ?_
            -- region 29
            refine cw_region ?_
            refine lw_v rfl rfl (ok_move rfl (.n rfl) rfl) ?_
            refine lw_v rfl rfl (ok_ix rfl (.n rfl) Try.underlying26 Try.sizeOf3 rfl rfl hS (fun _ => ⟨by omega, by omega⟩)) ?_
            refine lw_v rfl rfl (ok_ldx rfl (.n rfl) rfl Try.isAgg3 hS (fun _ => ⟨by omega, by omega⟩) (by rfl)) ?_
            refine lw_v rfl rfl (ok_assign rfl (.n rfl) rfl) ?_
            refine lw_v rfl rfl (ok_assign rfl (.n rfl) rfl) ?_
            refine lw_nil ?_
            refine Ends.keep [(7, .eq _), (8, .eq _), (9, .eq _), (13, .eq _), (18, .eq _), (19, .eq _), (33, .eq _), (34, .eq _), (35, .eq _), (120, .eq _), (121, .eq _), (122, .eq _)] (.cons rfl (.cons rfl (.cons rfl (.cons rfl (.cons rfl (.cons rfl (.cons rfl (.cons rfl (.cons rfl (.cons rfl (.cons rfl (.cons rfl .nil)))))))))))) ?_
            refine ends_then ?_
            refine cw_seq ?_
            -- region 30
            refine cw_region ?_
            refine lw_v rfl rfl (ok_move rfl (.n rfl) rfl) ?_
            refine lw_v rfl rfl (ok_lss rfl (.n rfl) rfl rfl) ?_
            refine lw_v rfl rfl (ok_move rfl (.n rfl) rfl) ?_
            refine lw_v rfl rfl (ok_move rfl (.s rfl rfl) rfl) ?_
            refine lw_v rfl rfl (ok_fb rfl (.s rfl rfl) Try.underlying29 rfl Try.sizeOf3 (by decide) rfl) ?_
            refine lw_v rfl rfl (ok_ldb rfl (.s rfl rfl) rfl Try.isAgg3 hS (by rfl)) ?_
            refine lw_v rfl rfl (ok_gtr rfl (.s rfl rfl) rfl rfl) ?_
            refine lw_v rfl rfl (ok_or rfl rfl rfl rfl) ?_
            refine lw_v rfl rfl (ok_move rfl (.n rfl) rfl) ?_
            refine lw_v rfl rfl (ok_move rfl (.s rfl rfl) rfl) ?_
            refine lw_v rfl rfl (ok_eql rfl (.s rfl rfl) rfl rfl) ?_
            refine lw_v rfl rfl (ok_move rfl (.s rfl rfl) rfl) ?_
            refine lw_v rfl rfl (ok_move rfl (.s rfl rfl) rfl) ?_
            refine lw_v rfl rfl (ok_eql rfl (.s rfl rfl) rfl rfl) ?_
            refine lw_v rfl rfl (ok_neb rfl (.s rfl rfl) Try.underlying4 rfl rfl) ?_
            refine lw_v rfl rfl (ok_or rfl rfl rfl rfl) ?_
            refine lw_v rfl rfl (ok_move rfl (.n rfl) rfl) ?_
            refine lw_v rfl rfl (ok_move rfl (.s rfl rfl) rfl) ?_
            refine lw_v rfl rfl (ok_gtr rfl (.s rfl rfl) rfl rfl) ?_
            refine lw_v rfl rfl (ok_move rfl (.s rfl rfl) rfl) ?_
            refine lw_v rfl rfl (ok_move rfl (.s rfl rfl) rfl) ?_
            refine lw_v rfl rfl (ok_fb rfl (.s rfl rfl) Try.underlying29 rfl Try.sizeOf3 (by decide) rfl) ?_
            refine lw_v rfl rfl (ok_ldb rfl (.s rfl rfl) rfl Try.isAgg3 hS (by rfl)) ?_
            refine lw_v rfl rfl (ok_lss rfl (.s rfl rfl) rfl rfl) ?_
            refine lw_v rfl rfl (ok_andg rfl (.s rfl rfl) rfl rfl) ?_
            refine lw_v rfl rfl (ok_move rfl (.s rfl rfl) rfl) ?_
            refine lw_v rfl rfl (ok_move rfl (.s rfl rfl) rfl) ?_
            refine lw_v rfl rfl (ok_move rfl (.s rfl rfl) rfl) ?_
            refine lw_v rfl rfl (ok_ix rfl (.s rfl rfl) Try.underlying27 Try.sizeOf4 rfl rfl hS (fun _ => ⟨by omega, by omega⟩)) ?_
            refine lw_v rfl rfl (ok_ldx rfl (.s rfl rfl) rfl Try.isAgg4 hS (fun _ => ⟨by omega, by omega⟩) (by rfl)) ?_
            refine lw_v rfl rfl (ok_not rfl (.s rfl rfl) rfl) ?_
            refine lw_v rfl rfl (ok_andg rfl (.s rfl rfl) rfl rfl) ?_
            refine lw_v rfl rfl (ok_or rfl rfl rfl rfl) ?_
            refine lw_nil ?_
            refine Ends.keep [(7, .eq _), (8, .eq _), (9, .eq _), (13, .eq _), (33, .eq _), (34, .eq _), (35, .eq _), (120, .eq _), (121, .eq _), (122, .eq _), (159, .eq _)] (.cons rfl (.cons rfl (.cons rfl (.cons rfl (.cons rfl (.cons rfl (.cons rfl (.cons rfl (.cons rfl (.cons rfl (.cons rfl .nil))))))))))) ?_
            refine ends_then ?_
            refine cw_cond rfl (fun h159 => ?_) (fun h159 => ?_)
            ·
              exact (steps_bad hDv (hL.zero huN hvN) (fun h0 h1 => near_end hL hNi hvN h0 h1) h159).elim
            ·
              refine cw_skip ?_
              refine in_normal (?_)
              refine ends_then ?_
              -- region 32
              refine cw_region ?_
              refine lw_v rfl rfl (ok_addi rfl (.n rfl) rfl rfl (fun _ => ⟨by omega, by omega⟩)) ?_
              refine lw_v rfl rfl (ok_move rfl (.n rfl) rfl) ?_
              refine lw_nil ?_
              -- BACK
              refine ends_back (v + 1) (.cons rfl (.cons rfl (.cons rfl (.cons rfl (.cons rfl (.cons rfl (.cons rfl (.cons rfl (.cons rfl (.cons rfl .nil)))))))))) ⟨by omega, hS⟩ (by omega)
          ·
            refine cw_exit ?_
            refine then_exit (then_exit (in_exit (?_)))
            refine in_normal (?_)
            refine Ends.keep [(7, .eq _), (8, .eq _), (9, .eq _), (33, .eq _), (34, .eq _), (35, .eq _)] (.cons rfl (.cons rfl (.cons rfl (.cons rfl (.cons rfl (.cons rfl .nil)))))) ?_
            refine ends_then ?_
            -- region 33
            refine cw_region ?_
            refine lw_v rfl rfl (ok_addi rfl (.n rfl) rfl rfl (fun _ => ⟨by omega, by omega⟩)) ?_
            refine lw_v rfl rfl (ok_move rfl (.n rfl) rfl) ?_
            refine lw_nil ?_
            -- BACK
            refine ends_back (j + 1) (.cons rfl (.cons rfl (.cons rfl (.cons rfl (.cons rfl (.cons rfl .nil)))))) ⟨by omega, hS.tail.tail⟩ (by omega)
  ·
    refine cw_exit ?_
    refine then_exit (then_exit (in_exit (?_)))
    refine Ends.keep [] .nil ?_
    refine ends_then ?_
    refine cw_seq ?_
    -- region 34
    refine cw_region ?_
    refine lw_call (f := 43) (xs := []) rfl rfl rfl Try.call43 rfl (Calls.mono (f43 _) ?_)
    rintro e w' ⟨rfl, hg⟩
    replace hS := hS.grow hg; clear hg
    refine ⟨_, rfl, ?_⟩
    refine lw_v rfl rfl (ok_assign rfl (.n rfl) rfl) ?_
    refine lw_nil ?_
    refine Ends.keep [(6, .eq _)] (.cons rfl .nil) ?_
    refine ends_then ?_
    refine cw_ret ?_
    exact end_ret (res1 Try.results15 rfl) ⟨rfl, hS.below⟩

end Go.Proofs.Ytnpgeohkmdcbkaa.Aq
