/- The walk of the law DistMore. -/
import Derived.Test.YtnpgeohkmdcbkaaLawD
namespace Go.Proofs.Ytnpgeohkmdcbkaa.Aq
open Go Go.RowKit

set_option maxHeartbeats 2000000 in
set_option maxRecDepth 10000 in
/-- acequialaw05.DistMore. -/
theorem f7 (n : Nt) (A : Option Addr) (c : Nat) (l : List Int) (A1 : Option Addr) (c1 : Nat) (at0 : Int) (op : List Bool) (A3 : Option Addr) (c3 : Nat) (w : World) (ha : (sl eArc 3 A n.arcs.length c n.arcs).p w) (hrgn : (-9223372036854775808 ≤ n.N ∧ n.N ≤ 9223372036854775807) ∧ (-9223372036854775808 ≤ n.S ∧ n.S ≤ 9223372036854775807) ∧ (-9223372036854775808 ≤ n.T ∧ n.T ≤ 9223372036854775807) ∧ ∀ a ∈ n.arcs, -9223372036854775808 ≤ a.1 ∧ a.1 ≤ 9223372036854775807 ∧ -9223372036854775808 ≤ a.2.1 ∧ a.2.1 ≤ 9223372036854775807 ∧ -9223372036854775808 ≤ a.2.2 ∧ a.2.2 ≤ 9223372036854775807) (hl : (sl (eInt .i64) 1 A1 l.length c1 l).p w) (hrgl : ∀ x ∈ l, -9223372036854775808 ≤ x ∧ x ≤ 9223372036854775807) (hat0 : 0 ≤ at0 ∧ at0 ≤ 255) (hop : (sl eBool 1 A3 op.length c3 op).p w) :
    Calls Try.prog 7 #[netV n A c, .slice A1 l.length c1, .int .u8 at0, .slice A3 op.length c3] w fun e w' => e = .returned (.bool true) ∧ Gr w w' := by
  refine calls_cw Try.func7 rfl Try.ntmps7 rfl ?_
  have hS := (((St.start w).args (Nat.le_refl _) _ ha rfl).args (Nat.le_refl _) _ hl rfl).args (Nat.le_refl _) _ hop rfl
  have hopl := hop.2.1
  refine cw_seq ?_
  -- region 0
  refine cw_region ?_
  refine lw_box rfl rfl rfl rfl hS ?_
  clear hS; intro b4 w1 _ _ hS
  refine lw_v rfl rfl (ok_assign rfl (.n rfl) rfl) ?_
  refine lw_nil ?_
  refine Ends.keep [(1, .eq _), (2, .eq _), (3, .eq _), (4, .eq _)] (.cons rfl (.cons rfl (.cons rfl (.cons rfl .nil)))) ?_
  refine ends_then ?_
  refine cw_seq ?_
  -- region 1
  refine cw_region ?_
  refine lw_v rfl rfl (ok_ldS rfl (.n rfl) rfl Try.isAgg24 Try.sizeOf24 hS rfl) ?_
  refine lw_call (f := 24) (xs := [_, _, _]) rfl rfl rfl Try.call24 rfl (Calls.mono (f24a n A c _ (hS.rd A (by have := ha.2.1; omega)) hrgn) ?_)
  rintro e w' ⟨n1, AS, cS, hok, rfl, hg, hfr, ho⟩
  replace hS := hS.new hg _ ho hfr; clear hg ho hfr
  refine ⟨_, rfl, ?_⟩
  refine lw_v rfl rfl (ok_move rfl (.n rfl) rfl) ?_
  refine lw_call (f := 23) (xs := [_, _]) rfl rfl rfl Try.call23 rfl (Calls.mono (f23a n1 AS cS l A1 c1 _ hok (hS.rd AS (by have := hok.len; omega)) (hS.rd A1 hl.2.1) hl.2.1 hrgl) ?_)
  rintro e w' ⟨C, R, q, A6, c6, ⟨hwf, hro⟩, rfl, hg, hnew, hat, hfr, hap, ho⟩
  replace hS := hS.left hg hat hnew ho hfr hap; clear hg hnew hat hfr hap ho
  replace hS := hS.sub (.cons_cons _ (.cons_cons _ (.cons_cons _ (.cons_cons _ (.cons_cons _ (.cons_cons _ (.cons_cons _ (.cons _ (.cons _ (List.Sublist.refl _))))))))))
  have hM := hwf.m
  have hrlen := hro.len
  have hN := hwf.hi
  have hlo := hwf.lo
  obtain ⟨u, huv, huN⟩ := modN at0 hat0.1 C.N (by omega)
  refine ⟨_, rfl, ?_⟩
  refine lw_v rfl rfl (ok_move rfl (.n rfl) rfl) ?_
  refine lw_v rfl rfl (ok_extract rfl (.n rfl) rfl rfl) ?_
  refine lw_v rfl rfl (ok_extract rfl (.n rfl) rfl rfl) ?_
  refine lw_alloc rfl rfl rfl Try.zeroValue29 hS ?_
  clear hS; intro b9 w2 _ _ hS
  refine lw_stS rfl rfl rfl rfl rfl (by kernel_rfl) hS rfl (by rfl) (by rfl) ?_
  clear hS; intro w3 hS
  refine lw_v rfl rfl (ok_assign rfl (.n rfl) rfl) ?_
  refine lw_nil ?_
  refine Ends.keep [(2, .eq _), (3, .eq _), (9, .eq _), (10, .eq _)] (.cons rfl (.cons rfl (.cons rfl (.cons rfl .nil)))) ?_
  refine ends_then ?_
  refine cw_seq ?_
  -- region 2
  refine cw_region ?_
  refine lw_v rfl rfl (ok_move rfl (.n rfl) rfl) ?_
  refine lw_v rfl rfl (ok_eq (ok_conv rfl (.n rfl) Try.underlying5 Try.underlying3 rfl) (c' := .int .i64 at0) (fun _ => congrArg (Value.int .i64) (wrap_in ⟨by omega, by omega⟩))) ?_
  refine lw_v rfl rfl (ok_fb rfl (.n rfl) Try.underlying29 rfl Try.sizeOf3 (by decide) rfl) ?_
  refine lw_v rfl rfl (ok_ldb rfl (.n rfl) rfl Try.isAgg3 hS (by rfl)) ?_
  refine lw_v rfl rfl (ok_eq (ok_rem rfl (.n rfl) rfl rfl (fun _ => by omega)) (c' := .int .i64 (u : Int)) (fun _ => congrArg (Value.int .i64) huv)) ?_
  refine lw_v rfl rfl (ok_assign rfl (.n rfl) rfl) ?_
  refine lw_nil ?_
  refine Ends.keep [(3, .eq _), (9, .eq _), (10, .eq _), (11, .eq _)] (.cons rfl (.cons rfl (.cons rfl (.cons rfl .nil)))) ?_
  refine ends_then ?_
  refine cw_seq ?_
  -- region 3
  refine cw_region ?_
  refine lw_ls0 (enc := (eInt .i64)) rfl rfl rfl Try.underlying25 Try.sizeOf2 hS ?_
  clear hS; intro A33 c33 w4 _ hS
  refine lw_v rfl rfl (ok_move rfl (.n rfl) rfl) ?_
  refine lw_append0 (enc := (eInt .i64)) rfl rfl rfl Try.underlying25 info2 rfl rfl rfl hS (by omega) (by omega) ?_
  intro A35 c35 wq hS1; replace hS := hS1 _ (Rep.r); clear hS1
  rw [List.nil_append] at hS ⊢
  refine lw_ls0 (enc := (eInt .i64)) rfl rfl rfl Try.underlying25 Try.sizeOf2 hS ?_
  clear hS; intro A36 c36 w5 _ hS
  refine lw_v rfl rfl (ok_move rfl (.n rfl) rfl) ?_
  refine lw_append0 (enc := (eInt .i64)) rfl rfl rfl Try.underlying25 info2 rfl rfl rfl hS (by omega) (by omega) ?_
  intro A38 c38 wq hS1; replace hS := hS1 _ (Rep.r); clear hS1
  rw [List.nil_append] at hS ⊢
  refine lw_v rfl rfl (ok_assign rfl (.n rfl) rfl) ?_
  refine lw_v rfl rfl (ok_assign rfl (.n rfl) rfl) ?_
  refine lw_nil ?_
  refine Ends.keep [(3, .eq _), (9, .eq _), (10, .eq _), (11, .eq _), (12, .eq _), (13, .eq _)] (.cons rfl (.cons rfl (.cons rfl (.cons rfl (.cons rfl (.cons rfl .nil)))))) ?_
  refine ends_then ?_
  refine cw_seq ?_
  refine cw_seq ?_
  -- region 4
  refine cw_region ?_
  refine lw_v rfl rfl (ok_move rfl (.n rfl) rfl) ?_
  refine lw_v rfl rfl (ok_len rfl (.n rfl) Try.underlying25 rfl) ?_
  refine lw_v rfl rfl (ok_move rfl (.n rfl) rfl) ?_
  refine lw_nil ?_
  refine Ends.keep [(3, .eq _), (9, .eq _), (10, .eq _), (11, .eq _), (12, .eq _), (13, .eq _), (40, .eq _), (41, .eq _)] (.cons rfl (.cons rfl (.cons rfl (.cons rfl (.cons rfl (.cons rfl (.cons rfl (.cons rfl .nil)))))))) ?_
  refine ends_then ?_
  refine cw_block ?_
  -- LOOP at region 5: changed live slots [41], kept [3, 9, 10, 11, 12, 13, 40]
  refine cw_loop [(3, .eq _), (9, .eq _), (10, .eq _), (11, .eq _), (12, .eq _), (13, .eq _), (40, .eq _)] (fun k : Nat => [(41, .eq (.int .i64 k))]) (fun k w' => ∃ X Y, (k ≤ R.length ∧ XI R X k ∧ YI R Y k) ∧ St w.heap.size w w' [own (eInt .i64) 1 2 A38 R.length c38 Y, own (eInt .i64) 1 2 A35 R.length c35 X, bx b9 (csV C q).cells.toList 29, own (eInt .i64) 1 2 A6 R.length c6 R, sl (eInt .i64) 1 q.a0 C.First.length q.c0 C.First, sl (eInt .i64) 1 q.a1 C.Head.length q.c1 C.Head, sl (eInt .i64) 1 q.a2 C.Rev.length q.c2 C.Rev, sl (eInt .i64) 1 q.a3 C.Cap.length q.c3 C.Cap, sl (eInt .i64) 1 q.a4 C.Arc.length q.c4 C.Arc, sl eBool 1 q.a5 C.Back.length q.c5 C.Back, sl eBool 1 A3 op.length c3 op, sl (eInt .i64) 1 A1 l.length c1 l, sl eArc 3 A n.arcs.length c n.arcs]) (fun k => R.length - k) 0 (.cons rfl (.cons rfl (.cons rfl (.cons rfl (.cons rfl (.cons rfl (.cons rfl .nil))))))) (.cons rfl (.cons rfl (.cons rfl (.cons rfl (.cons rfl (.cons rfl (.cons rfl (.cons rfl .nil)))))))) ⟨R, R, ⟨Nat.zero_le _, XI.start R, YI.start R⟩, hS⟩ ?_
  clear hS
  rintro k wr ⟨X, Y, ⟨hk, hX, hY⟩, hS⟩
  refine cw_seq ?_
  -- region 5
  refine cw_region ?_
  refine lw_v rfl rfl (ok_lss rfl (.n rfl) rfl rfl) ?_
  refine lw_nil ?_
  refine Ends.keep [(3, .eq _), (9, .eq _), (10, .eq _), (11, .eq _), (12, .eq _), (13, .eq _), (40, .eq _), (41, .eq _), (42, .eq _)] (.cons rfl (.cons rfl (.cons rfl (.cons rfl (.cons rfl (.cons rfl (.cons rfl (.cons rfl (.cons rfl .nil))))))))) ?_
  refine ends_then ?_
  refine cw_seq ?_
  refine cw_cond rfl (fun h42 => ?_) (fun h42 => ?_)
  ·
    have hkR : k < R.length := by have := of_decide_eq_true h42; omega
    have hXl := hX.len
    have hYl := hY.len
    have hXk : R.getD (k : Int).toNat 0 ≤ X.getD (k : Int).toNat 0 ∧ X.getD (k : Int).toNat 0 ≤ R.getD (k : Int).toNat 0 + 1 := hX.rng k
    have hYk : Y.getD (k : Int).toNat 0 = R.getD (k : Int).toNat 0 := hY.rest k (Nat.le_refl _)
    have hRk : 0 ≤ R.getD (k : Int).toNat 0 ∧ R.getD (k : Int).toNat 0 ≤ 2251799813685246 := hro.rng k (by omega)
    have hm7 := mod7 k
    refine cw_skip ?_
    refine ends_then ?_
    refine cw_seq ?_
    refine cw_block ?_
    refine cw_seq ?_
    -- region 6
    refine cw_region ?_
    refine lw_v rfl rfl (ok_move rfl (.n rfl) rfl) ?_
    refine lw_v rfl rfl (ok_assign rfl (.n rfl) rfl) ?_
    refine lw_nil ?_
    refine Ends.keep [(3, .eq _), (9, .eq _), (10, .eq _), (11, .eq _), (12, .eq _), (13, .eq _), (14, .eq _), (40, .eq _), (41, .eq _)] (.cons rfl (.cons rfl (.cons rfl (.cons rfl (.cons rfl (.cons rfl (.cons rfl (.cons rfl (.cons rfl .nil))))))))) ?_
    refine ends_then ?_
    refine cw_seq ?_
    refine cw_seq ?_
    -- region 7
    refine cw_region ?_
    refine lw_v rfl rfl (ok_move rfl (.n rfl) rfl) ?_
    refine lw_v rfl rfl (ok_move rfl (.n rfl) rfl) ?_
    refine lw_v rfl rfl (ok_len rfl (.n rfl) Try.underlying27 rfl) ?_
    refine lw_v rfl rfl (ok_lss rfl (.n rfl) rfl rfl) ?_
    refine lw_v rfl rfl (ok_move rfl (.n rfl) rfl) ?_
    refine lw_v rfl rfl (ok_move rfl (.s rfl rfl) rfl) ?_
    refine lw_v rfl rfl (ok_move rfl (.s rfl rfl) rfl) ?_
    refine lw_v rfl rfl (ok_ix rfl (.s rfl rfl) Try.underlying27 Try.sizeOf4 rfl rfl hS (fun hg => ⟨by omega, by have h9 : decide ((k : Int) < op.length) = true := hg; have := of_decide_eq_true h9; omega⟩)) ?_
    refine lw_v rfl rfl (ok_ldx rfl (.s rfl rfl) rfl Try.isAgg4 hS (fun hg => ⟨by omega, by have h9 : decide ((k : Int) < op.length) = true := hg; have := of_decide_eq_true h9; omega⟩) (by rfl)) ?_
    refine lw_v rfl rfl (ok_and rfl rfl rfl rfl) ?_
    refine lw_nil ?_
    refine Ends.keep [(3, .eq _), (9, .eq _), (10, .eq _), (11, .eq _), (12, .eq _), (13, .eq _), (14, .eq _), (40, .eq _), (41, .eq _), (53, .eq _)] (.cons rfl (.cons rfl (.cons rfl (.cons rfl (.cons rfl (.cons rfl (.cons rfl (.cons rfl (.cons rfl (.cons rfl .nil)))))))))) ?_
    refine ends_then ?_
    refine cw_cond rfl (fun h53 => ?_) (fun h53 => ?_)
    ·
      -- region 8
      refine cw_region ?_
      refine lw_v rfl rfl (ok_move rfl (.n rfl) rfl) ?_
      refine lw_v rfl rfl (ok_move rfl (.n rfl) rfl) ?_
      refine lw_v rfl rfl (ok_ix rfl (.n rfl) Try.underlying25 Try.sizeOf2 rfl rfl hS (fun _ => ⟨by omega, by omega⟩)) ?_
      refine lw_v rfl rfl (ok_ldx rfl (.n rfl) rfl Try.isAgg2 hS (fun _ => ⟨by omega, by omega⟩) (by rfl)) ?_
      refine lw_v rfl rfl (ok_addi rfl (.n rfl) rfl rfl (fun _ => ⟨by omega, by omega⟩)) ?_
      refine lw_v rfl rfl (ok_ix rfl (.n rfl) Try.underlying25 Try.sizeOf2 rfl rfl hS (fun _ => ⟨by omega, by omega⟩)) ?_
      refine lw_stx (enc := (eInt .i64)) (_) rfl rfl rfl rfl rfl rfl Try.sizeOf2 hS (⟨by omega, by omega⟩) ?_
      clear hS; intro w6 hS
      refine lw_nil ?_
      refine Ends.keep [(3, .eq _), (9, .eq _), (10, .eq _), (11, .eq _), (12, .eq _), (13, .eq _), (14, .eq _), (40, .eq _), (41, .eq _)] (.cons rfl (.cons rfl (.cons rfl (.cons rfl (.cons rfl (.cons rfl (.cons rfl (.cons rfl (.cons rfl .nil))))))))) ?_
      refine ends_then ?_
      refine cw_seq ?_
      -- region 9
      refine cw_region ?_
      refine lw_v rfl rfl (ok_move rfl (.n rfl) rfl) ?_
      refine lw_v rfl rfl (ok_move rfl (.n rfl) rfl) ?_
      refine lw_v rfl rfl (ok_ix rfl (.n rfl) Try.underlying25 Try.sizeOf2 rfl rfl hS (fun _ => ⟨by omega, by omega⟩)) ?_
      refine lw_v rfl rfl (ok_ldx rfl (.n rfl) rfl Try.isAgg2 hS (fun _ => ⟨by omega, by omega⟩) (by rfl)) ?_
      refine lw_v rfl rfl (ok_gtr rfl (.n rfl) rfl rfl) ?_
      refine lw_nil ?_
      refine Ends.keep [(3, .eq _), (9, .eq _), (10, .eq _), (11, .eq _), (12, .eq _), (13, .eq _), (14, .eq _), (40, .eq _), (41, .eq _), (64, .eq _)] (.cons rfl (.cons rfl (.cons rfl (.cons rfl (.cons rfl (.cons rfl (.cons rfl (.cons rfl (.cons rfl (.cons rfl .nil)))))))))) ?_
      refine ends_then ?_
      refine cw_cond rfl (fun h64 => ?_) (fun h64 => ?_)
      ·
        have hpos : 0 < Y.getD k 0 := of_decide_eq_true h64
        -- region 10
        refine cw_region ?_
        refine lw_v rfl rfl (ok_move rfl (.n rfl) rfl) ?_
        refine lw_v rfl rfl (ok_move rfl (.n rfl) rfl) ?_
        refine lw_v rfl rfl (ok_ix rfl (.n rfl) Try.underlying25 Try.sizeOf2 rfl rfl hS (fun _ => ⟨by omega, by omega⟩)) ?_
        refine lw_v rfl rfl (ok_ldx rfl (.n rfl) rfl Try.isAgg2 hS (fun _ => ⟨by omega, by omega⟩) (by rfl)) ?_
        refine lw_v rfl rfl (ok_move rfl (.n rfl) rfl) ?_
        refine lw_v rfl rfl (ok_rem rfl (.n rfl) rfl rfl (fun _ => by omega)) ?_
        refine lw_v rfl rfl (ok_addi rfl (.n rfl) rfl rfl (fun _ => ⟨by omega, by omega⟩)) ?_
        refine lw_v rfl rfl (ok_ix rfl (.n rfl) Try.underlying25 Try.sizeOf2 rfl rfl hS (fun _ => ⟨by omega, by omega⟩)) ?_
        refine lw_stx (enc := (eInt .i64)) (_) rfl rfl rfl rfl rfl rfl Try.sizeOf2 hS (⟨by omega, by omega⟩) ?_
        clear hS; intro w7 hS
        refine lw_nil ?_
        refine in_normal (?_)
        refine Ends.keep [(3, .eq _), (9, .eq _), (10, .eq _), (11, .eq _), (12, .eq _), (13, .eq _), (40, .eq _), (41, .eq _)] (.cons rfl (.cons rfl (.cons rfl (.cons rfl (.cons rfl (.cons rfl (.cons rfl (.cons rfl .nil)))))))) ?_
        refine ends_then ?_
        -- region 11
        refine cw_region ?_
        refine lw_v rfl rfl (ok_addi rfl (.n rfl) rfl rfl (fun _ => ⟨by omega, by omega⟩)) ?_
        refine lw_v rfl rfl (ok_move rfl (.n rfl) rfl) ?_
        refine lw_nil ?_
        -- BACK
        refine ends_back (k + 1) (.cons rfl (.cons rfl (.cons rfl (.cons rfl (.cons rfl (.cons rfl (.cons rfl (.cons rfl .nil)))))))) ⟨_, _, ⟨by omega, hX.inc hkR, hY.inc hkR hpos hm7.1 (by omega)⟩, hS⟩ (by omega)
      ·
        refine cw_skip ?_
        refine in_normal (?_)
        refine ends_then ?_
        -- region 11
        refine cw_region ?_
        refine lw_v rfl rfl (ok_addi rfl (.n rfl) rfl rfl (fun _ => ⟨by omega, by omega⟩)) ?_
        refine lw_v rfl rfl (ok_move rfl (.n rfl) rfl) ?_
        refine lw_nil ?_
        -- BACK
        refine ends_back (k + 1) (.cons rfl (.cons rfl (.cons rfl (.cons rfl (.cons rfl (.cons rfl (.cons rfl (.cons rfl .nil)))))))) ⟨_, _, ⟨by omega, hX.inc hkR, hY.skip⟩, hS⟩ (by omega)
    ·
      refine cw_skip ?_
      refine ends_then ?_
      refine cw_seq ?_
      -- region 9
      refine cw_region ?_
      refine lw_v rfl rfl (ok_move rfl (.n rfl) rfl) ?_
      refine lw_v rfl rfl (ok_move rfl (.n rfl) rfl) ?_
      refine lw_v rfl rfl (ok_ix rfl (.n rfl) Try.underlying25 Try.sizeOf2 rfl rfl hS (fun _ => ⟨by omega, by omega⟩)) ?_
      refine lw_v rfl rfl (ok_ldx rfl (.n rfl) rfl Try.isAgg2 hS (fun _ => ⟨by omega, by omega⟩) (by rfl)) ?_
      refine lw_v rfl rfl (ok_gtr rfl (.n rfl) rfl rfl) ?_
      refine lw_nil ?_
      refine Ends.keep [(3, .eq _), (9, .eq _), (10, .eq _), (11, .eq _), (12, .eq _), (13, .eq _), (14, .eq _), (40, .eq _), (41, .eq _), (64, .eq _)] (.cons rfl (.cons rfl (.cons rfl (.cons rfl (.cons rfl (.cons rfl (.cons rfl (.cons rfl (.cons rfl (.cons rfl .nil)))))))))) ?_
      refine ends_then ?_
      refine cw_cond rfl (fun h64 => ?_) (fun h64 => ?_)
      ·
        have hpos : 0 < Y.getD k 0 := of_decide_eq_true h64
        -- region 10
        refine cw_region ?_
        refine lw_v rfl rfl (ok_move rfl (.n rfl) rfl) ?_
        refine lw_v rfl rfl (ok_move rfl (.n rfl) rfl) ?_
        refine lw_v rfl rfl (ok_ix rfl (.n rfl) Try.underlying25 Try.sizeOf2 rfl rfl hS (fun _ => ⟨by omega, by omega⟩)) ?_
        refine lw_v rfl rfl (ok_ldx rfl (.n rfl) rfl Try.isAgg2 hS (fun _ => ⟨by omega, by omega⟩) (by rfl)) ?_
        refine lw_v rfl rfl (ok_move rfl (.n rfl) rfl) ?_
        refine lw_v rfl rfl (ok_rem rfl (.n rfl) rfl rfl (fun _ => by omega)) ?_
        refine lw_v rfl rfl (ok_addi rfl (.n rfl) rfl rfl (fun _ => ⟨by omega, by omega⟩)) ?_
        refine lw_v rfl rfl (ok_ix rfl (.n rfl) Try.underlying25 Try.sizeOf2 rfl rfl hS (fun _ => ⟨by omega, by omega⟩)) ?_
        refine lw_stx (enc := (eInt .i64)) (_) rfl rfl rfl rfl rfl rfl Try.sizeOf2 hS (⟨by omega, by omega⟩) ?_
        clear hS; intro w8 hS
        refine lw_nil ?_
        refine in_normal (?_)
        refine Ends.keep [(3, .eq _), (9, .eq _), (10, .eq _), (11, .eq _), (12, .eq _), (13, .eq _), (40, .eq _), (41, .eq _)] (.cons rfl (.cons rfl (.cons rfl (.cons rfl (.cons rfl (.cons rfl (.cons rfl (.cons rfl .nil)))))))) ?_
        refine ends_then ?_
        -- region 11
        refine cw_region ?_
        refine lw_v rfl rfl (ok_addi rfl (.n rfl) rfl rfl (fun _ => ⟨by omega, by omega⟩)) ?_
        refine lw_v rfl rfl (ok_move rfl (.n rfl) rfl) ?_
        refine lw_nil ?_
        -- BACK
        refine ends_back (k + 1) (.cons rfl (.cons rfl (.cons rfl (.cons rfl (.cons rfl (.cons rfl (.cons rfl (.cons rfl .nil)))))))) ⟨_, _, ⟨by omega, hX.skip, hY.inc hkR hpos hm7.1 (by omega)⟩, hS⟩ (by omega)
      ·
        refine cw_skip ?_
        refine in_normal (?_)
        refine ends_then ?_
        -- region 11
        refine cw_region ?_
        refine lw_v rfl rfl (ok_addi rfl (.n rfl) rfl rfl (fun _ => ⟨by omega, by omega⟩)) ?_
        refine lw_v rfl rfl (ok_move rfl (.n rfl) rfl) ?_
        refine lw_nil ?_
        -- BACK
        refine ends_back (k + 1) (.cons rfl (.cons rfl (.cons rfl (.cons rfl (.cons rfl (.cons rfl (.cons rfl (.cons rfl .nil)))))))) ⟨_, _, ⟨by omega, hX.skip, hY.skip⟩, hS⟩ (by omega)
  ·
    have hXl := hX.len
    have hYl := hY.len
    have hl1 := toL_len hrlen huN
    have hl2 := toL_len (res := X) (by omega) huN
    have hl3 := toL_len (res := Y) (by omega) huN
    have hl4 := fromL_len hrlen huN
    have hl5 := fromL_len (res := X) (by omega) huN
    have hmo : ∀ a, a < C.Head.length → 0 < R.getD a 0 → 0 < X.getD a 0 := fun a _ h => by have := hX.rng a; omega
    have hle := to_more hrlen (by omega : X.length = C.Head.length) hmo huN
    have hle2 := from_more hrlen (by omega : X.length = C.Head.length) hmo huN
    have heq := to_same hrlen (by omega : Y.length = C.Head.length) (fun a _ => (hY.rng a).1) huN
    refine cw_exit ?_
    refine then_exit (then_exit (in_exit (?_)))
    refine Ends.keep [(9, .eq _), (10, .eq _), (11, .eq _), (12, .eq _), (13, .eq _)] (.cons rfl (.cons rfl (.cons rfl (.cons rfl (.cons rfl .nil))))) ?_
    refine ends_then ?_
    refine cw_seq ?_
    -- region 12
    refine cw_draw (by kernel_rfl) (List.take 11 _) (List.drop 11 _) (List.take_append_drop 11 _).symm (by kernel_rfl) ?_
    refine free_v (ok_ldS rfl (.n rfl) rfl Try.isAgg29 Try.sizeOf29 hS rfl) ?_
    refine free_v (ok_move rfl (.n rfl) rfl) ?_
    refine free_v (ok_move rfl (.n rfl) rfl) ?_
    refine free_cons (ok_callL rfl rfl Try.call41 rfl (fun w' hg => f41 C q R u A6 c6 w' hwf ((hS.grow hg).cs q) ((hS.grow hg).rd A6 (by omega)))) ?_
    refine free_v (ok_ldS rfl (.n rfl) rfl Try.isAgg29 Try.sizeOf29 hS rfl) ?_
    refine free_v (ok_move rfl (.n rfl) rfl) ?_
    refine free_v (ok_move rfl (.n rfl) rfl) ?_
    refine free_cons (ok_callL rfl rfl Try.call41 rfl (fun w' hg => f41 C q X u A35 c35 w' hwf ((hS.grow hg).cs q) ((hS.grow hg).rd A35 (by omega)))) ?_
    refine free_v (ok_ldS rfl (.n rfl) rfl Try.isAgg29 Try.sizeOf29 hS rfl) ?_
    refine free_v (ok_move rfl (.n rfl) rfl) ?_
    refine free_v (ok_move rfl (.n rfl) rfl) ?_
    refine free_nil ?_
    intro wz hg_
    refine LW.opened (s := 77) rfl ?_
    rintro _ ⟨A77, c77, rfl, ho77, hf77⟩
    refine LW.opened (s := 81) rfl ?_
    rintro _ ⟨A81, c81, rfl, ho81, hf81⟩
    replace hS := hS.two' hg_ ho77 hf77 (by omega) ho81 hf81 (by omega); clear hg_ ho77 hf77 ho81 hf81
    refine lw_call (f := 41) (xs := [_, _, _]) rfl rfl rfl Try.call41 rfl (Calls.mono (f41 C q Y u A38 c38 _ hwf (hS.cs q) (hS.rd A38 (by omega))) ?_)
    rintro e w' ⟨A85, c85, rfl, hg, hfr, ho⟩
    replace hS := hS.new hg _ ho hfr; clear hg ho hfr
    replace hS := hS.freeze .here (by omega)
    refine ⟨_, rfl, ?_⟩
    refine lw_v rfl rfl (ok_assign rfl (.n rfl) rfl) ?_
    refine lw_v rfl rfl (ok_assign rfl (.n rfl) rfl) ?_
    refine lw_v rfl rfl (ok_assign rfl (.n rfl) rfl) ?_
    refine lw_nil ?_
    refine Ends.keep [(9, .eq _), (10, .eq _), (11, .eq _), (12, .eq _), (15, .eq _), (16, .eq _), (17, .eq _)] (.cons rfl (.cons rfl (.cons rfl (.cons rfl (.cons rfl (.cons rfl (.cons rfl .nil))))))) ?_
    refine ends_then ?_
    refine cw_seq ?_
    -- region 13
    refine cw_draw (by kernel_rfl) (List.take 7 _) (List.drop 7 _) (List.take_append_drop 7 _).symm (by kernel_rfl) ?_
    refine free_v (ok_ldS rfl (.n rfl) rfl Try.isAgg29 Try.sizeOf29 hS rfl) ?_
    refine free_v (ok_move rfl (.n rfl) rfl) ?_
    refine free_v (ok_move rfl (.n rfl) rfl) ?_
    refine free_cons (ok_callL rfl rfl Try.call42 rfl (fun w' hg => f42 C q R u A6 c6 w' hwf ((hS.grow hg).cs q) ((hS.grow hg).rd A6 (by omega)))) ?_
    refine free_v (ok_ldS rfl (.n rfl) rfl Try.isAgg29 Try.sizeOf29 hS rfl) ?_
    refine free_v (ok_move rfl (.n rfl) rfl) ?_
    refine free_v (ok_move rfl (.n rfl) rfl) ?_
    refine free_nil ?_
    intro wz hg_
    refine LW.opened (s := 89) rfl ?_
    rintro _ ⟨A89, c89, rfl, ho89, hf89⟩
    replace hS := hS.one' hg_ ho89 hf89 (by omega); clear hg_ ho89 hf89
    refine lw_call (f := 42) (xs := [_, _, _]) rfl rfl rfl Try.call42 rfl (Calls.mono (f42 C q X u A35 c35 _ hwf (hS.cs q) (hS.rd A35 (by omega))) ?_)
    rintro e w' ⟨A93, c93, rfl, hg, hfr, ho⟩
    replace hS := hS.new hg _ ho hfr; clear hg ho hfr
    replace hS := hS.freeze .here (by omega)
    refine ⟨_, rfl, ?_⟩
    refine lw_v rfl rfl (ok_assign rfl (.n rfl) rfl) ?_
    refine lw_v rfl rfl (ok_assign rfl (.n rfl) rfl) ?_
    refine lw_nil ?_
    refine Ends.keep [(9, .eq _), (15, .eq _), (16, .eq _), (17, .eq _), (18, .eq _), (19, .eq _)] (.cons rfl (.cons rfl (.cons rfl (.cons rfl (.cons rfl (.cons rfl .nil)))))) ?_
    refine ends_then ?_
    refine cw_seq ?_
    refine cw_seq ?_
    -- region 14
    refine cw_region ?_
    refine lw_v rfl rfl (ok_move rfl (.n rfl) rfl) ?_
    refine lw_v rfl rfl (ok_len rfl (.n rfl) Try.underlying26 rfl) ?_
    refine lw_v rfl rfl (ok_fb rfl (.n rfl) Try.underlying29 rfl Try.sizeOf3 (by decide) rfl) ?_
    refine lw_v rfl rfl (ok_ldb rfl (.n rfl) rfl Try.isAgg3 hS (by rfl)) ?_
    refine lw_v rfl rfl (ok_neq rfl (.n rfl) rfl rfl) ?_
    refine lw_v rfl rfl (ok_move rfl (.n rfl) rfl) ?_
    refine lw_v rfl rfl (ok_move rfl (.s rfl rfl) rfl) ?_
    refine lw_v rfl rfl (ok_len rfl (.s rfl rfl) Try.underlying26 rfl) ?_
    refine lw_v rfl rfl (ok_fb rfl (.s rfl rfl) Try.underlying29 rfl Try.sizeOf3 (by decide) rfl) ?_
    refine lw_v rfl rfl (ok_ldb rfl (.s rfl rfl) rfl Try.isAgg3 hS (by rfl)) ?_
    refine lw_v rfl rfl (ok_neq rfl (.s rfl rfl) rfl rfl) ?_
    refine lw_v rfl rfl (ok_or rfl rfl rfl rfl) ?_
    refine lw_v rfl rfl (ok_move rfl (.n rfl) rfl) ?_
    refine lw_v rfl rfl (ok_move rfl (.s rfl rfl) rfl) ?_
    refine lw_v rfl rfl (ok_len rfl (.s rfl rfl) Try.underlying26 rfl) ?_
    refine lw_v rfl rfl (ok_fb rfl (.s rfl rfl) Try.underlying29 rfl Try.sizeOf3 (by decide) rfl) ?_
    refine lw_v rfl rfl (ok_ldb rfl (.s rfl rfl) rfl Try.isAgg3 hS (by rfl)) ?_
    refine lw_v rfl rfl (ok_neq rfl (.s rfl rfl) rfl rfl) ?_
    refine lw_v rfl rfl (ok_or rfl rfl rfl rfl) ?_
    refine lw_v rfl rfl (ok_move rfl (.n rfl) rfl) ?_
    refine lw_v rfl rfl (ok_move rfl (.s rfl rfl) rfl) ?_
    refine lw_v rfl rfl (ok_len rfl (.s rfl rfl) Try.underlying26 rfl) ?_
    refine lw_v rfl rfl (ok_fb rfl (.s rfl rfl) Try.underlying29 rfl Try.sizeOf3 (by decide) rfl) ?_
    refine lw_v rfl rfl (ok_ldb rfl (.s rfl rfl) rfl Try.isAgg3 hS (by rfl)) ?_
    refine lw_v rfl rfl (ok_neq rfl (.s rfl rfl) rfl rfl) ?_
    refine lw_v rfl rfl (ok_or rfl rfl rfl rfl) ?_
    refine lw_v rfl rfl (ok_move rfl (.n rfl) rfl) ?_
    refine lw_v rfl rfl (ok_move rfl (.s rfl rfl) rfl) ?_
    refine lw_v rfl rfl (ok_move rfl (.s rfl rfl) rfl) ?_
    refine lw_o rfl rfl (ok_callg (.bool (decide ((toL C R (u : Int)) = (toL C Y (u : Int))))) rfl (.s rfl rfl) Try.call30 rfl rfl (fun _ w' hg => f30g A77 c77 A85 c85 w' (toL C Y (u : Int)) (toL C R (u : Int)) ((hS.grow hg).rd A77 (by omega)) ((hS.grow hg).rd A85 (by omega)))) ?_
    intro w9 hg_; replace hS := hS.grow hg_; clear hg_
    refine lw_v rfl rfl (ok_not rfl (.s rfl rfl) rfl) ?_
    refine lw_v rfl rfl (ok_or rfl rfl rfl rfl) ?_
    refine lw_nil ?_
    refine Ends.keep [(15, .eq _), (16, .eq _), (18, .eq _), (19, .eq _), (125, .eq _)] (.cons rfl (.cons rfl (.cons rfl (.cons rfl (.cons rfl .nil))))) ?_
    refine ends_then ?_
    refine cw_cond rfl (fun h125 => ?_) (fun h125 => ?_)
    ·
      rw [hl1, hl2, hl4, hl5, ← heq] at h125
      simp at h125
    ·
      refine cw_skip ?_
      refine ends_then ?_
      refine cw_seq ?_
      refine cw_seq ?_
      -- region 16
      refine cw_region ?_
      refine lw_v rfl rfl (ok_move rfl (.n rfl) rfl) ?_
      refine lw_v rfl rfl (ok_len rfl (.n rfl) Try.underlying26 rfl) ?_
      refine lw_v rfl rfl (ok_move rfl (.n rfl) rfl) ?_
      refine lw_nil ?_
      refine Ends.keep [(15, .eq _), (16, .eq _), (18, .eq _), (19, .eq _), (127, .eq _), (128, .eq _)] (.cons rfl (.cons rfl (.cons rfl (.cons rfl (.cons rfl (.cons rfl .nil)))))) ?_
      refine ends_then ?_
      refine cw_block ?_
      -- LOOP at region 17: changed live slots [128], kept [15, 16, 18, 19, 127]
      refine cw_loop [(15, .eq _), (16, .eq _), (18, .eq _), (19, .eq _), (127, .eq _)] (fun v : Nat => [(128, .eq (.int .i64 v))]) (fun v w' => v ≤ C.N ∧ St w.heap.size w w' [sl (eInt .i64) 1 A93 (fromL C X (u : Int)).length c93 (fromL C X (u : Int)), sl (eInt .i64) 1 A89 (fromL C R (u : Int)).length c89 (fromL C R (u : Int)), sl (eInt .i64) 1 A85 (toL C Y (u : Int)).length c85 (toL C Y (u : Int)), sl (eInt .i64) 1 A77 (toL C R (u : Int)).length c77 (toL C R (u : Int)), sl (eInt .i64) 1 A81 (toL C X (u : Int)).length c81 (toL C X (u : Int)), own (eInt .i64) 1 2 A38 R.length c38 Y, own (eInt .i64) 1 2 A35 R.length c35 X, bx b9 (csV C q).cells.toList 29, own (eInt .i64) 1 2 A6 R.length c6 R, sl (eInt .i64) 1 q.a0 C.First.length q.c0 C.First, sl (eInt .i64) 1 q.a1 C.Head.length q.c1 C.Head, sl (eInt .i64) 1 q.a2 C.Rev.length q.c2 C.Rev, sl (eInt .i64) 1 q.a3 C.Cap.length q.c3 C.Cap, sl (eInt .i64) 1 q.a4 C.Arc.length q.c4 C.Arc, sl eBool 1 q.a5 C.Back.length q.c5 C.Back, sl eBool 1 A3 op.length c3 op, sl (eInt .i64) 1 A1 l.length c1 l, sl eArc 3 A n.arcs.length c n.arcs]) (fun v => C.N - v) 0 (.cons rfl (.cons rfl (.cons rfl (.cons rfl (.cons rfl .nil))))) (.cons rfl (.cons rfl (.cons rfl (.cons rfl (.cons rfl (.cons rfl .nil)))))) ⟨Nat.zero_le _, hS⟩ ?_
      clear hS
      rintro v wr ⟨hv, hS⟩
      refine cw_seq ?_
      -- region 17
      refine cw_region ?_
      refine lw_v rfl rfl (ok_lss rfl (.n rfl) rfl rfl) ?_
      refine lw_nil ?_
      refine Ends.keep [(15, .eq _), (16, .eq _), (18, .eq _), (19, .eq _), (127, .eq _), (128, .eq _), (129, .eq _)] (.cons rfl (.cons rfl (.cons rfl (.cons rfl (.cons rfl (.cons rfl (.cons rfl .nil))))))) ?_
      refine ends_then ?_
      refine cw_seq ?_
      refine cw_cond rfl (fun h129 => ?_) (fun h129 => ?_)
      ·
        have hvN : v < C.N := by have := of_decide_eq_true h129; omega
        have hlev : (toL C X (u : Int)).getD (v : Int).toNat 0 ≤ (toL C R (u : Int)).getD (v : Int).toNat 0 := hle v hvN
        have hlev2 : (fromL C X (u : Int)).getD (v : Int).toNat 0 ≤ (fromL C R (u : Int)).getD (v : Int).toNat 0 := hle2 v hvN
        refine cw_skip ?_
        refine ends_then ?_
        refine cw_seq ?_
        refine cw_block ?_
        refine cw_seq ?_
        -- region 18
        refine cw_region ?_
        refine lw_v rfl rfl (ok_move rfl (.n rfl) rfl) ?_
        refine lw_v rfl rfl (ok_assign rfl (.n rfl) rfl) ?_
        refine lw_nil ?_
        refine Ends.keep [(15, .eq _), (16, .eq _), (18, .eq _), (19, .eq _), (20, .eq _), (127, .eq _), (128, .eq _)] (.cons rfl (.cons rfl (.cons rfl (.cons rfl (.cons rfl (.cons rfl (.cons rfl .nil))))))) ?_
        refine ends_then ?_
        refine cw_seq ?_
        -- region 19
        refine cw_draw (by kernel_rfl) (List.take 18 _) (List.drop 18 _) (List.take_append_drop 18 _).symm (by kernel_rfl) ?_
        refine free_v (ok_move rfl (.n rfl) rfl) ?_
        refine free_v (ok_move rfl (.n rfl) rfl) ?_
        refine free_v (ok_ix rfl (.n rfl) Try.underlying26 Try.sizeOf3 rfl rfl hS (fun _ => ⟨by omega, by omega⟩)) ?_
        refine free_v (ok_ldx rfl (.n rfl) rfl Try.isAgg3 hS (fun _ => ⟨by omega, by omega⟩) (by rfl)) ?_
        refine free_v (ok_move rfl (.n rfl) rfl) ?_
        refine free_v (ok_move rfl (.n rfl) rfl) ?_
        refine free_v (ok_ix rfl (.n rfl) Try.underlying26 Try.sizeOf3 rfl rfl hS (fun _ => ⟨by omega, by omega⟩)) ?_
        refine free_v (ok_ldx rfl (.n rfl) rfl Try.isAgg3 hS (fun _ => ⟨by omega, by omega⟩) (by rfl)) ?_
        refine free_v (ok_gtr rfl (.n rfl) rfl rfl) ?_
        refine free_v (ok_move rfl (.n rfl) rfl) ?_
        refine free_v (ok_move rfl (.s rfl rfl) rfl) ?_
        refine free_v (ok_move rfl (.s rfl rfl) rfl) ?_
        refine free_v (ok_ix rfl (.s rfl rfl) Try.underlying26 Try.sizeOf3 rfl rfl hS (fun _ => ⟨by omega, by omega⟩)) ?_
        refine free_v (ok_ldx rfl (.s rfl rfl) rfl Try.isAgg3 hS (fun _ => ⟨by omega, by omega⟩) (by rfl)) ?_
        refine free_v (ok_move rfl (.s rfl rfl) rfl) ?_
        refine free_v (ok_move rfl (.s rfl rfl) rfl) ?_
        refine free_v (ok_ix rfl (.s rfl rfl) Try.underlying26 Try.sizeOf3 rfl rfl hS (fun _ => ⟨by omega, by omega⟩)) ?_
        refine free_v (ok_ldx rfl (.s rfl rfl) rfl Try.isAgg3 hS (fun _ => ⟨by omega, by omega⟩) (by rfl)) ?_
        refine free_nil ?_
        intro w10 hg_; replace hS := hS.grow hg_; clear hg_
        refine lw_v rfl rfl (ok_gtr rfl (.s rfl rfl) rfl rfl) ?_
        refine lw_v rfl rfl (ok_or rfl rfl rfl rfl) ?_
        refine lw_nil ?_
        refine Ends.keep [(15, .eq _), (16, .eq _), (18, .eq _), (19, .eq _), (127, .eq _), (128, .eq _), (150, .eq _)] (.cons rfl (.cons rfl (.cons rfl (.cons rfl (.cons rfl (.cons rfl (.cons rfl .nil))))))) ?_
        refine ends_then ?_
        refine cw_cond rfl (fun h150 => ?_) (fun h150 => ?_)
        ·
          rw [Bool.or_eq_true, decide_eq_true_eq, decide_eq_true_eq] at h150
          omega
        ·
          refine cw_skip ?_
          refine in_normal (?_)
          refine ends_then ?_
          -- region 21
          refine cw_region ?_
          refine lw_v rfl rfl (ok_addi rfl (.n rfl) rfl rfl (fun _ => ⟨by omega, by omega⟩)) ?_
          refine lw_v rfl rfl (ok_move rfl (.n rfl) rfl) ?_
          refine lw_nil ?_
          -- BACK
          refine ends_back (v + 1) (.cons rfl (.cons rfl (.cons rfl (.cons rfl (.cons rfl (.cons rfl .nil)))))) ⟨by omega, hS⟩ (by omega)
      ·
        refine cw_exit ?_
        refine then_exit (then_exit (in_exit (?_)))
        refine Ends.keep [] .nil ?_
        refine ends_then ?_
        refine cw_seq ?_
        -- region 22
        refine cw_region ?_
        refine lw_call (f := 43) (xs := []) rfl rfl rfl Try.call43 rfl (Calls.mono (f43 _) ?_)
        rintro e w' ⟨rfl, hg⟩
        replace hS := hS.grow hg; clear hg
        refine ⟨_, rfl, ?_⟩
        refine lw_v rfl rfl (ok_assign rfl (.n rfl) rfl) ?_
        refine lw_nil ?_
        refine Ends.keep [(8, .eq _)] (.cons rfl .nil) ?_
        refine ends_then ?_
        refine cw_ret ?_
        exact end_ret (res1 Try.results7 rfl) ⟨rfl, hS.below⟩

end Go.Proofs.Ytnpgeohkmdcbkaa.Aq
