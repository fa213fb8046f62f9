/- The walk of acequiaref02.Make. -/
import Derived.Test.YtnpgeohkmdcbkaaEng9
import Derived.Test.YtnpgeohkmdcbkaaA1
import Derived.Test.YtnpgeohkmdcbkaaCsr
namespace Go.Proofs.Ytnpgeohkmdcbkaa.Aq
open Go Go.RowKit

/-- The zero of a row. -/
def zeroC : List Value := [.int .i64 0, .int .i64 0, .int .i64 0, .slice none 0 0, .slice none 0 0, .slice none 0 0, .slice none 0 0, .slice none 0 0, .slice none 0 0]
theorem firstTo_succ1 (arcs : List (Int × Int × Int)) (v : Nat) : firstTo arcs (v + 1) = firstTo arcs v ++ [(((ents arcs v).map (·.1)).length : Int)] := by
  rw [firstTo_succ, List.length_map]
theorem row_test {Arc : List Int} {i j : Nat} (h : (decide (Arc.getD (i : Int).toNat 0 = Arc.getD (j : Int).toNat 0) && !decide ((i : Int) = (j : Int))) = true) : (decide (Arc.getD i 0 = Arc.getD j 0) && !decide (i = j)) = true := by
  have e : decide ((i : Int) = (j : Int)) = decide (i = j) := decide_eq_decide.2 (by omega)
  rwa [Int.toNat_natCast, Int.toNat_natCast, e] at h
theorem row_test' {Arc : List Int} {i j : Nat} (h : (decide (Arc.getD (i : Int).toNat 0 = Arc.getD (j : Int).toNat 0) && !decide ((i : Int) = (j : Int))) = false) : ¬ (decide (Arc.getD i 0 = Arc.getD j 0) && !decide (i = j)) = true := by
  have e : decide ((i : Int) = (j : Int)) = decide (i = j) := decide_eq_decide.2 (by omega)
  rw [Int.toNat_natCast, Int.toNat_natCast, e] at h
  rw [h]; decide
set_option maxRecDepth 10000 in
/-- acequiaref02.Make: of a right net. -/
theorem f66 (n : Nt) (A : Option Addr) (c : Nat) (w : World) (hok : NetOk n) (ha : (sl eArc 3 A n.arcs.length c n.arcs).p w) :
    Calls Try.prog 66 #[netV n A c] w fun e w' => ∃ q : Q6, e = .returned (.tuple #[csV (makeF n) q, .int .i64 0]) ∧ Gr w w' ∧ CsNew (makeF n) q w.heap.size ∧ CsAt (makeF n) q w' := by
  refine calls_cw Try.func66 rfl Try.ntmps66 rfl ?_
  have hS := (St.start w).arg _ ha rfl (fun b hb => (sl eArc 3 A n.arcs.length c n.arcs).lt ha hb)
  obtain ⟨hlo, hhi, hs0, hs1, ht0, ht1, hne, hln, _⟩ := id hok
  refine cw_seq ?_
  -- region 0
  refine cw_region ?_
  refine lw_box rfl rfl rfl rfl hS ?_
  clear hS; intro b1 w1 _ _ hS
  refine lw_alloc rfl rfl rfl Try.zeroValue29 hS ?_
  clear hS; intro b2 w2 _ _ hS
  refine lw_v rfl rfl (ok_assign rfl (.n rfl) rfl) ?_
  refine lw_nil ?_
  refine Ends.keep [(1, .eq _), (2, .eq _)] (.cons rfl (.cons rfl .nil)) ?_
  refine ends_then ?_
  refine cw_seq ?_
  -- region 1
  refine cw_region ?_
  refine lw_v rfl rfl (ok_ldS rfl (.n rfl) rfl Try.isAgg24 Try.sizeOf24 hS rfl) ?_
  refine lw_call (f := 94) (xs := [_]) rfl rfl rfl Try.call94 rfl (Calls.mono (f94 n A c _ hok (hS.ok _ (.tail _ (.tail _ (.head _))))) ?_)
  rintro e w' ⟨rfl, hg⟩
  replace hS := hS.grow hg; clear hg
  refine ⟨_, rfl, ?_⟩
  refine lw_v rfl rfl (ok_assign rfl (.n rfl) rfl) ?_
  refine lw_nil ?_
  refine Ends.keep [(1, .eq _), (2, .eq _), (4, .eq _)] (.cons rfl (.cons rfl (.cons rfl .nil))) ?_
  refine ends_then ?_
  refine cw_seq ?_
  refine cw_seq ?_
  -- region 2
  refine cw_region ?_
  refine lw_v rfl rfl (ok_move rfl (.n rfl) rfl) ?_
  refine lw_v rfl rfl (ok_neq rfl (.n rfl) rfl rfl) ?_
  refine lw_nil ?_
  refine Ends.keep [(1, .eq _), (2, .eq _), (4, .eq _), (14, .eq _)] (.cons rfl (.cons rfl (.cons rfl (.cons rfl .nil)))) ?_
  refine ends_then ?_
  refine cw_cond rfl (fun h14 => ?_) (fun h14 => ?_)
  ·
    cases h14
  ·
    replace hS := (((((hS.nil eBool 1 4).nil (eInt .i64) 1 3).nil (eInt .i64) 1 2).nil (eInt .i64) 1 3).nil (eInt .i64) 1 3).nil (eInt .i64) 1 3
    refine cw_skip ?_
    refine ends_then ?_
    refine cw_seq ?_
    -- region 4
    refine cw_region ?_
    refine lw_v rfl rfl (ok_fb rfl (.n rfl) Try.underlying24 rfl Try.sizeOf3 (by decide) rfl) ?_
    refine lw_v rfl rfl (ok_ldb rfl (.n rfl) rfl Try.isAgg3 hS (by rfl)) ?_
    refine lw_v rfl rfl (ok_fb rfl (.n rfl) Try.underlying24 rfl Try.sizeOf3 (by decide) rfl) ?_
    refine lw_v rfl rfl (ok_ldb rfl (.n rfl) rfl Try.isAgg3 hS (by rfl)) ?_
    refine lw_v rfl rfl (ok_fb rfl (.n rfl) Try.underlying24 rfl Try.sizeOf3 (by decide) rfl) ?_
    refine lw_v rfl rfl (ok_ldb rfl (.n rfl) rfl Try.isAgg3 hS (by rfl)) ?_
    refine lw_v rfl rfl (ok_build rfl (.n rfl) Try.underlying29 Try.zeroValue29 pl29 rfl rfl) ?_
    refine lw_alloc rfl rfl rfl Try.zeroValue29 hS ?_
    clear hS; intro b5 w3 _ _ hS
    refine lw_stS rfl rfl rfl rfl rfl (by kernel_rfl) hS rfl (by rfl) (by rfl) ?_
    clear hS; intro w4 hS
    refine lw_nil ?_
    refine Ends.keep [(1, .eq _), (2, .eq _), (5, .eq _)] (.cons rfl (.cons rfl (.cons rfl .nil))) ?_
    refine ends_then ?_
    refine cw_seq ?_
    refine cw_seq ?_
    -- region 5
    refine cw_region ?_
    refine lw_v rfl rfl (ok_assign rfl (.n rfl) rfl) ?_
    refine lw_nil ?_
    refine Ends.keep [(1, .eq _), (2, .eq _), (5, .eq _), (6, .eq _)] (.cons rfl (.cons rfl (.cons rfl (.cons rfl .nil)))) ?_
    refine ends_then ?_
    refine cw_block ?_
    -- LOOP at region 6: changed live slots [6], kept [1, 2, 5]
    refine cw_loop [(1, .eq _), (2, .eq _), (5, .eq _)] (fun v : Nat => [(6, .eq (.int .i64 v))]) (fun v w' => v ≤ n.N.toNat ∧ ∃ q : Q6, St w.heap.size w w' [bx b5 [.int .i64 n.N, .int .i64 n.S, .int .i64 n.T, .slice q.a0 (firstTo n.arcs v).length q.c0, .slice q.a1 ((ents n.arcs v).map (·.1)).length q.c1, .slice q.a2 ([] : List Int).length q.c2, .slice q.a3 ((ents n.arcs v).map (·.2.1)).length q.c3, .slice q.a4 ((ents n.arcs v).map (·.2.2.1)).length q.c4, .slice q.a5 ((ents n.arcs v).map (·.2.2.2)).length q.c5] 29, own (eInt .i64) 1 3 q.a0 (firstTo n.arcs v).length q.c0 (firstTo n.arcs v), own (eInt .i64) 1 3 q.a1 ((ents n.arcs v).map (·.1)).length q.c1 ((ents n.arcs v).map (·.1)), own (eInt .i64) 1 3 q.a2 ([] : List Int).length q.c2 ([] : List Int), own (eInt .i64) 1 2 q.a3 ((ents n.arcs v).map (·.2.1)).length q.c3 ((ents n.arcs v).map (·.2.1)), own (eInt .i64) 1 3 q.a4 ((ents n.arcs v).map (·.2.2.1)).length q.c4 ((ents n.arcs v).map (·.2.2.1)), own eBool 1 4 q.a5 ((ents n.arcs v).map (·.2.2.2)).length q.c5 ((ents n.arcs v).map (·.2.2.2)), bx b2 zeroC 29, bx b1 (netV n A c).cells.toList 24, sl eArc 3 A n.arcs.length c n.arcs]) (fun v => n.N.toNat - v) 0 (.cons rfl (.cons rfl (.cons rfl .nil))) (.cons rfl (.cons rfl (.cons rfl (.cons rfl .nil)))) ⟨Nat.zero_le _, ⟨none, 0, none, 0, none, 0, none, 0, none, 0, none, 0⟩, hS⟩ ?_
    clear hS
    rintro v wr ⟨hv, q, hS⟩
    refine cw_seq ?_
    refine cw_seq ?_
    -- region 6
    refine cw_region ?_
    refine lw_v rfl rfl (ok_move rfl (.n rfl) rfl) ?_
    refine lw_v rfl rfl (ok_fb rfl (.n rfl) Try.underlying24 rfl Try.sizeOf3 (by decide) rfl) ?_
    refine lw_v rfl rfl (ok_ldb rfl (.n rfl) rfl Try.isAgg3 hS (by rfl)) ?_
    refine lw_v rfl rfl (ok_lss rfl (.n rfl) rfl rfl) ?_
    refine lw_nil ?_
    refine Ends.keep [(1, .eq _), (2, .eq _), (5, .eq _), (6, .eq _), (27, .eq _)] (.cons rfl (.cons rfl (.cons rfl (.cons rfl (.cons rfl .nil))))) ?_
    refine ends_then ?_
    refine cw_cond rfl (fun h27 => ?_) (fun h27 => ?_)
    ·
      have hv' := of_decide_eq_true h27
      have hE0 : (firstTo n.arcs v).length = v := by simp [firstTo]
      have hvN : v < 16 := by omega
      refine cw_skip ?_
      refine ends_then ?_
      refine cw_seq ?_
      refine cw_block ?_
      refine cw_seq ?_
      -- region 8
      refine cw_region ?_
      refine lw_v rfl rfl (ok_fb rfl (.n rfl) Try.underlying29 rfl Try.sizeOf26 (by decide) rfl) ?_
      refine lw_v rfl rfl (ok_ldb rfl (.n rfl) rfl Try.isAgg26 hS (by rfl)) ?_
      refine lw_v rfl rfl (ok_fb rfl (.n rfl) Try.underlying29 rfl Try.sizeOf26 (by decide) rfl) ?_
      refine lw_v rfl rfl (ok_ldb rfl (.n rfl) rfl Try.isAgg26 hS (by rfl)) ?_
      refine lw_v rfl rfl (ok_len rfl (.n rfl) Try.underlying26 rfl) ?_
      refine lw_ls (enc := (eInt .i64)) [(((ents n.arcs v).map (·.1)).length : Int)] rfl rfl rfl Try.underlying26 Try.sizeOf3 Try.zeroValue3 rfl (by kernel_rfl) rfl (by decide) (by decide) hS ?_
      clear hS; intro A35 c35 w5 _ hS
      refine lw_append (enc := (eInt .i64)) rfl rfl rfl Try.underlying26 info3 rfl rfl rfl hS (by decide) (by (try simp only [List.length_map]); omega) (by (try simp only [List.length_map]); omega) ?_
      intro A36 c36 w6 hS1; replace hS := hS1 _ (Rep.r); clear hS1
      refine lw_v rfl rfl (ok_fb rfl (.n rfl) Try.underlying29 rfl Try.sizeOf26 (by decide) rfl) ?_
      refine lw_st rfl rfl rfl rfl rfl rfl Try.sizeOf26 hS (by rfl) ?_
      clear hS; intro w7 hS
      refine lw_nil ?_
      refine Ends.keep [(1, .eq _), (2, .eq _), (5, .eq _), (6, .eq _)] (.cons rfl (.cons rfl (.cons rfl (.cons rfl .nil)))) ?_
      refine ends_then ?_
      refine cw_seq ?_
      -- region 9
      refine cw_region ?_
      refine lw_v rfl rfl (ok_assign rfl (.n rfl) rfl) ?_
      refine lw_nil ?_
      refine Ends.keep [(1, .eq _), (2, .eq _), (5, .eq _), (6, .eq _), (7, .eq _)] (.cons rfl (.cons rfl (.cons rfl (.cons rfl (.cons rfl .nil))))) ?_
      refine ends_then ?_
      refine cw_block ?_
      -- LOOP at region 10: changed live slots [7], kept [1, 2, 5, 6]
      refine cw_loop [(1, .eq _), (2, .eq _), (5, .eq _), (6, .eq _)] (fun k : Nat => [(7, .eq (.int .i64 k))]) (fun k w' => k ≤ n.arcs.length ∧ ∃ q : Q6, St w.heap.size w w' [bx b5 [.int .i64 n.N, .int .i64 n.S, .int .i64 n.T, .slice q.a0 (firstTo n.arcs (v + 1)).length q.c0, .slice q.a1 ((entsTo n.arcs v k).map (·.1)).length q.c1, .slice q.a2 ([] : List Int).length q.c2, .slice q.a3 ((entsTo n.arcs v k).map (·.2.1)).length q.c3, .slice q.a4 ((entsTo n.arcs v k).map (·.2.2.1)).length q.c4, .slice q.a5 ((entsTo n.arcs v k).map (·.2.2.2)).length q.c5] 29, own (eInt .i64) 1 3 q.a0 (firstTo n.arcs (v + 1)).length q.c0 (firstTo n.arcs (v + 1)), own (eInt .i64) 1 3 q.a1 ((entsTo n.arcs v k).map (·.1)).length q.c1 ((entsTo n.arcs v k).map (·.1)), own (eInt .i64) 1 3 q.a2 ([] : List Int).length q.c2 ([] : List Int), own (eInt .i64) 1 2 q.a3 ((entsTo n.arcs v k).map (·.2.1)).length q.c3 ((entsTo n.arcs v k).map (·.2.1)), own (eInt .i64) 1 3 q.a4 ((entsTo n.arcs v k).map (·.2.2.1)).length q.c4 ((entsTo n.arcs v k).map (·.2.2.1)), own eBool 1 4 q.a5 ((entsTo n.arcs v k).map (·.2.2.2)).length q.c5 ((entsTo n.arcs v k).map (·.2.2.2)), bx b2 zeroC 29, bx b1 (netV n A c).cells.toList 24, sl eArc 3 A n.arcs.length c n.arcs]) (fun k => n.arcs.length - k) 0 (.cons rfl (.cons rfl (.cons rfl (.cons rfl .nil)))) (.cons rfl (.cons rfl (.cons rfl (.cons rfl (.cons rfl .nil))))) ⟨Nat.zero_le _, ⟨A36, c36, q.a1, q.c1, q.a2, q.c2, q.a3, q.c3, q.a4, q.c4, q.a5, q.c5⟩, by rw [entsTo_zero, firstTo_succ1]; exact hS.tail⟩ ?_
      clear hS
      rintro k wr ⟨hk, q, hS⟩
      refine cw_seq ?_
      refine cw_seq ?_
      -- region 10
      refine cw_region ?_
      refine lw_v rfl rfl (ok_move rfl (.n rfl) rfl) ?_
      refine lw_v rfl rfl (ok_fb rfl (.n rfl) Try.underlying24 rfl Try.sizeOf22 (by decide) rfl) ?_
      refine lw_v rfl rfl (ok_ldb rfl (.n rfl) rfl Try.isAgg22 hS (by rfl)) ?_
      refine lw_v rfl rfl (ok_len rfl (.n rfl) Try.underlying22 rfl) ?_
      refine lw_v rfl rfl (ok_lss rfl (.n rfl) rfl rfl) ?_
      refine lw_nil ?_
      refine Ends.keep [(1, .eq _), (2, .eq _), (5, .eq _), (6, .eq _), (7, .eq _), (42, .eq _)] (.cons rfl (.cons rfl (.cons rfl (.cons rfl (.cons rfl (.cons rfl .nil)))))) ?_
      refine ends_then ?_
      refine cw_cond rfl (fun h42 => ?_) (fun h42 => ?_)
      ·
        have hk' := of_decide_eq_true h42
        have hE := entsTo_len n.arcs hln (v := v) (k := k) hvN hk
        refine cw_skip ?_
        refine ends_then ?_
        refine cw_seq ?_
        refine cw_block ?_
        refine cw_seq ?_
        -- region 12
        refine cw_region ?_
        refine lw_v rfl rfl (ok_fb rfl (.n rfl) Try.underlying24 rfl Try.sizeOf22 (by decide) rfl) ?_
        refine lw_v rfl rfl (ok_ldb rfl (.n rfl) rfl Try.isAgg22 hS (by rfl)) ?_
        refine lw_v rfl rfl (ok_move rfl (.n rfl) rfl) ?_
        refine lw_v rfl rfl (ok_ix rfl (.n rfl) Try.underlying22 Try.sizeOf82 rfl rfl hS (fun _ => ⟨by omega, by omega⟩)) ?_
        refine lw_v rfl rfl (ok_ldxS rfl (.n rfl) rfl Try.isAgg82 Try.sizeOf82 hS (fun _ => ⟨by omega, by omega⟩)) ?_
        refine lw_alloc rfl rfl rfl Try.zeroValue82 hS ?_
        clear hS; intro b8 w8 _ _ hS
        refine lw_stS rfl rfl rfl rfl rfl (by kernel_rfl) hS rfl (by rfl) (by rfl) ?_
        clear hS; intro w9 hS
        refine lw_nil ?_
        refine Ends.keep [(1, .eq _), (2, .eq _), (5, .eq _), (6, .eq _), (7, .eq _), (8, .eq _)] (.cons rfl (.cons rfl (.cons rfl (.cons rfl (.cons rfl (.cons rfl .nil)))))) ?_
        refine ends_then ?_
        refine cw_seq ?_
        refine cw_seq ?_
        -- region 13
        refine cw_region ?_
        refine lw_v rfl rfl (ok_fb rfl (.n rfl) Try.underlying82 rfl Try.sizeOf3 (by decide) rfl) ?_
        refine lw_v rfl rfl (ok_ldb rfl (.n rfl) rfl Try.isAgg3 hS (by rfl)) ?_
        refine lw_v rfl rfl (ok_fb rfl (.n rfl) Try.underlying82 rfl Try.sizeOf3 (by decide) rfl) ?_
        refine lw_v rfl rfl (ok_ldb rfl (.n rfl) rfl Try.isAgg3 hS (by rfl)) ?_
        refine lw_v rfl rfl (ok_eql rfl (.n rfl) rfl rfl) ?_
        refine lw_nil ?_
        refine Ends.keep [(1, .eq _), (2, .eq _), (5, .eq _), (6, .eq _), (7, .eq _), (8, .eq _), (54, .eq _)] (.cons rfl (.cons rfl (.cons rfl (.cons rfl (.cons rfl (.cons rfl (.cons rfl .nil))))))) ?_
        refine ends_then ?_
        refine cw_cond rfl (fun h54 => ?_) (fun h54 => ?_)
        ·
          have h54' := of_decide_eq_true h54
          refine cw_exit ?_
          refine then_exit (in_exit (?_))
          refine Ends.keep [(1, .eq _), (2, .eq _), (5, .eq _), (6, .eq _), (7, .eq _)] (.cons rfl (.cons rfl (.cons rfl (.cons rfl (.cons rfl .nil))))) ?_
          refine ends_then ?_
          -- region 11
          refine cw_region ?_
          refine lw_v rfl rfl (ok_move rfl (.n rfl) rfl) ?_
          refine lw_v rfl rfl (ok_addi rfl (.n rfl) rfl rfl (fun _ => ⟨by omega, by omega⟩)) ?_
          refine lw_v rfl rfl (ok_assign rfl (.n rfl) rfl) ?_
          refine lw_nil ?_
          -- BACK
          refine ends_back (k + 1) (.cons rfl (.cons rfl (.cons rfl (.cons rfl (.cons rfl .nil))))) ⟨by omega, ⟨q.a0, q.c0, q.a1, q.c1, q.a2, q.c2, q.a3, q.c3, q.a4, q.c4, q.a5, q.c5⟩, ?_⟩ (by omega)
          have e := entsTo_succ n.arcs v k
          rw [enOf_loop (a := n.arcs.getD k (0, 0, 0)) h54'] at e
          rw [e]
          simp only [List.map_append, List.map_cons, List.map_nil, List.append_nil]
          exact hS.tail
        ·
          have h54' := of_decide_eq_false h54
          refine cw_skip ?_
          refine ends_then ?_
          refine cw_seq ?_
          refine cw_seq ?_
          -- region 14
          refine cw_region ?_
          refine lw_v rfl rfl (ok_fb rfl (.n rfl) Try.underlying82 rfl Try.sizeOf3 (by decide) rfl) ?_
          refine lw_v rfl rfl (ok_ldb rfl (.n rfl) rfl Try.isAgg3 hS (by rfl)) ?_
          refine lw_v rfl rfl (ok_move rfl (.n rfl) rfl) ?_
          refine lw_v rfl rfl (ok_eql rfl (.n rfl) rfl rfl) ?_
          refine lw_nil ?_
          refine Ends.keep [(1, .eq _), (2, .eq _), (5, .eq _), (6, .eq _), (7, .eq _), (8, .eq _), (58, .eq _)] (.cons rfl (.cons rfl (.cons rfl (.cons rfl (.cons rfl (.cons rfl (.cons rfl .nil))))))) ?_
          refine ends_then ?_
          refine cw_cond rfl (fun h58 => ?_) (fun h58 => ?_)
          ·
            have h58' := of_decide_eq_true h58
            refine cw_seq ?_
            -- region 15
            refine cw_region ?_
            refine lw_v rfl rfl (ok_fb rfl (.n rfl) Try.underlying29 rfl Try.sizeOf26 (by decide) rfl) ?_
            refine lw_v rfl rfl (ok_ldb rfl (.n rfl) rfl Try.isAgg26 hS (by rfl)) ?_
            refine lw_v rfl rfl (ok_fb rfl (.n rfl) Try.underlying82 rfl Try.sizeOf3 (by decide) rfl) ?_
            refine lw_v rfl rfl (ok_ldb rfl (.n rfl) rfl Try.isAgg3 hS (by rfl)) ?_
            refine lw_ls (enc := (eInt .i64)) [(n.arcs.getD (k : Int).toNat (0, 0, 0)).2.1] rfl rfl rfl Try.underlying26 Try.sizeOf3 Try.zeroValue3 rfl (by kernel_rfl) rfl (by decide) (by decide) hS ?_
            clear hS; intro A63 c63 w10 _ hS
            refine lw_append (enc := (eInt .i64)) rfl rfl rfl Try.underlying26 info3 rfl rfl rfl hS (by decide) (by (try simp only [List.length_map]); omega) (by (try simp only [List.length_map]); omega) ?_
            intro A64 c64 w11 hS1; replace hS := hS1 _ (Rep.r); clear hS1
            refine lw_v rfl rfl (ok_fb rfl (.n rfl) Try.underlying29 rfl Try.sizeOf26 (by decide) rfl) ?_
            refine lw_st rfl rfl rfl rfl rfl rfl Try.sizeOf26 hS (by rfl) ?_
            clear hS; intro w12 hS
            refine lw_nil ?_
            refine Ends.keep [(1, .eq _), (2, .eq _), (5, .eq _), (6, .eq _), (7, .eq _), (8, .eq _)] (.cons rfl (.cons rfl (.cons rfl (.cons rfl (.cons rfl (.cons rfl .nil)))))) ?_
            refine ends_then ?_
            refine cw_seq ?_
            -- region 16
            refine cw_region ?_
            refine lw_v rfl rfl (ok_fb rfl (.n rfl) Try.underlying29 rfl Try.sizeOf25 (by decide) rfl) ?_
            refine lw_v rfl rfl (ok_ldb rfl (.n rfl) rfl Try.isAgg25 hS (by rfl)) ?_
            refine lw_v rfl rfl (ok_fb rfl (.n rfl) Try.underlying82 rfl Try.sizeOf2 (by decide) rfl) ?_
            refine lw_v rfl rfl (ok_ldb rfl (.n rfl) rfl Try.isAgg2 hS (by rfl)) ?_
            refine lw_ls (enc := (eInt .i64)) [(n.arcs.getD (k : Int).toNat (0, 0, 0)).2.2] rfl rfl rfl Try.underlying25 Try.sizeOf2 Try.zeroValue2 rfl (by kernel_rfl) rfl (by decide) (by decide) hS ?_
            clear hS; intro A70 c70 w13 _ hS
            refine lw_append (enc := (eInt .i64)) rfl rfl rfl Try.underlying25 info2 rfl rfl rfl hS (by decide) (by (try simp only [List.length_map]); omega) (by (try simp only [List.length_map]); omega) ?_
            intro A71 c71 w14 hS1; replace hS := hS1 _ (Rep.r); clear hS1
            refine lw_v rfl rfl (ok_fb rfl (.n rfl) Try.underlying29 rfl Try.sizeOf25 (by decide) rfl) ?_
            refine lw_st rfl rfl rfl rfl rfl rfl Try.sizeOf25 hS (by rfl) ?_
            clear hS; intro w15 hS
            refine lw_nil ?_
            refine Ends.keep [(1, .eq _), (2, .eq _), (5, .eq _), (6, .eq _), (7, .eq _), (8, .eq _)] (.cons rfl (.cons rfl (.cons rfl (.cons rfl (.cons rfl (.cons rfl .nil)))))) ?_
            refine ends_then ?_
            refine cw_seq ?_
            -- region 17
            refine cw_region ?_
            refine lw_v rfl rfl (ok_fb rfl (.n rfl) Try.underlying29 rfl Try.sizeOf26 (by decide) rfl) ?_
            refine lw_v rfl rfl (ok_ldb rfl (.n rfl) rfl Try.isAgg26 hS (by rfl)) ?_
            refine lw_v rfl rfl (ok_move rfl (.n rfl) rfl) ?_
            refine lw_ls (enc := (eInt .i64)) [(k : Int)] rfl rfl rfl Try.underlying26 Try.sizeOf3 Try.zeroValue3 rfl (by kernel_rfl) rfl (by decide) (by decide) hS ?_
            clear hS; intro A76 c76 w16 _ hS
            refine lw_append (enc := (eInt .i64)) rfl rfl rfl Try.underlying26 info3 rfl rfl rfl hS (by decide) (by (try simp only [List.length_map]); omega) (by (try simp only [List.length_map]); omega) ?_
            intro A77 c77 w17 hS1; replace hS := hS1 _ (Rep.r); clear hS1
            refine lw_v rfl rfl (ok_fb rfl (.n rfl) Try.underlying29 rfl Try.sizeOf26 (by decide) rfl) ?_
            refine lw_st rfl rfl rfl rfl rfl rfl Try.sizeOf26 hS (by rfl) ?_
            clear hS; intro w18 hS
            refine lw_nil ?_
            refine Ends.keep [(1, .eq _), (2, .eq _), (5, .eq _), (6, .eq _), (7, .eq _), (8, .eq _)] (.cons rfl (.cons rfl (.cons rfl (.cons rfl (.cons rfl (.cons rfl .nil)))))) ?_
            refine ends_then ?_
            -- region 18
            refine cw_region ?_
            refine lw_v rfl rfl (ok_fb rfl (.n rfl) Try.underlying29 rfl Try.sizeOf27 (by decide) rfl) ?_
            refine lw_v rfl rfl (ok_ldb rfl (.n rfl) rfl Try.isAgg27 hS (by rfl)) ?_
            refine lw_ls (enc := eBool) [false] rfl rfl rfl Try.underlying27 Try.sizeOf4 Try.zeroValue4 rfl (by kernel_rfl) rfl (by decide) (by decide) hS ?_
            clear hS; intro A81 c81 w19 _ hS
            refine lw_append (enc := eBool) rfl rfl rfl Try.underlying27 info4 rfl rfl rfl hS (by decide) (by (try simp only [List.length_map]); omega) (by (try simp only [List.length_map]); omega) ?_
            intro A82 c82 w20 hS1; replace hS := hS1 _ (Rep.r); clear hS1
            refine lw_v rfl rfl (ok_fb rfl (.n rfl) Try.underlying29 rfl Try.sizeOf27 (by decide) rfl) ?_
            refine lw_st rfl rfl rfl rfl rfl rfl Try.sizeOf27 hS (by rfl) ?_
            clear hS; intro w21 hS
            refine lw_nil ?_
            refine Ends.keep [(1, .eq _), (2, .eq _), (5, .eq _), (6, .eq _), (7, .eq _), (8, .eq _)] (.cons rfl (.cons rfl (.cons rfl (.cons rfl (.cons rfl (.cons rfl .nil)))))) ?_
            refine ends_then ?_
            refine cw_seq ?_
            -- region 19
            refine cw_region ?_
            refine lw_v rfl rfl (ok_fb rfl (.n rfl) Try.underlying82 rfl Try.sizeOf3 (by decide) rfl) ?_
            refine lw_v rfl rfl (ok_ldb rfl (.n rfl) rfl Try.isAgg3 hS (by rfl)) ?_
            refine lw_v rfl rfl (ok_move rfl (.n rfl) rfl) ?_
            refine lw_v rfl rfl (ok_eql rfl (.n rfl) rfl rfl) ?_
            refine lw_nil ?_
            refine Ends.keep [(1, .eq _), (2, .eq _), (5, .eq _), (6, .eq _), (7, .eq _), (8, .eq _), (87, .eq _)] (.cons rfl (.cons rfl (.cons rfl (.cons rfl (.cons rfl (.cons rfl (.cons rfl .nil))))))) ?_
            refine ends_then ?_
            refine cw_cond rfl (fun h87 => ?_) (fun h87 => ?_)
            ·
              exact absurd h87 (by rw [decide_eq_true_eq]; omega)
            ·
              have h87' := of_decide_eq_false h87
              refine cw_skip ?_
              refine in_normal (?_)
              refine ends_then ?_
              -- region 11
              refine cw_region ?_
              refine lw_v rfl rfl (ok_move rfl (.n rfl) rfl) ?_
              refine lw_v rfl rfl (ok_addi rfl (.n rfl) rfl rfl (fun _ => ⟨by omega, by omega⟩)) ?_
              refine lw_v rfl rfl (ok_assign rfl (.n rfl) rfl) ?_
              refine lw_nil ?_
              -- BACK
              refine ends_back (k + 1) (.cons rfl (.cons rfl (.cons rfl (.cons rfl (.cons rfl .nil))))) ⟨by omega, ⟨q.a0, q.c0, A64, c64, q.a2, q.c2, A71, c71, A77, c77, A82, c82⟩, ?_⟩ (by omega)
              have e := entsTo_succ n.arcs v k
              rw [enOf_from (a := n.arcs.getD k (0, 0, 0)) h54' h58'] at e
              rw [e]
              simp only [List.map_append, List.map_cons, List.map_nil, List.append_nil]
              exact hS.tail.tail.tail.tail.tail
          ·
            have h58' := of_decide_eq_false h58
            refine cw_skip ?_
            refine ends_then ?_
            refine cw_seq ?_
            -- region 19
            refine cw_region ?_
            refine lw_v rfl rfl (ok_fb rfl (.n rfl) Try.underlying82 rfl Try.sizeOf3 (by decide) rfl) ?_
            refine lw_v rfl rfl (ok_ldb rfl (.n rfl) rfl Try.isAgg3 hS (by rfl)) ?_
            refine lw_v rfl rfl (ok_move rfl (.n rfl) rfl) ?_
            refine lw_v rfl rfl (ok_eql rfl (.n rfl) rfl rfl) ?_
            refine lw_nil ?_
            refine Ends.keep [(1, .eq _), (2, .eq _), (5, .eq _), (6, .eq _), (7, .eq _), (8, .eq _), (87, .eq _)] (.cons rfl (.cons rfl (.cons rfl (.cons rfl (.cons rfl (.cons rfl (.cons rfl .nil))))))) ?_
            refine ends_then ?_
            refine cw_cond rfl (fun h87 => ?_) (fun h87 => ?_)
            ·
              have h87' := of_decide_eq_true h87
              refine cw_seq ?_
              -- region 20
              refine cw_region ?_
              refine lw_v rfl rfl (ok_fb rfl (.n rfl) Try.underlying29 rfl Try.sizeOf26 (by decide) rfl) ?_
              refine lw_v rfl rfl (ok_ldb rfl (.n rfl) rfl Try.isAgg26 hS (by rfl)) ?_
              refine lw_v rfl rfl (ok_fb rfl (.n rfl) Try.underlying82 rfl Try.sizeOf3 (by decide) rfl) ?_
              refine lw_v rfl rfl (ok_ldb rfl (.n rfl) rfl Try.isAgg3 hS (by rfl)) ?_
              refine lw_ls (enc := (eInt .i64)) [(n.arcs.getD (k : Int).toNat (0, 0, 0)).1] rfl rfl rfl Try.underlying26 Try.sizeOf3 Try.zeroValue3 rfl (by kernel_rfl) rfl (by decide) (by decide) hS ?_
              clear hS; intro A92 c92 w22 _ hS
              refine lw_append (enc := (eInt .i64)) rfl rfl rfl Try.underlying26 info3 rfl rfl rfl hS (by decide) (by (try simp only [List.length_map]); omega) (by (try simp only [List.length_map]); omega) ?_
              intro A93 c93 w23 hS1; replace hS := hS1 _ (Rep.r); clear hS1
              refine lw_v rfl rfl (ok_fb rfl (.n rfl) Try.underlying29 rfl Try.sizeOf26 (by decide) rfl) ?_
              refine lw_st rfl rfl rfl rfl rfl rfl Try.sizeOf26 hS (by rfl) ?_
              clear hS; intro w24 hS
              refine lw_nil ?_
              refine Ends.keep [(1, .eq _), (2, .eq _), (5, .eq _), (6, .eq _), (7, .eq _)] (.cons rfl (.cons rfl (.cons rfl (.cons rfl (.cons rfl .nil))))) ?_
              refine ends_then ?_
              refine cw_seq ?_
              -- region 21
              refine cw_region ?_
              refine lw_v rfl rfl (ok_fb rfl (.n rfl) Try.underlying29 rfl Try.sizeOf25 (by decide) rfl) ?_
              refine lw_v rfl rfl (ok_ldb rfl (.n rfl) rfl Try.isAgg25 hS (by rfl)) ?_
              refine lw_ls (enc := (eInt .i64)) [0] rfl rfl rfl Try.underlying25 Try.sizeOf2 Try.zeroValue2 rfl (by kernel_rfl) rfl (by decide) (by decide) hS ?_
              clear hS; intro A97 c97 w25 _ hS
              refine lw_append (enc := (eInt .i64)) rfl rfl rfl Try.underlying25 info2 rfl rfl rfl hS (by decide) (by (try simp only [List.length_map]); omega) (by (try simp only [List.length_map]); omega) ?_
              intro A98 c98 w26 hS1; replace hS := hS1 _ (Rep.r); clear hS1
              refine lw_v rfl rfl (ok_fb rfl (.n rfl) Try.underlying29 rfl Try.sizeOf25 (by decide) rfl) ?_
              refine lw_st rfl rfl rfl rfl rfl rfl Try.sizeOf25 hS (by rfl) ?_
              clear hS; intro w27 hS
              refine lw_nil ?_
              refine Ends.keep [(1, .eq _), (2, .eq _), (5, .eq _), (6, .eq _), (7, .eq _)] (.cons rfl (.cons rfl (.cons rfl (.cons rfl (.cons rfl .nil))))) ?_
              refine ends_then ?_
              refine cw_seq ?_
              -- region 22
              refine cw_region ?_
              refine lw_v rfl rfl (ok_fb rfl (.n rfl) Try.underlying29 rfl Try.sizeOf26 (by decide) rfl) ?_
              refine lw_v rfl rfl (ok_ldb rfl (.n rfl) rfl Try.isAgg26 hS (by rfl)) ?_
              refine lw_v rfl rfl (ok_move rfl (.n rfl) rfl) ?_
              refine lw_ls (enc := (eInt .i64)) [(k : Int)] rfl rfl rfl Try.underlying26 Try.sizeOf3 Try.zeroValue3 rfl (by kernel_rfl) rfl (by decide) (by decide) hS ?_
              clear hS; intro A103 c103 w28 _ hS
              refine lw_append (enc := (eInt .i64)) rfl rfl rfl Try.underlying26 info3 rfl rfl rfl hS (by decide) (by (try simp only [List.length_map]); omega) (by (try simp only [List.length_map]); omega) ?_
              intro A104 c104 w29 hS1; replace hS := hS1 _ (Rep.r); clear hS1
              refine lw_v rfl rfl (ok_fb rfl (.n rfl) Try.underlying29 rfl Try.sizeOf26 (by decide) rfl) ?_
              refine lw_st rfl rfl rfl rfl rfl rfl Try.sizeOf26 hS (by rfl) ?_
              clear hS; intro w30 hS
              refine lw_nil ?_
              refine Ends.keep [(1, .eq _), (2, .eq _), (5, .eq _), (6, .eq _), (7, .eq _)] (.cons rfl (.cons rfl (.cons rfl (.cons rfl (.cons rfl .nil))))) ?_
              refine ends_then ?_
              -- region 23
              refine cw_region ?_
              refine lw_v rfl rfl (ok_fb rfl (.n rfl) Try.underlying29 rfl Try.sizeOf27 (by decide) rfl) ?_
              refine lw_v rfl rfl (ok_ldb rfl (.n rfl) rfl Try.isAgg27 hS (by rfl)) ?_
              refine lw_ls (enc := eBool) [true] rfl rfl rfl Try.underlying27 Try.sizeOf4 Try.zeroValue4 rfl (by kernel_rfl) rfl (by decide) (by decide) hS ?_
              clear hS; intro A108 c108 w31 _ hS
              refine lw_append (enc := eBool) rfl rfl rfl Try.underlying27 info4 rfl rfl rfl hS (by decide) (by (try simp only [List.length_map]); omega) (by (try simp only [List.length_map]); omega) ?_
              intro A109 c109 w32 hS1; replace hS := hS1 _ (Rep.r); clear hS1
              refine lw_v rfl rfl (ok_fb rfl (.n rfl) Try.underlying29 rfl Try.sizeOf27 (by decide) rfl) ?_
              refine lw_st rfl rfl rfl rfl rfl rfl Try.sizeOf27 hS (by rfl) ?_
              clear hS; intro w33 hS
              refine lw_nil ?_
              refine in_normal (?_)
              refine Ends.keep [(1, .eq _), (2, .eq _), (5, .eq _), (6, .eq _), (7, .eq _)] (.cons rfl (.cons rfl (.cons rfl (.cons rfl (.cons rfl .nil))))) ?_
              refine ends_then ?_
              -- region 11
              refine cw_region ?_
              refine lw_v rfl rfl (ok_move rfl (.n rfl) rfl) ?_
              refine lw_v rfl rfl (ok_addi rfl (.n rfl) rfl rfl (fun _ => ⟨by omega, by omega⟩)) ?_
              refine lw_v rfl rfl (ok_assign rfl (.n rfl) rfl) ?_
              refine lw_nil ?_
              -- BACK
              refine ends_back (k + 1) (.cons rfl (.cons rfl (.cons rfl (.cons rfl (.cons rfl .nil))))) ⟨by omega, ⟨q.a0, q.c0, A93, c93, q.a2, q.c2, A98, c98, A104, c104, A109, c109⟩, ?_⟩ (by omega)
              have e := entsTo_succ n.arcs v k
              rw [enOf_to (a := n.arcs.getD k (0, 0, 0)) h54' h58' h87'] at e
              rw [e]
              simp only [List.map_append, List.map_cons, List.map_nil, List.append_nil]
              exact hS.tail.tail.tail.tail.tail
            ·
              have h87' := of_decide_eq_false h87
              refine cw_skip ?_
              refine in_normal (?_)
              refine ends_then ?_
              -- region 11
              refine cw_region ?_
              refine lw_v rfl rfl (ok_move rfl (.n rfl) rfl) ?_
              refine lw_v rfl rfl (ok_addi rfl (.n rfl) rfl rfl (fun _ => ⟨by omega, by omega⟩)) ?_
              refine lw_v rfl rfl (ok_assign rfl (.n rfl) rfl) ?_
              refine lw_nil ?_
              -- BACK
              refine ends_back (k + 1) (.cons rfl (.cons rfl (.cons rfl (.cons rfl (.cons rfl .nil))))) ⟨by omega, ⟨q.a0, q.c0, q.a1, q.c1, q.a2, q.c2, q.a3, q.c3, q.a4, q.c4, q.a5, q.c5⟩, ?_⟩ (by omega)
              have e := entsTo_succ n.arcs v k
              rw [enOf_no (a := n.arcs.getD k (0, 0, 0)) h54' h58' h87'] at e
              rw [e]
              simp only [List.map_append, List.map_cons, List.map_nil, List.append_nil]
              exact hS.tail
      ·
        have hkn : k = n.arcs.length := by have := of_decide_eq_false h42; omega
        subst hkn
        refine cw_exit ?_
        refine then_exit (then_exit (in_exit (?_)))
        refine in_normal (?_)
        refine Ends.keep [(1, .eq _), (2, .eq _), (5, .eq _), (6, .eq _)] (.cons rfl (.cons rfl (.cons rfl (.cons rfl .nil)))) ?_
        refine ends_then ?_
        -- region 7
        refine cw_region ?_
        refine lw_v rfl rfl (ok_move rfl (.n rfl) rfl) ?_
        refine lw_v rfl rfl (ok_addi rfl (.n rfl) rfl rfl (fun _ => ⟨by omega, by omega⟩)) ?_
        refine lw_v rfl rfl (ok_assign rfl (.n rfl) rfl) ?_
        refine lw_nil ?_
        -- BACK
        refine ends_back (v + 1) (.cons rfl (.cons rfl (.cons rfl (.cons rfl .nil)))) ⟨by omega, q, ?_⟩ (by omega)
        rw [← entsTo_all]
        exact hS
    ·
      have hvN : v = n.N.toNat := by have := of_decide_eq_false h27; omega
      subst hvN
      have hE0 : (firstTo n.arcs n.N.toNat).length = n.N.toNat := by simp [firstTo]
      refine cw_exit ?_
      refine then_exit (then_exit (in_exit (?_)))
      refine Ends.keep [(2, .eq _), (5, .eq _)] (.cons rfl (.cons rfl .nil)) ?_
      refine ends_then ?_
      refine cw_seq ?_
      -- region 24
      refine cw_region ?_
      refine lw_v rfl rfl (ok_fb rfl (.n rfl) Try.underlying29 rfl Try.sizeOf26 (by decide) rfl) ?_
      refine lw_v rfl rfl (ok_ldb rfl (.n rfl) rfl Try.isAgg26 hS (by rfl)) ?_
      refine lw_v rfl rfl (ok_fb rfl (.n rfl) Try.underlying29 rfl Try.sizeOf26 (by decide) rfl) ?_
      refine lw_v rfl rfl (ok_ldb rfl (.n rfl) rfl Try.isAgg26 hS (by rfl)) ?_
      refine lw_v rfl rfl (ok_len rfl (.n rfl) Try.underlying26 rfl) ?_
      refine lw_ls (enc := (eInt .i64)) [(((ents n.arcs n.N.toNat).map (·.1)).length : Int)] rfl rfl rfl Try.underlying26 Try.sizeOf3 Try.zeroValue3 rfl (by kernel_rfl) rfl (by decide) (by decide) hS ?_
      clear hS; intro A116 c116 w34 _ hS
      refine lw_append (enc := (eInt .i64)) rfl rfl rfl Try.underlying26 info3 rfl rfl rfl hS (by decide) (by (try simp only [List.length_map]); omega) (by (try simp only [List.length_map]); omega) ?_
      intro A117 c117 w35 hS1; replace hS := hS1 _ (Rep.r); clear hS1
      refine lw_v rfl rfl (ok_fb rfl (.n rfl) Try.underlying29 rfl Try.sizeOf26 (by decide) rfl) ?_
      refine lw_st rfl rfl rfl rfl rfl rfl Try.sizeOf26 hS (by rfl) ?_
      clear hS; intro w36 hS
      refine lw_nil ?_
      refine Ends.keep [(2, .eq _), (5, .eq _)] (.cons rfl (.cons rfl .nil)) ?_
      refine ends_then ?_
      refine cw_seq ?_
      refine cw_seq ?_
      -- region 25
      refine cw_region ?_
      refine lw_v rfl rfl (ok_assign rfl (.n rfl) rfl) ?_
      refine lw_nil ?_
      refine Ends.keep [(2, .eq _), (5, .eq _), (9, .eq _)] (.cons rfl (.cons rfl (.cons rfl .nil))) ?_
      refine ends_then ?_
      refine cw_block ?_
      -- LOOP at region 26: changed live slots [9], kept [2, 5]
      refine cw_loop [(2, .eq _), (5, .eq _)] (fun i : Nat => [(9, .eq (.int .i64 i))]) (fun i w' => i ≤ (ents n.arcs n.N.toNat).length ∧ ∃ q : Q6, St w.heap.size w w' [bx b5 [.int .i64 n.N, .int .i64 n.S, .int .i64 n.T, .slice q.a0 (firstTo n.arcs (n.N.toNat + 1)).length q.c0, .slice q.a1 ((ents n.arcs n.N.toNat).map (·.1)).length q.c1, .slice q.a2 (revTo ((ents n.arcs n.N.toNat).map (·.2.2.1)) i).length q.c2, .slice q.a3 ((ents n.arcs n.N.toNat).map (·.2.1)).length q.c3, .slice q.a4 ((ents n.arcs n.N.toNat).map (·.2.2.1)).length q.c4, .slice q.a5 ((ents n.arcs n.N.toNat).map (·.2.2.2)).length q.c5] 29, own (eInt .i64) 1 3 q.a0 (firstTo n.arcs (n.N.toNat + 1)).length q.c0 (firstTo n.arcs (n.N.toNat + 1)), own (eInt .i64) 1 3 q.a1 ((ents n.arcs n.N.toNat).map (·.1)).length q.c1 ((ents n.arcs n.N.toNat).map (·.1)), own (eInt .i64) 1 3 q.a2 (revTo ((ents n.arcs n.N.toNat).map (·.2.2.1)) i).length q.c2 (revTo ((ents n.arcs n.N.toNat).map (·.2.2.1)) i), own (eInt .i64) 1 2 q.a3 ((ents n.arcs n.N.toNat).map (·.2.1)).length q.c3 ((ents n.arcs n.N.toNat).map (·.2.1)), own (eInt .i64) 1 3 q.a4 ((ents n.arcs n.N.toNat).map (·.2.2.1)).length q.c4 ((ents n.arcs n.N.toNat).map (·.2.2.1)), own eBool 1 4 q.a5 ((ents n.arcs n.N.toNat).map (·.2.2.2)).length q.c5 ((ents n.arcs n.N.toNat).map (·.2.2.2)), bx b2 zeroC 29, bx b1 (netV n A c).cells.toList 24, sl eArc 3 A n.arcs.length c n.arcs]) (fun i => (ents n.arcs n.N.toNat).length - i) 0 (.cons rfl (.cons rfl .nil)) (.cons rfl (.cons rfl (.cons rfl .nil))) ⟨Nat.zero_le _, ⟨A117, c117, q.a1, q.c1, q.a2, q.c2, q.a3, q.c3, q.a4, q.c4, q.a5, q.c5⟩, by rw [firstTo_succ1]; exact hS.tail⟩ ?_
      clear hS
      rintro i wr ⟨hi, q, hS⟩
      have hR := revTo_len ((ents n.arcs n.N.toNat).map (·.2.2.1)) i
      have hE := ents_len n.arcs hln n.N.toNat
      rw [List.length_map] at hR
      have hE2 : (ents n.arcs n.N.toNat).length ≤ 1280 := by omega
      have hR2 : i * (ents n.arcs n.N.toNat).length ≤ 1280 * 1280 := Nat.mul_le_mul (by omega) hE2
      refine cw_seq ?_
      refine cw_seq ?_
      -- region 26
      refine cw_region ?_
      refine lw_v rfl rfl (ok_move rfl (.n rfl) rfl) ?_
      refine lw_v rfl rfl (ok_fb rfl (.n rfl) Try.underlying29 rfl Try.sizeOf26 (by decide) rfl) ?_
      refine lw_v rfl rfl (ok_ldb rfl (.n rfl) rfl Try.isAgg26 hS (by rfl)) ?_
      refine lw_v rfl rfl (ok_len rfl (.n rfl) Try.underlying26 rfl) ?_
      refine lw_v rfl rfl (ok_lss rfl (.n rfl) rfl rfl) ?_
      refine lw_nil ?_
      refine Ends.keep [(2, .eq _), (5, .eq _), (9, .eq _), (123, .eq _)] (.cons rfl (.cons rfl (.cons rfl (.cons rfl .nil)))) ?_
      refine ends_then ?_
      refine cw_cond rfl (fun h123 => ?_) (fun h123 => ?_)
      ·
        have hi' := of_decide_eq_true h123
        rw [List.length_map] at hi'
        refine cw_skip ?_
        refine ends_then ?_
        refine cw_seq ?_
        refine cw_block ?_
        refine cw_seq ?_
        -- region 28
        refine cw_region ?_
        refine lw_v rfl rfl (ok_assign rfl (.n rfl) rfl) ?_
        refine lw_nil ?_
        refine Ends.keep [(2, .eq _), (5, .eq _), (9, .eq _), (10, .eq _)] (.cons rfl (.cons rfl (.cons rfl (.cons rfl .nil)))) ?_
        refine ends_then ?_
        refine cw_block ?_
        -- LOOP at region 29: changed live slots [10], kept [2, 5, 9]
        refine cw_loop [(2, .eq _), (5, .eq _), (9, .eq _)] (fun j : Nat => [(10, .eq (.int .i64 j))]) (fun j w' => j ≤ (ents n.arcs n.N.toNat).length ∧ ∃ q : Q6, St w.heap.size w w' [bx b5 [.int .i64 n.N, .int .i64 n.S, .int .i64 n.T, .slice q.a0 (firstTo n.arcs (n.N.toNat + 1)).length q.c0, .slice q.a1 ((ents n.arcs n.N.toNat).map (·.1)).length q.c1, .slice q.a2 (revTo ((ents n.arcs n.N.toNat).map (·.2.2.1)) i ++ rowF ((ents n.arcs n.N.toNat).map (·.2.2.1)) i j).length q.c2, .slice q.a3 ((ents n.arcs n.N.toNat).map (·.2.1)).length q.c3, .slice q.a4 ((ents n.arcs n.N.toNat).map (·.2.2.1)).length q.c4, .slice q.a5 ((ents n.arcs n.N.toNat).map (·.2.2.2)).length q.c5] 29, own (eInt .i64) 1 3 q.a0 (firstTo n.arcs (n.N.toNat + 1)).length q.c0 (firstTo n.arcs (n.N.toNat + 1)), own (eInt .i64) 1 3 q.a1 ((ents n.arcs n.N.toNat).map (·.1)).length q.c1 ((ents n.arcs n.N.toNat).map (·.1)), own (eInt .i64) 1 3 q.a2 (revTo ((ents n.arcs n.N.toNat).map (·.2.2.1)) i ++ rowF ((ents n.arcs n.N.toNat).map (·.2.2.1)) i j).length q.c2 (revTo ((ents n.arcs n.N.toNat).map (·.2.2.1)) i ++ rowF ((ents n.arcs n.N.toNat).map (·.2.2.1)) i j), own (eInt .i64) 1 2 q.a3 ((ents n.arcs n.N.toNat).map (·.2.1)).length q.c3 ((ents n.arcs n.N.toNat).map (·.2.1)), own (eInt .i64) 1 3 q.a4 ((ents n.arcs n.N.toNat).map (·.2.2.1)).length q.c4 ((ents n.arcs n.N.toNat).map (·.2.2.1)), own eBool 1 4 q.a5 ((ents n.arcs n.N.toNat).map (·.2.2.2)).length q.c5 ((ents n.arcs n.N.toNat).map (·.2.2.2)), bx b2 zeroC 29, bx b1 (netV n A c).cells.toList 24, sl eArc 3 A n.arcs.length c n.arcs]) (fun j => (ents n.arcs n.N.toNat).length - j) 0 (.cons rfl (.cons rfl (.cons rfl .nil))) (.cons rfl (.cons rfl (.cons rfl (.cons rfl .nil)))) ⟨Nat.zero_le _, q, by rw [show rowF ((ents n.arcs n.N.toNat).map (·.2.2.1)) i 0 = [] from rfl, List.append_nil]; exact hS⟩ ?_
        clear hS
        rintro j wr ⟨hj, q, hS⟩
        have hRR := rowF_len ((ents n.arcs n.N.toNat).map (·.2.2.1)) i j
        refine cw_seq ?_
        refine cw_seq ?_
        -- region 29
        refine cw_region ?_
        refine lw_v rfl rfl (ok_move rfl (.n rfl) rfl) ?_
        refine lw_v rfl rfl (ok_fb rfl (.n rfl) Try.underlying29 rfl Try.sizeOf26 (by decide) rfl) ?_
        refine lw_v rfl rfl (ok_ldb rfl (.n rfl) rfl Try.isAgg26 hS (by rfl)) ?_
        refine lw_v rfl rfl (ok_len rfl (.n rfl) Try.underlying26 rfl) ?_
        refine lw_v rfl rfl (ok_lss rfl (.n rfl) rfl rfl) ?_
        refine lw_nil ?_
        refine Ends.keep [(2, .eq _), (5, .eq _), (9, .eq _), (10, .eq _), (130, .eq _)] (.cons rfl (.cons rfl (.cons rfl (.cons rfl (.cons rfl .nil))))) ?_
        refine ends_then ?_
        refine cw_cond rfl (fun h130 => ?_) (fun h130 => ?_)
        ·
          have hj' := of_decide_eq_true h130
          rw [List.length_map] at hj'
          refine cw_skip ?_
          refine ends_then ?_
          refine cw_seq ?_
          refine cw_block ?_
          refine cw_seq ?_
          -- region 31
          refine cw_draw (by kernel_rfl) (List.take 14 _) (List.drop 14 _) (List.take_append_drop 14 _).symm (by kernel_rfl) ?_
          refine free_v (ok_fb rfl (.n rfl) Try.underlying29 rfl Try.sizeOf26 (by decide) rfl) ?_
          refine free_v (ok_ldb rfl (.n rfl) rfl Try.isAgg26 hS (by rfl)) ?_
          refine free_v (ok_move rfl (.n rfl) rfl) ?_
          refine free_v (ok_ix rfl (.n rfl) Try.underlying26 Try.sizeOf3 rfl rfl hS (fun _ => ⟨by omega, by rw [List.length_map]; omega⟩)) ?_
          refine free_v (ok_ldx rfl (.n rfl) rfl Try.isAgg3 hS (fun _ => ⟨by omega, by rw [List.length_map]; omega⟩) (by rfl)) ?_
          refine free_v (ok_fb rfl (.n rfl) Try.underlying29 rfl Try.sizeOf26 (by decide) rfl) ?_
          refine free_v (ok_ldb rfl (.n rfl) rfl Try.isAgg26 hS (by rfl)) ?_
          refine free_v (ok_move rfl (.n rfl) rfl) ?_
          refine free_v (ok_ix rfl (.n rfl) Try.underlying26 Try.sizeOf3 rfl rfl hS (fun _ => ⟨by omega, by rw [List.length_map]; omega⟩)) ?_
          refine free_v (ok_ldx rfl (.n rfl) rfl Try.isAgg3 hS (fun _ => ⟨by omega, by rw [List.length_map]; omega⟩) (by rfl)) ?_
          refine free_v (ok_eql rfl (.n rfl) rfl rfl) ?_
          refine free_v (ok_move rfl (.n rfl) rfl) ?_
          refine free_v (ok_move rfl (.s rfl rfl) rfl) ?_
          refine free_v (ok_move rfl (.s rfl rfl) rfl) ?_
          refine free_nil ?_
          intro w37 hg_; replace hS := hS.grow hg_; clear hg_
          refine lw_v rfl rfl (ok_neq rfl (.s rfl rfl) rfl rfl) ?_
          refine lw_v rfl rfl (ok_and rfl rfl rfl rfl) ?_
          refine lw_nil ?_
          refine Ends.keep [(2, .eq _), (5, .eq _), (9, .eq _), (10, .eq _), (148, .eq _)] (.cons rfl (.cons rfl (.cons rfl (.cons rfl (.cons rfl .nil))))) ?_
          refine ends_then ?_
          refine cw_cond rfl (fun h148 => ?_) (fun h148 => ?_)
          ·
            -- region 32
            refine cw_region ?_
            refine lw_v rfl rfl (ok_fb rfl (.n rfl) Try.underlying29 rfl Try.sizeOf26 (by decide) rfl) ?_
            refine lw_v rfl rfl (ok_ldb rfl (.n rfl) rfl Try.isAgg26 hS (by rfl)) ?_
            refine lw_v rfl rfl (ok_move rfl (.n rfl) rfl) ?_
            refine lw_ls (enc := (eInt .i64)) [(j : Int)] rfl rfl rfl Try.underlying26 Try.sizeOf3 Try.zeroValue3 rfl (by kernel_rfl) rfl (by decide) (by decide) hS ?_
            clear hS; intro A152 c152 w38 _ hS
            refine lw_append (enc := (eInt .i64)) rfl rfl rfl Try.underlying26 info3 rfl rfl rfl hS (by decide) (by (try simp only [List.length_append]); omega) (by (try simp only [List.length_append]); omega) ?_
            intro A153 c153 w39 hS1; replace hS := hS1 _ (Rep.r); clear hS1
            refine lw_v rfl rfl (ok_fb rfl (.n rfl) Try.underlying29 rfl Try.sizeOf26 (by decide) rfl) ?_
            refine lw_st rfl rfl rfl rfl rfl rfl Try.sizeOf26 hS (by rfl) ?_
            clear hS; intro w40 hS
            refine lw_nil ?_
            refine in_normal (?_)
            refine Ends.keep [(2, .eq _), (5, .eq _), (9, .eq _), (10, .eq _)] (.cons rfl (.cons rfl (.cons rfl (.cons rfl .nil)))) ?_
            refine ends_then ?_
            -- region 30
            refine cw_region ?_
            refine lw_v rfl rfl (ok_move rfl (.n rfl) rfl) ?_
            refine lw_v rfl rfl (ok_addi rfl (.n rfl) rfl rfl (fun _ => ⟨by omega, by omega⟩)) ?_
            refine lw_v rfl rfl (ok_assign rfl (.n rfl) rfl) ?_
            refine lw_nil ?_
            -- BACK
            refine ends_back (j + 1) (.cons rfl (.cons rfl (.cons rfl (.cons rfl .nil)))) ⟨by omega, ⟨q.a0, q.c0, q.a1, q.c1, A153, c153, q.a3, q.c3, q.a4, q.c4, q.a5, q.c5⟩, ?_⟩ (by omega)
            rw [rowF_succ, if_pos (row_test h148), ← List.append_assoc]
            exact hS.tail
          ·
            refine cw_skip ?_
            refine in_normal (?_)
            refine ends_then ?_
            -- region 30
            refine cw_region ?_
            refine lw_v rfl rfl (ok_move rfl (.n rfl) rfl) ?_
            refine lw_v rfl rfl (ok_addi rfl (.n rfl) rfl rfl (fun _ => ⟨by omega, by omega⟩)) ?_
            refine lw_v rfl rfl (ok_assign rfl (.n rfl) rfl) ?_
            refine lw_nil ?_
            -- BACK
            refine ends_back (j + 1) (.cons rfl (.cons rfl (.cons rfl (.cons rfl .nil)))) ⟨by omega, q, ?_⟩ (by omega)
            rw [rowF_succ, if_neg (row_test' h148), List.append_nil]
            exact hS
        ·
          have hjn : j = (ents n.arcs n.N.toNat).length := by have := of_decide_eq_false h130; rw [List.length_map] at this; omega
          refine cw_exit ?_
          refine then_exit (then_exit (in_exit (?_)))
          refine in_normal (?_)
          refine Ends.keep [(2, .eq _), (5, .eq _), (9, .eq _)] (.cons rfl (.cons rfl (.cons rfl .nil))) ?_
          refine ends_then ?_
          -- region 27
          refine cw_region ?_
          refine lw_v rfl rfl (ok_move rfl (.n rfl) rfl) ?_
          refine lw_v rfl rfl (ok_addi rfl (.n rfl) rfl rfl (fun _ => ⟨by omega, by omega⟩)) ?_
          refine lw_v rfl rfl (ok_assign rfl (.n rfl) rfl) ?_
          refine lw_nil ?_
          -- BACK
          refine ends_back (i + 1) (.cons rfl (.cons rfl (.cons rfl .nil))) ⟨by omega, q, ?_⟩ (by omega)
          have e := revTo_succ ((ents n.arcs n.N.toNat).map (·.2.2.1)) i
          rw [List.length_map, ← hjn] at e
          rw [e]
          exact hS
      ·
        have hin : i = (ents n.arcs n.N.toNat).length := by have := of_decide_eq_false h123; rw [List.length_map] at this; omega
        subst hin
        have eN : (((makeF n).N : Nat) : Int) = n.N := Int.toNat_of_nonneg (by omega)
        have eS : (((makeF n).S : Nat) : Int) = n.S := Int.toNat_of_nonneg (by omega)
        have eT : (((makeF n).T : Nat) : Int) = n.T := Int.toNat_of_nonneg (by omega)
        refine cw_exit ?_
        refine then_exit (then_exit (in_exit (?_)))
        refine Ends.keep [(2, .eq _), (5, .eq _)] (.cons rfl (.cons rfl .nil)) ?_
        refine ends_then ?_
        refine cw_seq ?_
        -- region 33
        refine cw_region ?_
        refine lw_v rfl rfl (ok_ldS rfl (.n rfl) rfl Try.isAgg29 Try.sizeOf29 hS rfl) ?_
        refine lw_stS rfl rfl rfl rfl rfl (by kernel_rfl) hS rfl (by rfl) (by rfl) ?_
        clear hS; intro w41 hS
        refine lw_v rfl rfl (ok_assign rfl (.n rfl) rfl) ?_
        refine lw_nil ?_
        refine Ends.keep [(2, .eq _), (3, .eq _)] (.cons rfl (.cons rfl .nil)) ?_
        refine ends_then ?_
        refine cw_ret ?_
        refine end_ret (resST Try.results66 rfl rfl Try.isAgg29 Try.sizeOf29 hS rfl) ⟨q, by unfold csV; rw [eN, eS, eT]; rfl, hS.below, ⟨own_fp fun b hb => hS.ge _ (.tail _ (.head _)) rfl b hb, own_fp fun b hb => hS.ge _ (.tail _ (.tail _ (.head _))) rfl b hb, own_fp fun b hb => hS.ge _ (.tail _ (.tail _ (.tail _ (.head _)))) rfl b hb, own_fp fun b hb => hS.ge _ (.tail _ (.tail _ (.tail _ (.tail _ (.head _))))) rfl b hb, own_fp fun b hb => hS.ge _ (.tail _ (.tail _ (.tail _ (.tail _ (.tail _ (.head _)))))) rfl b hb, own_fp fun b hb => hS.ge _ (.tail _ (.tail _ (.tail _ (.tail _ (.tail _ (.tail _ (.head _))))))) rfl b hb⟩, ⟨own_sl (hS.ok _ (.tail _ (.head _))) ?_, own_sl (hS.ok _ (.tail _ (.tail _ (.head _)))) ?_, own_sl (hS.ok _ (.tail _ (.tail _ (.tail _ (.head _))))) ?_, own_sl (hS.ok _ (.tail _ (.tail _ (.tail _ (.tail _ (.head _)))))) ?_, own_sl (hS.ok _ (.tail _ (.tail _ (.tail _ (.tail _ (.tail _ (.head _))))))) ?_, own_sl (hS.ok _ (.tail _ (.tail _ (.tail _ (.tail _ (.tail _ (.tail _ (.head _)))))))) ?_⟩⟩
        · show (firstTo _ _).length ≤ _; simp only [firstTo, List.length_map, List.length_range]; omega
        · show (List.map _ _).length ≤ _; rw [List.length_map]; omega
        · show (revTo _ _).length ≤ _; omega
        · show (List.map _ _).length ≤ _; rw [List.length_map]; omega
        · show (List.map _ _).length ≤ _; rw [List.length_map]; omega
        · show (List.map _ _).length ≤ _; rw [List.length_map]; omega

end Go.Proofs.Ytnpgeohkmdcbkaa.Aq
