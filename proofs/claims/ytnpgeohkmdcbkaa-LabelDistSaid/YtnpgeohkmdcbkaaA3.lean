/- The walk of acequialow.Some. -/
import Derived.Test.YtnpgeohkmdcbkaaEng9
import Derived.Test.YtnpgeohkmdcbkaaA1
namespace Go.Proofs.Ytnpgeohkmdcbkaa.Aq
open Go Go.RowKit

theorem getD_memA {l : List (Int × Int × Int)} {k : Nat} (h : k < l.length) : l.getD k (0, 0, 0) ∈ l := by
  simp [List.getD_eq_getElem?_getD, h]
theorem among15 (x : Int) : 0 ≤ among x 15 ∧ among x 15 < 15 := ⟨Int.emod_nonneg _ (by decide), Int.emod_lt_of_pos _ (by decide)⟩
theorem takelen {α : Type} (l : List α) : (if (40 : Int) < (l.length : Int) then (40 : Int) else (l.length : Int)) = ((l.take 40).length : Int) ∧ (l.take 40).length ≤ l.length := by
  rw [List.length_take]
  constructor
  · split <;> omega
  · omega
theorem takeS {B : Nat} {we w : World} {L : List Asn} {A : Option Addr} {c : Nat} {l : List (Int × Int × Int)} (h : St B we w L) (hm : sl eArc 3 A l.length c l ∈ L) : St B we w (sl eArc 3 A (l.take 40).length c (l.take 40) :: L) := by
  have := h.take hm (l.take 40).length (takelen l).2
  rwa [show l.take (l.take 40).length = l.take 40 by rw [List.length_take]; rcases Nat.le_total 40 l.length with h | h; rw [Nat.min_eq_left h]; rw [Nat.min_eq_right h, List.take_length, List.take_of_length_le h]] at this
theorem capeq {x c : Int} (hx : x = if c < 0 then -(c + 1) else c) (h0 : 0 ≤ x) : x.tmod 1125899906842624 = capOf c := by
  rw [Int.tmod_eq_emod_of_nonneg h0, hx]
  rfl
theorem someT_eq {n : Nt} (h : (someN n).S = among n.T (someN n).N) (h0 : 0 ≤ (someN n).S) : (someN n).T = ((someN n).S + 1).tmod (someN n).N := by
  rw [Int.tmod_eq_emod_of_nonneg (by omega)]
  exact if_pos h
theorem someAll (n : Nt) {k : Nat} (h : (n.arcs.take 40).length ≤ k) : (someN n).arcs.take k = (someN n).arcs := by
  refine List.take_of_length_le ?_
  simp only [someN, List.length_map]
  exact h
theorem some_step {n : Nt} {k : Nat} (h : k < (n.arcs.take 40).length) :
    (someN n).arcs.take k ++ [(among ((n.arcs.take 40).getD (k : Int).toNat (0, 0, 0)).1 (someN n).N, among ((n.arcs.take 40).getD (k : Int).toNat (0, 0, 0)).2.1 (someN n).N, capOf ((n.arcs.take 40).getD (k : Int).toNat (0, 0, 0)).2.2)] = (someN n).arcs.take (k + 1) := by
  have hl : k < (someN n).arcs.length := by simp only [someN, List.length_map]; exact h
  rw [List.take_succ_eq_append_getElem hl]
  congr 2
  have e : (n.arcs.take 40).getD (k : Int).toNat (0, 0, 0) = (n.arcs.take 40)[k] := by simp [List.getD_eq_getElem?_getD]; rw [List.getElem?_eq_getElem (by simpa using h)]; simp
  rw [e]
  simp [someN]
theorem aklen (n : Nt) (k : Nat) : ((someN n).arcs.take k).length ≤ 40 := by
  have := (someN_ok n).len
  rw [List.length_take]
  omega


set_option maxRecDepth 10000 in
/-- acequialow.Some: a right net. -/
theorem f24 (n : Nt) (A : Option Addr) (c : Nat) (w : World) (ha : (sl eArc 3 A n.arcs.length c n.arcs).p w) (hrg : (-9223372036854775808 ≤ n.N ∧ n.N ≤ 9223372036854775807) ∧ (-9223372036854775808 ≤ n.S ∧ n.S ≤ 9223372036854775807) ∧ (-9223372036854775808 ≤ n.T ∧ n.T ≤ 9223372036854775807) ∧
      ∀ a ∈ n.arcs, -9223372036854775808 ≤ a.1 ∧ a.1 ≤ 9223372036854775807 ∧ -9223372036854775808 ≤ a.2.1 ∧ a.2.1 ≤ 9223372036854775807 ∧ -9223372036854775808 ≤ a.2.2 ∧ a.2.2 ≤ 9223372036854775807) :
    Calls Try.prog 24 #[netV n A c, .int .i64 16, .int .i64 40] w fun e w' => ∃ A' c', e = .returned (netV (someN n) A' c') ∧ Gr w w' ∧ (∀ b, (own eArc 3 82 A' (someN n).arcs.length c' (someN n).arcs).fp b → w.heap.size ≤ b) ∧ (own eArc 3 82 A' (someN n).arcs.length c' (someN n).arcs).p w' := by
  refine calls_cw Try.func24 rfl Try.ntmps24 rfl ?_
  have hS := (St.start w).arg _ ha rfl (fun b hb => (sl eArc 3 A n.arcs.length c n.arcs).lt ha hb)
  have hNlo := (someN_ok n).lo
  have hNhi := (someN_ok n).hi
  have hSs := (someN_ok n).s0
  have hSs1 := (someN_ok n).s1
  obtain ⟨⟨hN1, hN2⟩, ⟨hS1, hS2⟩, ⟨hT1, hT2⟩, hAr⟩ := hrg
  have ham := among15 n.N
  refine cw_seq ?_
  -- region 0
  refine cw_region ?_
  refine lw_box rfl rfl rfl rfl hS ?_
  clear hS; intro b3 w1 _ _ hS
  refine lw_alloc rfl rfl rfl Try.zeroValue24 hS ?_
  clear hS; intro b6 w2 _ _ hS
  refine lw_nil ?_
  refine Ends.keep [(1, .eq _), (2, .eq _), (3, .eq _), (6, .eq _)] (.cons rfl (.cons rfl (.cons rfl (.cons rfl .nil)))) ?_
  refine ends_then ?_
  refine cw_seq ?_
  -- region 1
  refine cw_region ?_
  refine lw_v rfl rfl (ok_fb rfl (.n rfl) Try.underlying24 rfl Try.sizeOf3 (by decide) rfl) ?_
  refine lw_v rfl rfl (ok_ldb rfl (.n rfl) rfl Try.isAgg3 hS (by rfl)) ?_
  refine lw_v rfl rfl (ok_move rfl (.n rfl) rfl) ?_
  refine lw_v rfl rfl (ok_subi rfl (.n rfl) rfl rfl (fun _ => ⟨by omega, by omega⟩)) ?_
  refine lw_call (f := 69) (xs := [_, _]) rfl rfl rfl Try.call69 rfl (Calls.mono (f69 n.N 15 _ hN1 hN2 (by omega) (by omega)) ?_)
  rintro e w' ⟨rfl, hg⟩
  replace hS := hS.grow hg; clear hg
  refine ⟨_, rfl, ?_⟩
  refine lw_v rfl rfl (ok_eq (ok_addi rfl (.n rfl) rfl rfl (fun _ => ⟨by omega, by omega⟩)) (c' := .int .i64 (someN n).N) (fun _ => rfl)) ?_
  refine lw_v rfl rfl (ok_build rfl (.n rfl) Try.underlying24 Try.zeroValue24 pl24 rfl rfl) ?_
  refine lw_alloc rfl rfl rfl Try.zeroValue24 hS ?_
  clear hS; intro b7 w3 _ _ hS
  refine lw_stS rfl rfl rfl rfl rfl (by kernel_rfl) hS rfl (by rfl) (by rfl) ?_
  clear hS; intro w4 hS
  refine lw_nil ?_
  refine Ends.keep [(2, .eq _), (3, .eq _), (6, .eq _), (7, .eq _)] (.cons rfl (.cons rfl (.cons rfl (.cons rfl .nil)))) ?_
  refine ends_then ?_
  refine cw_seq ?_
  -- region 2
  refine cw_region ?_
  refine lw_v rfl rfl (ok_fb rfl (.n rfl) Try.underlying24 rfl Try.sizeOf3 (by decide) rfl) ?_
  refine lw_v rfl rfl (ok_ldb rfl (.n rfl) rfl Try.isAgg3 hS (by rfl)) ?_
  refine lw_v rfl rfl (ok_fb rfl (.n rfl) Try.underlying24 rfl Try.sizeOf3 (by decide) rfl) ?_
  refine lw_v rfl rfl (ok_ldb rfl (.n rfl) rfl Try.isAgg3 hS (by rfl)) ?_
  refine lw_call (f := 69) (xs := [_, _]) rfl rfl rfl Try.call69 rfl (Calls.mono (f69 n.S (someN n).N _ hS1 hS2 (by omega) (by omega)) ?_)
  rintro e w' ⟨rfl, hg⟩
  replace hS := hS.grow hg; clear hg
  refine ⟨.int .i64 (someN n).S, rfl, ?_⟩
  refine lw_v rfl rfl (ok_fb rfl (.n rfl) Try.underlying24 rfl Try.sizeOf3 (by decide) rfl) ?_
  refine lw_st rfl rfl rfl rfl rfl rfl Try.sizeOf3 hS (by rfl) ?_
  clear hS; intro w5 hS
  refine lw_nil ?_
  refine Ends.keep [(2, .eq _), (3, .eq _), (6, .eq _), (7, .eq _)] (.cons rfl (.cons rfl (.cons rfl (.cons rfl .nil)))) ?_
  refine ends_then ?_
  refine cw_seq ?_
  -- region 3
  refine cw_region ?_
  refine lw_v rfl rfl (ok_fb rfl (.n rfl) Try.underlying24 rfl Try.sizeOf3 (by decide) rfl) ?_
  refine lw_v rfl rfl (ok_ldb rfl (.n rfl) rfl Try.isAgg3 hS (by rfl)) ?_
  refine lw_v rfl rfl (ok_fb rfl (.n rfl) Try.underlying24 rfl Try.sizeOf3 (by decide) rfl) ?_
  refine lw_v rfl rfl (ok_ldb rfl (.n rfl) rfl Try.isAgg3 hS (by rfl)) ?_
  refine lw_call (f := 69) (xs := [_, _]) rfl rfl rfl Try.call69 rfl (Calls.mono (f69 n.T (someN n).N _ hT1 hT2 (by omega) (by omega)) ?_)
  rintro e w' ⟨rfl, hg⟩
  replace hS := hS.grow hg; clear hg
  refine ⟨_, rfl, ?_⟩
  refine lw_v rfl rfl (ok_fb rfl (.n rfl) Try.underlying24 rfl Try.sizeOf3 (by decide) rfl) ?_
  refine lw_st rfl rfl rfl rfl rfl rfl Try.sizeOf3 hS (by rfl) ?_
  clear hS; intro w6 hS
  refine lw_nil ?_
  refine Ends.keep [(2, .eq _), (3, .eq _), (6, .eq _), (7, .eq _)] (.cons rfl (.cons rfl (.cons rfl (.cons rfl .nil)))) ?_
  refine ends_then ?_
  refine cw_cut [(2, .eq _), (3, .eq _), (6, .eq _), (7, .eq _)] (fun _ : Unit => []) (fun _ w' => St w.heap.size w w' [bx b7 [.int .i64 (someN n).N, .int .i64 (someN n).S, .int .i64 (someN n).T, .slice none 0 0] 24, bx b6 (Value.agg #[.int .i64 0, .int .i64 0, .int .i64 0, .slice none 0 0]).cells.toList 24, bx b3 (netV n A c).cells.toList 24, sl eArc 3 A n.arcs.length c n.arcs]) (.cons rfl (.cons rfl (.cons rfl (.cons rfl .nil)))) ?_ ?_
  ·
    refine cw_seq ?_
    -- region 4
    refine cw_region ?_
    refine lw_v rfl rfl (ok_fb rfl (.n rfl) Try.underlying24 rfl Try.sizeOf3 (by decide) rfl) ?_
    refine lw_v rfl rfl (ok_ldb rfl (.n rfl) rfl Try.isAgg3 hS (by rfl)) ?_
    refine lw_v rfl rfl (ok_fb rfl (.n rfl) Try.underlying24 rfl Try.sizeOf3 (by decide) rfl) ?_
    refine lw_v rfl rfl (ok_ldb rfl (.n rfl) rfl Try.isAgg3 hS (by rfl)) ?_
    refine lw_v rfl rfl (ok_eql rfl (.n rfl) rfl rfl) ?_
    refine lw_nil ?_
    refine Ends.keep [(2, .eq _), (3, .eq _), (6, .eq _), (7, .eq _), (34, .eq _)] (.cons rfl (.cons rfl (.cons rfl (.cons rfl (.cons rfl .nil))))) ?_
    refine ends_then ?_
    refine cw_cond rfl (fun h34 => ?_) (fun h34 => ?_)
    ·
      have h34' := of_decide_eq_true h34
      -- region 5
      refine cw_region ?_
      refine lw_v rfl rfl (ok_fb rfl (.n rfl) Try.underlying24 rfl Try.sizeOf3 (by decide) rfl) ?_
      refine lw_v rfl rfl (ok_ldb rfl (.n rfl) rfl Try.isAgg3 hS (by rfl)) ?_
      refine lw_v rfl rfl (ok_addi rfl (.n rfl) rfl rfl (fun _ => ⟨by omega, by omega⟩)) ?_
      refine lw_v rfl rfl (ok_fb rfl (.n rfl) Try.underlying24 rfl Try.sizeOf3 (by decide) rfl) ?_
      refine lw_v rfl rfl (ok_ldb rfl (.n rfl) rfl Try.isAgg3 hS (by rfl)) ?_
      refine lw_v rfl rfl (ok_rem rfl (.n rfl) rfl rfl (fun _ => by omega)) ?_
      refine lw_v rfl rfl (ok_fb rfl (.n rfl) Try.underlying24 rfl Try.sizeOf3 (by decide) rfl) ?_
      refine lw_st rfl rfl rfl rfl rfl rfl Try.sizeOf3 hS (by rfl) ?_
      clear hS; intro w7 hS
      refine lw_nil ?_
      -- CUT
      refine ends_cut () (.cons rfl (.cons rfl (.cons rfl (.cons rfl .nil)))) ?_
      rw [show (someN n).T = ((someN n).S + 1).tmod (someN n).N from someT_eq h34' hSs]; exact hS
    ·
      have h34' := of_decide_eq_false h34
      refine cw_skip ?_
      -- CUT
      refine ends_cut () (.cons rfl (.cons rfl (.cons rfl (.cons rfl .nil)))) ?_
      rw [show (someN n).T = among n.T (someN n).N from if_neg h34']; exact hS
  ·
    clear hS; rintro _ wc hS
    refine cw_seq ?_
    refine cw_seq ?_
    -- region 6
    refine cw_region ?_
    refine lw_v rfl rfl (ok_fb rfl (.n rfl) Try.underlying24 rfl Try.sizeOf22 (by decide) rfl) ?_
    refine lw_v rfl rfl (ok_ldb rfl (.n rfl) rfl Try.isAgg22 hS (by rfl)) ?_
    refine lw_v rfl rfl (ok_fb rfl (.n rfl) Try.underlying24 rfl Try.sizeOf22 (by decide) rfl) ?_
    refine lw_v rfl rfl (ok_ldb rfl (.n rfl) rfl Try.isAgg22 hS (by rfl)) ?_
    refine lw_v rfl rfl (ok_len rfl (.n rfl) Try.underlying22 rfl) ?_
    refine lw_v rfl rfl (ok_move rfl (.n rfl) rfl) ?_
    refine lw_v rfl rfl (ok_min2 rfl (.n rfl) rfl rfl) ?_
    refine lw_v rfl rfl (ok_slto (k := (n.arcs.take 40).length) (enc := eArc) rfl (.n rfl) Try.underlying22 Try.sizeOf82 rfl rfl hS (takelen n.arcs)) ?_
    refine lw_v rfl rfl (ok_len rfl (.n rfl) Try.underlying22 rfl) ?_
    refine lw_v rfl rfl (ok_move rfl (.n rfl) rfl) ?_
    refine lw_nil ?_
    refine Ends.keep [(6, .eq _), (7, .eq _), (49, .eq _), (50, .eq _), (51, .eq _)] (.cons rfl (.cons rfl (.cons rfl (.cons rfl (.cons rfl .nil))))) ?_
    refine ends_then ?_
    refine cw_block ?_
    -- LOOP at region 7: changed live slots [51], kept [6, 7, 49, 50]
    refine cw_loop [(6, .eq _), (7, .eq _), (49, .eq _), (50, .eq _)] (fun k : Nat => [(51, .eq (.int .i64 k))]) (fun k w' => k ≤ (n.arcs.take 40).length ∧ ∃ A' c', St w.heap.size w w' [own eArc 3 82 A' ((someN n).arcs.take k).length c' ((someN n).arcs.take k), sl eArc 3 A (n.arcs.take 40).length c (n.arcs.take 40), bx b7 [.int .i64 (someN n).N, .int .i64 (someN n).S, .int .i64 (someN n).T, .slice A' ((someN n).arcs.take k).length c'] 24, bx b6 (Value.agg #[.int .i64 0, .int .i64 0, .int .i64 0, .slice none 0 0]).cells.toList 24, bx b3 (netV n A c).cells.toList 24, sl eArc 3 A n.arcs.length c n.arcs]) (fun k => (n.arcs.take 40).length - k) 0 (.cons rfl (.cons rfl (.cons rfl (.cons rfl .nil)))) (.cons rfl (.cons rfl (.cons rfl (.cons rfl (.cons rfl .nil))))) ⟨Nat.zero_le _, none, 0, ((takeS hS (.tail _ (.tail _ (.tail _ (.head _))))).nil eArc 3 82)⟩ ?_
    clear hS
    rintro k wr ⟨hk, A', c', hS⟩
    refine cw_seq ?_
    -- region 7
    refine cw_region ?_
    refine lw_v rfl rfl (ok_lss rfl (.n rfl) rfl rfl) ?_
    refine lw_nil ?_
    refine Ends.keep [(6, .eq _), (7, .eq _), (49, .eq _), (50, .eq _), (51, .eq _), (52, .eq _)] (.cons rfl (.cons rfl (.cons rfl (.cons rfl (.cons rfl (.cons rfl .nil)))))) ?_
    refine ends_then ?_
    refine cw_seq ?_
    refine cw_cond rfl (fun h52 => ?_) (fun h52 => ?_)
    ·
      have h40 : (n.arcs.take 40).length ≤ 40 := by rw [List.length_take]; omega
      have hlt := of_decide_eq_true h52
      have hlt' : k < (n.arcs.take 40).length := by omega
      obtain ⟨ha1, ha2, ha3, ha4, ha5, ha6⟩ := hAr _ (List.mem_of_mem_take (getD_memA (l := n.arcs.take 40) (k := (k : Int).toNat) (by omega)))
      refine cw_skip ?_
      refine ends_then ?_
      refine cw_seq ?_
      refine cw_block ?_
      refine cw_seq ?_
      -- region 8
      refine cw_region ?_
      refine lw_v rfl rfl (ok_ix rfl (.n rfl) Try.underlying22 Try.sizeOf82 rfl rfl hS (fun _ => ⟨by omega, by omega⟩)) ?_
      refine lw_v rfl rfl (ok_ldxS rfl (.n rfl) rfl Try.isAgg82 Try.sizeOf82 hS (fun _ => ⟨by omega, by omega⟩)) ?_
      refine lw_alloc rfl rfl rfl Try.zeroValue82 hS ?_
      clear hS; intro b9 w8 _ _ hS
      refine lw_stS rfl rfl rfl rfl rfl (by kernel_rfl) hS rfl (by rfl) (by rfl) ?_
      clear hS; intro w9 hS
      refine lw_nil ?_
      refine Ends.keep [(6, .eq _), (7, .eq _), (9, .eq _), (49, .eq _), (50, .eq _), (51, .eq _)] (.cons rfl (.cons rfl (.cons rfl (.cons rfl (.cons rfl (.cons rfl .nil)))))) ?_
      refine ends_then ?_
      refine cw_seq ?_
      -- region 9
      refine cw_region ?_
      refine lw_v rfl rfl (ok_fb rfl (.n rfl) Try.underlying82 rfl Try.sizeOf2 (by decide) rfl) ?_
      refine lw_v rfl rfl (ok_ldb rfl (.n rfl) rfl Try.isAgg2 hS (by rfl)) ?_
      refine lw_v rfl rfl (ok_assign rfl (.n rfl) rfl) ?_
      refine lw_nil ?_
      refine Ends.keep [(6, .eq _), (7, .eq _), (9, .eq _), (10, .eq _), (49, .eq _), (50, .eq _), (51, .eq _)] (.cons rfl (.cons rfl (.cons rfl (.cons rfl (.cons rfl (.cons rfl (.cons rfl .nil))))))) ?_
      refine ends_then ?_
      refine cw_cut [(6, .eq _), (7, .eq _), (9, .eq _), (49, .eq _), (50, .eq _), (51, .eq _)] (fun x : Int => [(10, .eq (.int .i64 x))]) (fun x w' => (x = (if ((n.arcs.take 40).getD (k : Int).toNat (0, 0, 0)).2.2 < 0 then -(((n.arcs.take 40).getD (k : Int).toNat (0, 0, 0)).2.2 + 1) else ((n.arcs.take 40).getD (k : Int).toNat (0, 0, 0)).2.2) ∧ 0 ≤ x ∧ x ≤ 9223372036854775807) ∧ St w.heap.size w w' (bx b9 (eArc ((n.arcs.take 40).getD (k : Int).toNat (0, 0, 0))).toArray.toList 82 :: [own eArc 3 82 A' ((someN n).arcs.take k).length c' ((someN n).arcs.take k), sl eArc 3 A (n.arcs.take 40).length c (n.arcs.take 40), bx b7 [.int .i64 (someN n).N, .int .i64 (someN n).S, .int .i64 (someN n).T, .slice A' ((someN n).arcs.take k).length c'] 24, bx b6 (Value.agg #[.int .i64 0, .int .i64 0, .int .i64 0, .slice none 0 0]).cells.toList 24, bx b3 (netV n A c).cells.toList 24, sl eArc 3 A n.arcs.length c n.arcs])) (.cons rfl (.cons rfl (.cons rfl (.cons rfl (.cons rfl (.cons rfl .nil)))))) ?_ ?_
      ·
        refine cw_seq ?_
        -- region 10
        refine cw_region ?_
        refine lw_v rfl rfl (ok_move rfl (.n rfl) rfl) ?_
        refine lw_v rfl rfl (ok_lss rfl (.n rfl) rfl rfl) ?_
        refine lw_nil ?_
        refine Ends.keep [(6, .eq _), (7, .eq _), (9, .eq _), (10, .eq _), (49, .eq _), (50, .eq _), (51, .eq _), (58, .eq _)] (.cons rfl (.cons rfl (.cons rfl (.cons rfl (.cons rfl (.cons rfl (.cons rfl (.cons rfl .nil)))))))) ?_
        refine ends_then ?_
        refine cw_cond rfl (fun h58 => ?_) (fun h58 => ?_)
        ·
          have h58' := of_decide_eq_true h58
          -- region 11
          refine cw_region ?_
          refine lw_v rfl rfl (ok_move rfl (.n rfl) rfl) ?_
          refine lw_v rfl rfl (ok_addi rfl (.n rfl) rfl rfl (fun _ => ⟨by omega, by omega⟩)) ?_
          refine lw_v rfl rfl (ok_neg rfl (.n rfl) rfl (fun _ => ⟨by omega, by omega⟩)) ?_
          refine lw_v rfl rfl (ok_assign rfl (.n rfl) rfl) ?_
          refine lw_nil ?_
          -- CUT
          refine ends_cut _ (.cons rfl (.cons rfl (.cons rfl (.cons rfl (.cons rfl (.cons rfl (.cons rfl .nil))))))) ⟨⟨by rw [if_pos h58'], by omega, by omega⟩, hS⟩
        ·
          have h58' := of_decide_eq_false h58
          refine cw_skip ?_
          -- CUT
          refine ends_cut _ (.cons rfl (.cons rfl (.cons rfl (.cons rfl (.cons rfl (.cons rfl (.cons rfl .nil))))))) ⟨⟨by rw [if_neg h58'], by omega, by omega⟩, hS⟩
      ·
        clear hS; rintro x wc ⟨⟨hxe, hxx0, hxx1⟩, hS⟩
        -- region 12
        refine cw_draw (by kernel_rfl) (List.take 16 _) (List.drop 16 _) (List.take_append_drop 16 _).symm (by kernel_rfl) ?_
        refine free_v (ok_fb rfl (.n rfl) Try.underlying24 rfl Try.sizeOf22 (by decide) rfl) ?_
        refine free_v (ok_ldb rfl (.n rfl) rfl Try.isAgg22 hS (by rfl)) ?_
        refine free_v (ok_fb rfl (.n rfl) Try.underlying82 rfl Try.sizeOf3 (by decide) rfl) ?_
        refine free_v (ok_ldb rfl (.n rfl) rfl Try.isAgg3 hS (by rfl)) ?_
        refine free_v (ok_fb rfl (.n rfl) Try.underlying24 rfl Try.sizeOf3 (by decide) rfl) ?_
        refine free_v (ok_ldb rfl (.n rfl) rfl Try.isAgg3 hS (by rfl)) ?_
        refine free_cons (ok_callv (.int .i64 (among ((n.arcs.take 40).getD (k : Int).toNat (0, 0, 0)).1 (someN n).N)) rfl rfl Try.call69 rfl (fun w _ => f69 _ _ w (by omega) (by omega) (by omega) (by omega))) ?_
        refine free_v (ok_fb rfl (.n rfl) Try.underlying82 rfl Try.sizeOf3 (by decide) rfl) ?_
        refine free_v (ok_ldb rfl (.n rfl) rfl Try.isAgg3 hS (by rfl)) ?_
        refine free_v (ok_fb rfl (.n rfl) Try.underlying24 rfl Try.sizeOf3 (by decide) rfl) ?_
        refine free_v (ok_ldb rfl (.n rfl) rfl Try.isAgg3 hS (by rfl)) ?_
        refine free_cons (ok_callv (.int .i64 (among ((n.arcs.take 40).getD (k : Int).toNat (0, 0, 0)).2.1 (someN n).N)) rfl rfl Try.call69 rfl (fun w _ => f69 _ _ w (by omega) (by omega) (by omega) (by omega))) ?_
        refine free_v (ok_move rfl (.n rfl) rfl) ?_
        refine free_v (ok_eq (ok_rem rfl (.n rfl) rfl rfl (fun _ => by omega)) (c' := .int .i64 (capOf ((n.arcs.take 40).getD (k : Int).toNat (0, 0, 0)).2.2)) (fun _ => congrArg (Value.int .i64) (capeq hxe hxx0))) ?_
        refine free_v (ok_build rfl (.n rfl) Try.underlying82 Try.zeroValue82 pl82 rfl rfl) ?_
        refine free_cons (ok_ls (enc := eArc) [(among ((n.arcs.take 40).getD (k : Int).toNat (0, 0, 0)).1 (someN n).N, among ((n.arcs.take 40).getD (k : Int).toNat (0, 0, 0)).2.1 (someN n).N, capOf ((n.arcs.take 40).getD (k : Int).toNat (0, 0, 0)).2.2)] rfl rfl Try.underlying22 Try.sizeOf82 Try.zeroValue82 rfl (by kernel_rfl) rfl (by decide) (by decide)) ?_
        refine free_nil ?_
        intro w10 hg_
        refine LW.opened (s := 77) rfl ?_
        rintro _ ⟨A77, c77, rfl, ho_, hf_⟩; replace hS := hS.new hg_ _ ho_ hf_; clear ho_ hf_ hg_
        refine lw_append (enc := eArc) rfl rfl rfl Try.underlying22 info82 rfl rfl rfl hS (by decide) (by have := aklen n k; omega) (by have := aklen n k; omega) ?_
        intro A78 c78 w11 hS1; replace hS := hS1 _ (Rep.r); clear hS1
        refine lw_v rfl rfl (ok_fb rfl (.n rfl) Try.underlying24 rfl Try.sizeOf22 (by decide) rfl) ?_
        refine lw_st rfl rfl rfl rfl rfl rfl Try.sizeOf22 hS (by rfl) ?_
        clear hS; intro w12 hS
        refine lw_nil ?_
        refine in_normal (?_)
        refine Ends.keep [(6, .eq _), (7, .eq _), (49, .eq _), (50, .eq _), (51, .eq _)] (.cons rfl (.cons rfl (.cons rfl (.cons rfl (.cons rfl .nil))))) ?_
        refine ends_then ?_
        -- region 13
        refine cw_region ?_
        refine lw_v rfl rfl (ok_addi rfl (.n rfl) rfl rfl (fun _ => ⟨by omega, by omega⟩)) ?_
        refine lw_v rfl rfl (ok_move rfl (.n rfl) rfl) ?_
        refine lw_nil ?_
        -- BACK
        rw [some_step hlt'] at hS
        refine ends_back (k + 1) (.cons rfl (.cons rfl (.cons rfl (.cons rfl (.cons rfl .nil))))) ⟨by omega, A78, c78, (hS.swap.tail).tail⟩ (by omega)
    ·
      refine cw_exit ?_
      refine then_exit (then_exit (in_exit (?_)))
      refine Ends.keep [(6, .eq _), (7, .eq _)] (.cons rfl (.cons rfl .nil)) ?_
      refine ends_then ?_
      refine cw_seq ?_
      -- region 14
      refine cw_region ?_
      refine lw_v rfl rfl (ok_ldS rfl (.n rfl) rfl Try.isAgg24 Try.sizeOf24 hS rfl) ?_
      refine lw_stS rfl rfl rfl rfl rfl (by kernel_rfl) hS rfl (by rfl) (by rfl) ?_
      clear hS; intro w13 hS
      refine lw_nil ?_
      refine Ends.keep [(6, .eq _)] (.cons rfl .nil) ?_
      refine ends_then ?_
      refine cw_ret ?_
      rw [someAll n (by have := of_decide_eq_false h52; omega)] at hS
      exact end_ret (resS Try.results24 rfl Try.isAgg24 Try.sizeOf24 hS rfl) ⟨A', c', rfl, hS.below, fun b hb => hS.ge _ (.head _) rfl b hb, hS.ok _ (.head _)⟩

end Go.Proofs.Ytnpgeohkmdcbkaa.Aq
