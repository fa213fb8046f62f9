/- The walk of acequialow.Within. -/
import Derived.Test.YtnpgeohkmdcbkaaEng8
import Derived.Test.YtnpgeohkmdcbkaaA1
namespace Go.Proofs.Ytnpgeohkmdcbkaa.Aq
open Go Go.RowKit

def withinTo (n : Nt) (l : List Int) (k : Nat) : List Int := (List.range n.arcs.length).map fun i => if i < k then withinAt l i (n.arcs.getD i (0, 0, 0)) else 0
theorem within0 (n : Nt) (l : List Int) : withinTo n l 0 = List.replicate n.arcs.length 0 := by
  unfold withinTo
  simp [List.map_const']
theorem within_end (n : Nt) (l : List Int) : withinTo n l n.arcs.length = withinL n l := by
  unfold withinTo withinL
  refine List.ext_getElem (by simp) fun i h1 h2 => ?_
  have hi : i < n.arcs.length := by simpa using h1
  simp [hi, List.getD_eq_getElem?_getD]
theorem within_test {l : List Int} {k : Nat} {a b : Int} (h : (decide ((l.length : Int) ≤ k) || decide (a = b)) = false) : k < l.length ∧ a ≠ b := by
  simp at h
  exact ⟨by omega, h.2⟩
theorem getD_mem {l : List Int} {k : Nat} (h : k < l.length) : l.getD k 0 ∈ l := by
  simp [List.getD_eq_getElem?_getD, h]
theorem within_skip {n : Nt} {l : List Int} {k : Nat} (h : (decide ((l.length : Int) ≤ k) || decide ((n.arcs.getD (k : Int).toNat (0, 0, 0)).1 = (n.arcs.getD (k : Int).toNat (0, 0, 0)).2.1)) = true) : withinTo n l k = withinTo n l (k + 1) := by
  unfold withinTo
  refine List.map_congr_left fun i hi => ?_
  by_cases h1 : i < k
  · rw [if_pos h1, if_pos (by omega)]
  · by_cases h2 : i = k
    · subst h2
      rw [if_neg (by omega), if_pos (by omega)]
      unfold withinAt
      rw [if_pos]
      simp only [Bool.or_eq_true, decide_eq_true_eq, Int.toNat_natCast] at h
      exact h.imp (fun h => by omega) id
    · rw [if_neg h1, if_neg (by omega)]
theorem within_step {n : Nt} {l : List Int} {k : Nat} {x : Int} (hk : k < n.arcs.length) (hl : k < l.length) (hne : (n.arcs.getD (k : Int).toNat (0, 0, 0)).1 ≠ (n.arcs.getD (k : Int).toNat (0, 0, 0)).2.1)
    (hx : x = (if l.getD (k : Int).toNat 0 < 0 then -(l.getD (k : Int).toNat 0 + 1) else l.getD (k : Int).toNat 0)) (h0 : 0 ≤ x) (hc : 0 ≤ (n.arcs.getD (k : Int).toNat (0, 0, 0)).2.2) :
    (withinTo n l k).set (k : Int).toNat (if (n.arcs.getD (k : Int).toNat (0, 0, 0)).2.2 < x.tmod ((n.arcs.getD (k : Int).toNat (0, 0, 0)).2.2 + 1) then (n.arcs.getD (k : Int).toNat (0, 0, 0)).2.2 else x.tmod ((n.arcs.getD (k : Int).toNat (0, 0, 0)).2.2 + 1)) = withinTo n l (k + 1) := by
  rw [Int.tmod_eq_emod_of_nonneg h0]
  have hm := Int.emod_lt_of_pos x (show 0 < (n.arcs.getD (k : Int).toNat (0, 0, 0)).2.2 + 1 by omega)
  rw [if_neg (by omega)]
  rw [Int.toNat_natCast] at *
  unfold withinTo
  refine List.ext_getElem (by simp) fun i h1 h2 => ?_
  have hi : i < n.arcs.length := by simpa using h2
  rw [List.getElem_set]
  by_cases hik : k = i
  · subst hik
    simp only [List.getElem_map, List.getElem_range, if_true]
    rw [if_pos (by omega)]
    unfold withinAt
    rw [if_neg (by intro h; rcases h with h | h; omega; exact hne h), ← hx]
  · rw [if_neg hik]
    simp only [List.getElem_map, List.getElem_range]
    by_cases h3 : i < k
    · rw [if_pos h3, if_pos (by omega)]
    · rw [if_neg h3, if_neg (by omega)]
set_option maxRecDepth 10000 in
/-- acequialow.Within: of a right net, and any numbers. -/
theorem f68 (n : Nt) (A : Option Addr) (c : Nat) (l : List Int) (A1 : Option Addr) (c1 : Nat) (w : World) (hok : NetOk n) (ha : (sl eArc 3 A n.arcs.length c n.arcs).p w) (hl : (sl (eInt .i64) 1 A1 l.length c1 l).p w) (hrng : ∀ x ∈ l, -9223372036854775808 ≤ x ∧ x ≤ 9223372036854775807) :
    Calls Try.prog 68 #[netV n A c, .slice A1 l.length c1] w fun e w' => ∃ A5 c5, e = .returned (.slice A5 n.arcs.length c5) ∧ Gr w w' ∧ (∀ b, (own (eInt .i64) 1 2 A5 n.arcs.length c5 (withinL n l)).fp b → w.heap.size ≤ b) ∧ (own (eInt .i64) 1 2 A5 n.arcs.length c5 (withinL n l)).p w' := by
  refine calls_cw Try.func68 rfl Try.ntmps68 rfl ?_
  have hS := ((St.start w).arg _ ha rfl (fun b hb => (sl eArc 3 A n.arcs.length c n.arcs).lt ha hb)).arg _ hl rfl (fun b hb => (sl (eInt .i64) 1 A1 l.length c1 l).lt hl hb)
  have hln := hok.len
  have hll := hl.2.1
  refine cw_seq ?_
  -- region 0
  refine cw_region ?_
  refine lw_box rfl rfl rfl rfl hS ?_
  clear hS; intro b2 w1 _ _ hS
  refine lw_v rfl rfl (ok_assign rfl (.n rfl) rfl) ?_
  refine lw_nil ?_
  refine Ends.keep [(1, .eq _), (2, .eq _)] (.cons rfl (.cons rfl .nil)) ?_
  refine ends_then ?_
  refine cw_seq ?_
  -- region 1
  refine cw_region ?_
  refine lw_v rfl rfl (ok_fb rfl (.n rfl) Try.underlying24 rfl Try.sizeOf22 (by decide) rfl) ?_
  refine lw_v rfl rfl (ok_ldb rfl (.n rfl) rfl Try.isAgg22 hS (by rfl)) ?_
  refine lw_v rfl rfl (ok_len rfl (.n rfl) Try.underlying22 rfl) ?_
  refine lw_make (enc := (eInt .i64)) rfl rfl rfl Try.underlying25 info2 rfl rfl rfl rfl (by omega) (by omega) hS ?_
  clear hS; intro A5 c5 w2 _ hS
  refine lw_v rfl rfl (ok_assign rfl (.n rfl) rfl) ?_
  refine lw_nil ?_
  refine Ends.keep [(1, .eq _), (2, .eq _), (5, .eq _)] (.cons rfl (.cons rfl (.cons rfl .nil))) ?_
  refine ends_then ?_
  refine cw_seq ?_
  refine cw_seq ?_
  -- region 2
  refine cw_region ?_
  refine lw_v rfl rfl (ok_fb rfl (.n rfl) Try.underlying24 rfl Try.sizeOf22 (by decide) rfl) ?_
  refine lw_v rfl rfl (ok_ldb rfl (.n rfl) rfl Try.isAgg22 hS (by rfl)) ?_
  refine lw_v rfl rfl (ok_len rfl (.n rfl) Try.underlying22 rfl) ?_
  refine lw_v rfl rfl (ok_move rfl (.n rfl) rfl) ?_
  refine lw_nil ?_
  refine Ends.keep [(1, .eq _), (5, .eq _), (14, .eq _), (15, .eq _), (16, .eq _)] (.cons rfl (.cons rfl (.cons rfl (.cons rfl (.cons rfl .nil))))) ?_
  refine ends_then ?_
  refine cw_block ?_
  -- LOOP at region 3: changed live slots [16], kept [1, 5, 14, 15]
  refine cw_loop [(1, .eq _), (5, .eq _), (14, .eq _), (15, .eq _)] (fun k : Nat => [(16, .eq (.int .i64 k))]) (fun k w' => k ≤ n.arcs.length ∧ St w.heap.size w w' [own (eInt .i64) 1 2 A5 n.arcs.length c5 (withinTo n l k), bx b2 (netV n A c).cells.toList 24, sl (eInt .i64) 1 A1 l.length c1 l, sl eArc 3 A n.arcs.length c n.arcs]) (fun k => n.arcs.length - k) 0 (.cons rfl (.cons rfl (.cons rfl (.cons rfl .nil)))) (.cons rfl (.cons rfl (.cons rfl (.cons rfl (.cons rfl .nil))))) ⟨Nat.zero_le _, by rw [within0 n l]; exact hS⟩ ?_
  clear hS
  rintro k wr ⟨hk, hS⟩
  refine cw_seq ?_
  -- region 3
  refine cw_region ?_
  refine lw_v rfl rfl (ok_lss rfl (.n rfl) rfl rfl) ?_
  refine lw_nil ?_
  refine Ends.keep [(1, .eq _), (5, .eq _), (14, .eq _), (15, .eq _), (16, .eq _), (17, .eq _)] (.cons rfl (.cons rfl (.cons rfl (.cons rfl (.cons rfl (.cons rfl .nil)))))) ?_
  refine ends_then ?_
  refine cw_seq ?_
  refine cw_cond rfl (fun h17 => ?_) (fun h17 => ?_)
  ·
    have hlt : k < n.arcs.length := by simpa using h17
    have hcap := arc_cap hok (k := (k : Int).toNat) (by omega)
    refine cw_skip ?_
    refine ends_then ?_
    refine cw_seq ?_
    refine cw_block ?_
    refine cw_seq ?_
    -- region 4
    refine cw_region ?_
    refine lw_v rfl rfl (ok_move rfl (.n rfl) rfl) ?_
    refine lw_v rfl rfl (ok_ix rfl (.n rfl) Try.underlying22 Try.sizeOf82 rfl rfl hS (fun _ => ⟨by omega, by omega⟩)) ?_
    refine lw_v rfl rfl (ok_ldxS rfl (.n rfl) rfl Try.isAgg82 Try.sizeOf82 hS (fun _ => ⟨by omega, by omega⟩)) ?_
    refine lw_alloc rfl rfl rfl Try.zeroValue82 hS ?_
    clear hS; intro b7 w3 _ _ hS
    refine lw_v rfl rfl (ok_assign rfl (.n rfl) rfl) ?_
    refine lw_stS rfl rfl rfl rfl rfl (by kernel_rfl) hS rfl (by rfl) (by rfl) ?_
    clear hS; intro w4 hS
    refine lw_nil ?_
    refine Ends.keep [(1, .eq _), (5, .eq _), (6, .eq _), (7, .eq _), (14, .eq _), (15, .eq _), (16, .eq _)] (.cons rfl (.cons rfl (.cons rfl (.cons rfl (.cons rfl (.cons rfl (.cons rfl .nil))))))) ?_
    refine ends_then ?_
    refine cw_seq ?_
    refine cw_seq ?_
    -- region 5
    refine cw_region ?_
    refine lw_v rfl rfl (ok_move rfl (.n rfl) rfl) ?_
    refine lw_v rfl rfl (ok_move rfl (.n rfl) rfl) ?_
    refine lw_v rfl rfl (ok_len rfl (.n rfl) Try.underlying25 rfl) ?_
    refine lw_v rfl rfl (ok_geq rfl (.n rfl) rfl rfl) ?_
    refine lw_v rfl rfl (ok_move rfl (.n rfl) rfl) ?_
    refine lw_v rfl rfl (ok_fb rfl (.s rfl rfl) Try.underlying82 rfl Try.sizeOf3 (by decide) rfl) ?_
    refine lw_v rfl rfl (ok_ldb rfl (.s rfl rfl) rfl Try.isAgg3 hS (by rfl)) ?_
    refine lw_v rfl rfl (ok_fb rfl (.s rfl rfl) Try.underlying82 rfl Try.sizeOf3 (by decide) rfl) ?_
    refine lw_v rfl rfl (ok_ldb rfl (.s rfl rfl) rfl Try.isAgg3 hS (by rfl)) ?_
    refine lw_v rfl rfl (ok_eql rfl (.s rfl rfl) rfl rfl) ?_
    refine lw_v rfl rfl (ok_or rfl rfl rfl rfl) ?_
    refine lw_nil ?_
    refine Ends.keep [(1, .eq _), (5, .eq _), (6, .eq _), (7, .eq _), (14, .eq _), (15, .eq _), (16, .eq _), (31, .eq _)] (.cons rfl (.cons rfl (.cons rfl (.cons rfl (.cons rfl (.cons rfl (.cons rfl (.cons rfl .nil)))))))) ?_
    refine ends_then ?_
    refine cw_cond rfl (fun h31 => ?_) (fun h31 => ?_)
    ·
      refine cw_exit ?_
      refine then_exit (in_exit (?_))
      refine Ends.keep [(1, .eq _), (5, .eq _), (14, .eq _), (15, .eq _), (16, .eq _)] (.cons rfl (.cons rfl (.cons rfl (.cons rfl (.cons rfl .nil))))) ?_
      refine ends_then ?_
      -- region 12
      refine cw_region ?_
      refine lw_v rfl rfl (ok_addi rfl (.n rfl) rfl rfl (fun _ => ⟨by omega, by omega⟩)) ?_
      refine lw_v rfl rfl (ok_move rfl (.n rfl) rfl) ?_
      refine lw_nil ?_
      -- BACK
      refine ends_back (k + 1) (.cons rfl (.cons rfl (.cons rfl (.cons rfl (.cons rfl .nil))))) ⟨by omega, by rw [← within_skip h31]; exact hS.tail⟩ (by omega)
    ·
      obtain ⟨hkl, hft⟩ := within_test h31
      obtain ⟨hx0, hx1⟩ := hrng _ (getD_mem (k := (k : Int).toNat) (by omega))
      refine cw_skip ?_
      refine ends_then ?_
      refine cw_seq ?_
      -- region 6
      refine cw_region ?_
      refine lw_v rfl rfl (ok_move rfl (.n rfl) rfl) ?_
      refine lw_v rfl rfl (ok_move rfl (.n rfl) rfl) ?_
      refine lw_v rfl rfl (ok_ix rfl (.n rfl) Try.underlying25 Try.sizeOf2 rfl rfl hS (fun _ => ⟨by omega, by omega⟩)) ?_
      refine lw_v rfl rfl (ok_ldx rfl (.n rfl) rfl Try.isAgg2 hS (fun _ => ⟨by omega, by omega⟩) (by rfl)) ?_
      refine lw_v rfl rfl (ok_assign rfl (.n rfl) rfl) ?_
      refine lw_nil ?_
      refine Ends.keep [(1, .eq _), (5, .eq _), (6, .eq _), (7, .eq _), (8, .eq _), (14, .eq _), (15, .eq _), (16, .eq _)] (.cons rfl (.cons rfl (.cons rfl (.cons rfl (.cons rfl (.cons rfl (.cons rfl (.cons rfl .nil)))))))) ?_
      refine ends_then ?_
      refine cw_cut [(1, .eq _), (5, .eq _), (6, .eq _), (7, .eq _), (14, .eq _), (15, .eq _), (16, .eq _)] (fun x : Int => [(8, .eq (.int .i64 x))]) (fun x w' => (x = (if l.getD (k : Int).toNat 0 < 0 then -(l.getD (k : Int).toNat 0 + 1) else l.getD (k : Int).toNat 0) ∧ 0 ≤ x ∧ x ≤ 9223372036854775807) ∧ St w.heap.size w w' (bx b7 (eArc (n.arcs.getD (k : Int).toNat (0, 0, 0))).toArray.toList 82 :: [own (eInt .i64) 1 2 A5 n.arcs.length c5 (withinTo n l k), bx b2 (netV n A c).cells.toList 24, sl (eInt .i64) 1 A1 l.length c1 l, sl eArc 3 A n.arcs.length c n.arcs])) (.cons rfl (.cons rfl (.cons rfl (.cons rfl (.cons rfl (.cons rfl (.cons rfl .nil))))))) ?_ ?_
      ·
        refine cw_seq ?_
        -- region 7
        refine cw_region ?_
        refine lw_v rfl rfl (ok_move rfl (.n rfl) rfl) ?_
        refine lw_v rfl rfl (ok_lss rfl (.n rfl) rfl rfl) ?_
        refine lw_nil ?_
        refine Ends.keep [(1, .eq _), (5, .eq _), (6, .eq _), (7, .eq _), (8, .eq _), (14, .eq _), (15, .eq _), (16, .eq _), (37, .eq _)] (.cons rfl (.cons rfl (.cons rfl (.cons rfl (.cons rfl (.cons rfl (.cons rfl (.cons rfl (.cons rfl .nil))))))))) ?_
        refine ends_then ?_
        refine cw_cond rfl (fun h37 => ?_) (fun h37 => ?_)
        ·
          have h37' := of_decide_eq_true h37
          -- region 8
          refine cw_region ?_
          refine lw_v rfl rfl (ok_move rfl (.n rfl) rfl) ?_
          refine lw_v rfl rfl (ok_addi rfl (.n rfl) rfl rfl (fun _ => ⟨by omega, by omega⟩)) ?_
          refine lw_v rfl rfl (ok_neg rfl (.n rfl) rfl (fun _ => ⟨by omega, by omega⟩)) ?_
          refine lw_v rfl rfl (ok_assign rfl (.n rfl) rfl) ?_
          refine lw_nil ?_
          -- CUT
          refine ends_cut _ (.cons rfl (.cons rfl (.cons rfl (.cons rfl (.cons rfl (.cons rfl (.cons rfl (.cons rfl .nil)))))))) ⟨⟨by rw [if_pos h37'], by omega, by omega⟩, hS⟩
        ·
          have h37' := of_decide_eq_false h37
          refine cw_skip ?_
          -- CUT
          refine ends_cut _ (.cons rfl (.cons rfl (.cons rfl (.cons rfl (.cons rfl (.cons rfl (.cons rfl (.cons rfl .nil)))))))) ⟨⟨by rw [if_neg h37'], by omega, by omega⟩, hS⟩
      ·
        clear hS; rintro x wc ⟨⟨hxe, hxx0, hxx1⟩, hS⟩
        refine cw_seq ?_
        refine cw_seq ?_
        -- region 9
        refine cw_region ?_
        refine lw_v rfl rfl (ok_fb rfl (.n rfl) Try.underlying82 rfl Try.sizeOf2 (by decide) rfl) ?_
        refine lw_v rfl rfl (ok_ldb rfl (.n rfl) rfl Try.isAgg2 hS (by rfl)) ?_
        refine lw_v rfl rfl (ok_lss rfl (.n rfl) rfl rfl) ?_
        refine lw_nil ?_
        refine Ends.keep [(1, .eq _), (5, .eq _), (6, .eq _), (7, .eq _), (8, .eq _), (14, .eq _), (15, .eq _), (16, .eq _), (43, .eq _)] (.cons rfl (.cons rfl (.cons rfl (.cons rfl (.cons rfl (.cons rfl (.cons rfl (.cons rfl (.cons rfl .nil))))))))) ?_
        refine ends_then ?_
        refine cw_cond rfl (fun h43 => ?_) (fun h43 => ?_)
        ·
          -- region 10
          refine cw_region ?_
          refine lw_v rfl rfl (ok_move rfl (.n rfl) rfl) ?_
          refine lw_v rfl rfl (ok_fb rfl (.n rfl) Try.underlying82 rfl Try.sizeOf2 (by decide) rfl) ?_
          refine lw_v rfl rfl (ok_ldb rfl (.n rfl) rfl Try.isAgg2 hS (by rfl)) ?_
          refine lw_v rfl rfl (ok_addi rfl (.n rfl) rfl rfl (fun _ => ⟨by omega, by omega⟩)) ?_
          refine lw_v rfl rfl (ok_rem rfl (.n rfl) rfl rfl (fun _ => by omega)) ?_
          refine lw_v rfl rfl (ok_assign rfl (.n rfl) rfl) ?_
          refine lw_nil ?_
          refine Ends.keep [(1, .eq _), (5, .eq _), (6, .eq _), (7, .eq _), (8, .eq _), (14, .eq _), (15, .eq _), (16, .eq _)] (.cons rfl (.cons rfl (.cons rfl (.cons rfl (.cons rfl (.cons rfl (.cons rfl (.cons rfl .nil)))))))) ?_
          refine ends_then ?_
          -- region 11
          refine cw_region ?_
          refine lw_v rfl rfl (ok_move rfl (.n rfl) rfl) ?_
          refine lw_v rfl rfl (ok_move rfl (.n rfl) rfl) ?_
          refine lw_v rfl rfl (ok_move rfl (.n rfl) rfl) ?_
          refine lw_v rfl rfl (ok_fb rfl (.n rfl) Try.underlying82 rfl Try.sizeOf2 (by decide) rfl) ?_
          refine lw_v rfl rfl (ok_ldb rfl (.n rfl) rfl Try.isAgg2 hS (by rfl)) ?_
          refine lw_v rfl rfl (ok_min2 rfl (.n rfl) rfl rfl) ?_
          refine lw_v rfl rfl (ok_ix rfl (.n rfl) Try.underlying25 Try.sizeOf2 rfl rfl hS (fun _ => ⟨by omega, by omega⟩)) ?_
          refine lw_stx (enc := (eInt .i64)) (_) rfl rfl rfl rfl rfl rfl Try.sizeOf2 hS (⟨by omega, by omega⟩) ?_
          clear hS; intro w5 hS
          refine lw_nil ?_
          refine in_normal (?_)
          refine Ends.keep [(1, .eq _), (5, .eq _), (14, .eq _), (15, .eq _), (16, .eq _)] (.cons rfl (.cons rfl (.cons rfl (.cons rfl (.cons rfl .nil))))) ?_
          refine ends_then ?_
          -- region 12
          refine cw_region ?_
          refine lw_v rfl rfl (ok_addi rfl (.n rfl) rfl rfl (fun _ => ⟨by omega, by omega⟩)) ?_
          refine lw_v rfl rfl (ok_move rfl (.n rfl) rfl) ?_
          refine lw_nil ?_
          -- BACK
          refine ends_back (k + 1) (.cons rfl (.cons rfl (.cons rfl (.cons rfl (.cons rfl .nil))))) ⟨by omega, by rw [← within_step hlt hkl hft hxe hxx0 hcap.1]; exact hS.tail⟩ (by omega)
        ·
          exact absurd (of_decide_eq_false h43) (by omega)
  ·
    refine cw_exit ?_
    refine then_exit (then_exit (in_exit (?_)))
    refine Ends.keep [(5, .eq _)] (.cons rfl .nil) ?_
    refine ends_then ?_
    refine cw_seq ?_
    -- region 13
    refine cw_region ?_
    refine lw_v rfl rfl (ok_move rfl (.n rfl) rfl) ?_
    refine lw_v rfl rfl (ok_assign rfl (.n rfl) rfl) ?_
    refine lw_nil ?_
    refine Ends.keep [(4, .eq _)] (.cons rfl .nil) ?_
    refine ends_then ?_
    refine cw_ret ?_
    exact end_ret (res1 Try.results68 rfl) ⟨A5, c5, rfl, hS.below, fun b hb => (hS.ge _ (.head _) rfl b hb), by rw [show withinL n l = withinTo n l k by rw [show k = n.arcs.length by have := of_decide_eq_false h17; omega, within_end]]; exact hS.ok _ (.head _)⟩

end Go.Proofs.Ytnpgeohkmdcbkaa.Aq
