/- The walk of acequialaw06.Heights. -/
import Derived.Test.YtnpgeohkmdcbkaaEng9
import Derived.Test.YtnpgeohkmdcbkaaA1
import Derived.Test.YtnpgeohkmdcbkaaCsr
namespace Go.Proofs.Ytnpgeohkmdcbkaa.Aq
open Go Go.RowKit

def heightsTo (N : Nat) (l : List Int) (k : Nat) : List Int := (List.range N).map fun i => if i < k ∧ i < l.length then among (l.getD i 0) (N + 1) else 0
/-- Heights of a row, out of any numbers. -/
def heightsF (c : Cs) (l : List Int) : List Int := ((heightsTo c.N l c.N).set (c.T : Int).toNat 0).set (c.S : Int).toNat c.N
theorem heightsTo0 (N : Nat) (l : List Int) : heightsTo N l 0 = List.replicate N 0 := by
  unfold heightsTo
  simp [List.map_const']
theorem heights_skip {N : Nat} {l : List Int} {k : Nat} (h : l.length ≤ k) : heightsTo N l k = heightsTo N l (k + 1) := by
  unfold heightsTo
  refine List.map_congr_left fun i _ => ?_
  by_cases hi : i < l.length
  · rw [if_pos ⟨by omega, hi⟩, if_pos ⟨by omega, hi⟩]
  · rw [if_neg (fun h => hi h.2), if_neg (fun h => hi h.2)]
theorem heights_step {N : Nat} {l : List Int} {k : Nat} (hk : k < N) (h : (k : Int) < l.length) : (heightsTo N l k).set (k : Int).toNat (among (l.getD (k : Int).toNat 0) (N + 1)) = heightsTo N l (k + 1) := by
  rw [Int.toNat_natCast]
  unfold heightsTo
  refine List.ext_getElem (by simp) fun i h1 h2 => ?_
  rw [List.getElem_set]
  by_cases hik : k = i
  · subst hik
    simp only [List.getElem_map, List.getElem_range, if_true]
    rw [if_pos ⟨by omega, by omega⟩]
  · rw [if_neg hik]
    simp only [List.getElem_map, List.getElem_range]
    by_cases h3 : i < k ∧ i < l.length
    · rw [if_pos h3, if_pos ⟨by omega, h3.2⟩]
    · rw [if_neg h3, if_neg (fun h => h3 ⟨by omega, h.2⟩)]
theorem getD_memI {l : List Int} {k : Nat} (h : k < l.length) : l.getD k 0 ∈ l := by
  simp [List.getD_eq_getElem?_getD, h]

set_option maxRecDepth 10000 in
/-- acequialaw06.Heights. -/
theorem f25 (c : Cs) (q : Q6) (l : List Int) (A1 : Option Addr) (c1 : Nat) (w : World) (hwf : WF c) (hl : (sl (eInt .i64) 1 A1 l.length c1 l).p w) (hrng : ∀ x ∈ l, -9223372036854775808 ≤ x ∧ x ≤ 9223372036854775807) :
    Calls Try.prog 25 #[csV c q, .slice A1 l.length c1] w fun e w' => ∃ A9 c9, e = .returned (.slice A9 c.N c9) ∧ Gr w w' ∧ (∀ b, (own (eInt .i64) 1 3 A9 c.N c9 (heightsF c l)).fp b → w.heap.size ≤ b) ∧ (own (eInt .i64) 1 3 A9 c.N c9 (heightsF c l)).p w' := by
  refine calls_cw Try.func25 rfl Try.ntmps25 rfl ?_
  have hS := (St.start w).arg _ hl rfl (fun b hb => (sl (eInt .i64) 1 A1 l.length c1 l).lt hl hb)
  obtain ⟨hlo, hhi, hs, ht, hne, _⟩ := id hwf
  have hll := hl.2.1
  refine cw_seq ?_
  -- region 0
  refine cw_region ?_
  refine lw_box rfl rfl rfl rfl hS ?_
  clear hS; intro b2 w1 _ _ hS
  refine lw_v rfl rfl (ok_assign rfl (.n rfl) rfl) ?_
  refine lw_nil ?_
  refine Ends.keep [(1, .eq _), (2, .eq _)] (.cons rfl (.cons rfl .nil)) ?_
  refine ends_then ?_
  refine cw_seq ?_
  -- region 1
  refine cw_region ?_
  refine lw_v rfl rfl (ok_fb rfl (.n rfl) Try.underlying29 rfl Try.sizeOf3 (by decide) rfl) ?_
  refine lw_v rfl rfl (ok_ldb rfl (.n rfl) rfl Try.isAgg3 hS (by rfl)) ?_
  refine lw_make (enc := (eInt .i64)) rfl rfl rfl Try.underlying26 info3 rfl rfl rfl rfl (by omega) (by omega) hS ?_
  clear hS; intro A9 c9 w2 _ hS
  refine lw_v rfl rfl (ok_assign rfl (.n rfl) rfl) ?_
  refine lw_nil ?_
  refine Ends.keep [(1, .eq _), (2, .eq _), (5, .eq _)] (.cons rfl (.cons rfl (.cons rfl .nil))) ?_
  refine ends_then ?_
  refine cw_seq ?_
  refine cw_seq ?_
  -- region 2
  refine cw_region ?_
  refine lw_v rfl rfl (ok_move rfl (.n rfl) rfl) ?_
  refine lw_v rfl rfl (ok_len rfl (.n rfl) Try.underlying26 rfl) ?_
  refine lw_v rfl rfl (ok_move rfl (.n rfl) rfl) ?_
  refine lw_nil ?_
  refine Ends.keep [(1, .eq _), (2, .eq _), (5, .eq _), (11, .eq _), (12, .eq _)] (.cons rfl (.cons rfl (.cons rfl (.cons rfl (.cons rfl .nil))))) ?_
  refine ends_then ?_
  refine cw_block ?_
  -- LOOP at region 3: changed live slots [12], kept [1, 2, 5, 11]
  refine cw_loop [(1, .eq _), (2, .eq _), (5, .eq _), (11, .eq _)] (fun k : Nat => [(12, .eq (.int .i64 k))]) (fun k w' => k ≤ c.N ∧ St w.heap.size w w' [own (eInt .i64) 1 3 A9 c.N c9 (heightsTo c.N l k), bx b2 (csV c q).cells.toList 29, sl (eInt .i64) 1 A1 l.length c1 l]) (fun k => c.N - k) 0 (.cons rfl (.cons rfl (.cons rfl (.cons rfl .nil)))) (.cons rfl (.cons rfl (.cons rfl (.cons rfl (.cons rfl .nil))))) ⟨Nat.zero_le _, by rw [heightsTo0]; exact hS⟩ ?_
  clear hS
  rintro k wr ⟨hk, hS⟩
  refine cw_seq ?_
  -- region 3
  refine cw_region ?_
  refine lw_v rfl rfl (ok_lss rfl (.n rfl) rfl rfl) ?_
  refine lw_nil ?_
  refine Ends.keep [(1, .eq _), (2, .eq _), (5, .eq _), (11, .eq _), (12, .eq _), (13, .eq _)] (.cons rfl (.cons rfl (.cons rfl (.cons rfl (.cons rfl (.cons rfl .nil)))))) ?_
  refine ends_then ?_
  refine cw_seq ?_
  refine cw_cond rfl (fun h13 => ?_) (fun h13 => ?_)
  ·
    have hlt := of_decide_eq_true h13
    refine cw_skip ?_
    refine ends_then ?_
    refine cw_seq ?_
    refine cw_block ?_
    refine cw_seq ?_
    -- region 4
    refine cw_region ?_
    refine lw_v rfl rfl (ok_move rfl (.n rfl) rfl) ?_
    refine lw_v rfl rfl (ok_assign rfl (.n rfl) rfl) ?_
    refine lw_nil ?_
    refine Ends.keep [(1, .eq _), (2, .eq _), (5, .eq _), (6, .eq _), (11, .eq _), (12, .eq _)] (.cons rfl (.cons rfl (.cons rfl (.cons rfl (.cons rfl (.cons rfl .nil)))))) ?_
    refine ends_then ?_
    refine cw_seq ?_
    -- region 5
    refine cw_region ?_
    refine lw_v rfl rfl (ok_move rfl (.n rfl) rfl) ?_
    refine lw_v rfl rfl (ok_move rfl (.n rfl) rfl) ?_
    refine lw_v rfl rfl (ok_len rfl (.n rfl) Try.underlying26 rfl) ?_
    refine lw_v rfl rfl (ok_lss rfl (.n rfl) rfl rfl) ?_
    refine lw_nil ?_
    refine Ends.keep [(1, .eq _), (2, .eq _), (5, .eq _), (6, .eq _), (11, .eq _), (12, .eq _), (18, .eq _)] (.cons rfl (.cons rfl (.cons rfl (.cons rfl (.cons rfl (.cons rfl (.cons rfl .nil))))))) ?_
    refine ends_then ?_
    refine cw_cond rfl (fun h18 => ?_) (fun h18 => ?_)
    ·
      have h18' := of_decide_eq_true h18
      obtain ⟨hx0, hx1⟩ := hrng _ (getD_memI (l := l) (k := (k : Int).toNat) (by omega))
      -- region 6
      refine cw_draw (by kernel_rfl) (List.take 10 _) (List.drop 10 _) (List.take_append_drop 10 _).symm (by kernel_rfl) ?_
      refine free_v (ok_move rfl (.n rfl) rfl) ?_
      refine free_v (ok_move rfl (.n rfl) rfl) ?_
      refine free_v (ok_move rfl (.n rfl) rfl) ?_
      refine free_v (ok_move rfl (.n rfl) rfl) ?_
      refine free_v (ok_ix rfl (.n rfl) Try.underlying26 Try.sizeOf3 rfl rfl hS (fun _ => ⟨by omega, by omega⟩)) ?_
      refine free_v (ok_ldx rfl (.n rfl) rfl Try.isAgg3 hS (fun _ => ⟨by omega, by omega⟩) (by rfl)) ?_
      refine free_v (ok_fb rfl (.n rfl) Try.underlying29 rfl Try.sizeOf3 (by decide) rfl) ?_
      refine free_v (ok_ldb rfl (.n rfl) rfl Try.isAgg3 hS (by rfl)) ?_
      refine free_v (ok_addi rfl (.n rfl) rfl rfl (fun _ => ⟨by omega, by omega⟩)) ?_
      refine free_cons (ok_callv (.int .i64 (among (l.getD (k : Int).toNat 0) (c.N + 1))) rfl rfl Try.call69 rfl (fun w _ => f69 _ _ w (by omega) (by omega) (by omega) (by omega))) ?_
      refine free_nil ?_
      intro w3 hg_; replace hS := hS.grow hg_; clear hg_
      refine lw_v rfl rfl (ok_ix rfl (.n rfl) Try.underlying26 Try.sizeOf3 rfl rfl hS (fun _ => ⟨by omega, by omega⟩)) ?_
      refine lw_stx (enc := (eInt .i64)) (_) rfl rfl rfl rfl rfl rfl Try.sizeOf3 hS (⟨by omega, by omega⟩) ?_
      clear hS; intro w4 hS
      refine lw_nil ?_
      refine in_normal (?_)
      refine Ends.keep [(1, .eq _), (2, .eq _), (5, .eq _), (11, .eq _), (12, .eq _)] (.cons rfl (.cons rfl (.cons rfl (.cons rfl (.cons rfl .nil))))) ?_
      refine ends_then ?_
      -- region 7
      refine cw_region ?_
      refine lw_v rfl rfl (ok_addi rfl (.n rfl) rfl rfl (fun _ => ⟨by omega, by omega⟩)) ?_
      refine lw_v rfl rfl (ok_move rfl (.n rfl) rfl) ?_
      refine lw_nil ?_
      -- BACK
      refine ends_back (k + 1) (.cons rfl (.cons rfl (.cons rfl (.cons rfl (.cons rfl .nil))))) ⟨by omega, by rw [← heights_step (by omega) h18']; exact hS⟩ (by omega)
    ·
      have h18' := of_decide_eq_false h18
      refine cw_skip ?_
      refine in_normal (?_)
      refine ends_then ?_
      -- region 7
      refine cw_region ?_
      refine lw_v rfl rfl (ok_addi rfl (.n rfl) rfl rfl (fun _ => ⟨by omega, by omega⟩)) ?_
      refine lw_v rfl rfl (ok_move rfl (.n rfl) rfl) ?_
      refine lw_nil ?_
      -- BACK
      refine ends_back (k + 1) (.cons rfl (.cons rfl (.cons rfl (.cons rfl (.cons rfl .nil))))) ⟨by omega, by rw [← heights_skip (by omega)]; exact hS⟩ (by omega)
  ·
    have hkN : k = c.N := by have := of_decide_eq_false h13; omega
    refine cw_exit ?_
    refine then_exit (then_exit (in_exit (?_)))
    refine Ends.keep [(2, .eq _), (5, .eq _)] (.cons rfl (.cons rfl .nil)) ?_
    refine ends_then ?_
    refine cw_seq ?_
    -- region 8
    refine cw_draw2 (by kernel_rfl) (List.take 10 _) (List.drop 10 _) [false, false, false, false, false, false, false, false, false, true] (List.take_append_drop 10 _).symm (by kernel_rfl) (fun w' => ∃ xs, St w.heap.size w w' [own (eInt .i64) 1 3 A9 c.N c9 (xs), bx b2 (csV c q).cells.toList 29, sl (eInt .i64) 1 A1 l.length c1 l]) (fun vs w' => match vs with | [] => St w.heap.size w w' [own (eInt .i64) 1 3 A9 c.N c9 (heightsTo c.N l k), bx b2 (csV c q).cells.toList 29, sl (eInt .i64) 1 A1 l.length c1 l] | [_] => St w.heap.size w w' [own (eInt .i64) 1 3 A9 c.N c9 ((heightsTo c.N l k).set (c.T : Int).toNat 0), bx b2 (csV c q).cells.toList 29, sl (eInt .i64) 1 A1 l.length c1 l] | _ => False) (fun vs w' h => match vs, h with | [], h => ⟨_, h⟩ | [_], h => ⟨_, h⟩) hS.drew ?_
    refine free2_v (ok_each ⟨_, hS⟩ (fun w_ ⟨xs, hS⟩ => ok_move rfl (.n rfl) rfl)) rfl ?_
    refine free2_v (ok_each ⟨_, hS⟩ (fun w_ ⟨xs, hS⟩ => ok_fb rfl (.n rfl) Try.underlying29 rfl Try.sizeOf3 (by decide) rfl)) rfl ?_
    refine free2_v (ok_each ⟨_, hS⟩ (fun w_ ⟨xs, hS⟩ => ok_ldb rfl (.n rfl) rfl Try.isAgg3 hS (by rfl))) rfl ?_
    refine free2_v (ok_each ⟨_, hS⟩ (fun w_ ⟨xs, hS⟩ => ok_move rfl (.n rfl) rfl)) rfl ?_
    refine free2_v (ok_each ⟨_, hS⟩ (fun w_ ⟨xs, hS⟩ => ok_fb rfl (.n rfl) Try.underlying29 rfl Try.sizeOf3 (by decide) rfl)) rfl ?_
    refine free2_v (ok_each ⟨_, hS⟩ (fun w_ ⟨xs, hS⟩ => ok_ldb rfl (.n rfl) rfl Try.isAgg3 hS (by rfl))) rfl ?_
    refine free2_v (ok_each ⟨_, hS⟩ (fun w_ ⟨xs, hS⟩ => ok_fb rfl (.n rfl) Try.underlying29 rfl Try.sizeOf3 (by decide) rfl)) rfl ?_
    refine free2_v (ok_each ⟨_, hS⟩ (fun w_ ⟨xs, hS⟩ => ok_ldb rfl (.n rfl) rfl Try.isAgg3 hS (by rfl))) rfl ?_
    refine free2_v (ok_each ⟨_, hS⟩ (fun w_ ⟨xs, hS⟩ => ok_ix rfl (.n rfl) Try.underlying26 Try.sizeOf3 rfl rfl hS (fun _ => ⟨by omega, by omega⟩))) rfl ?_
    refine free2_w ?_ ?_
    ·
      intro vs wq hv hP
      obtain rfl : vs = [] := List.eq_nil_of_length_eq_zero hv
      have hS9 : St w.heap.size w wq [own (eInt .i64) 1 3 A9 c.N c9 (heightsTo c.N l k), bx b2 (csV c q).cells.toList 29, sl (eInt .i64) 1 A1 l.length c1 l] := hP
      refine lw_stx (enc := (eInt .i64)) (0) rfl rfl rfl rfl rfl rfl Try.sizeOf3 hS9 ⟨by omega, by omega⟩ ?_
      intro w9 hS10
      exact lw_nil fun a ha _ _ => ⟨rfl, ha, hS10⟩
    refine free2_nil ?_
    clear hS
    intro vs wq hv hP
    obtain ⟨v0, rfl⟩ : ∃ v, vs = [v] := List.length_eq_one_iff.1 hv
    have hS : St w.heap.size w wq [own (eInt .i64) 1 3 A9 c.N c9 ((heightsTo c.N l k).set (c.T : Int).toNat 0), bx b2 (csV c q).cells.toList 29, sl (eInt .i64) 1 A1 l.length c1 l] := hP
    clear hP hv
    refine lw_v rfl rfl (ok_ix rfl (.n rfl) Try.underlying26 Try.sizeOf3 rfl rfl hS (fun _ => ⟨by omega, by omega⟩)) ?_
    refine lw_stx (enc := (eInt .i64)) (_) rfl rfl rfl rfl rfl rfl Try.sizeOf3 hS (⟨by omega, by omega⟩) ?_
    clear hS; intro w5 hS
    refine lw_nil ?_
    refine Ends.keep [(5, .eq _)] (.cons rfl .nil) ?_
    refine ends_then ?_
    refine cw_seq ?_
    -- region 9
    refine cw_region ?_
    refine lw_v rfl rfl (ok_move rfl (.n rfl) rfl) ?_
    refine lw_v rfl rfl (ok_assign rfl (.n rfl) rfl) ?_
    refine lw_nil ?_
    refine Ends.keep [(4, .eq _)] (.cons rfl .nil) ?_
    refine ends_then ?_
    refine cw_ret ?_
    rw [hkN] at hS
    exact end_ret (res1 Try.results25 rfl) ⟨A9, c9, rfl, hS.below, fun b hb => hS.ge _ (.head _) rfl b hb, hS.ok _ (.head _)⟩

theorem heightsF_len (c : Cs) (l : List Int) : (heightsF c l).length = c.N := by simp [heightsF, heightsTo]
/-- The same, told by the length. -/
theorem f25' (c : Cs) (q : Q6) (l : List Int) (A1 : Option Addr) (c1 : Nat) (w : World) (hwf : WF c) (hl : (sl (eInt .i64) 1 A1 l.length c1 l).p w) (hrng : ∀ x ∈ l, -9223372036854775808 ≤ x ∧ x ≤ 9223372036854775807) :
    Calls Try.prog 25 #[csV c q, .slice A1 l.length c1] w fun e w' => ∃ A9 c9, e = .returned (.slice A9 (heightsF c l).length c9) ∧ Gr w w' ∧ (∀ b, (own (eInt .i64) 1 3 A9 (heightsF c l).length c9 (heightsF c l)).fp b → w.heap.size ≤ b) ∧ (own (eInt .i64) 1 3 A9 (heightsF c l).length c9 (heightsF c l)).p w' :=
  (f25 c q l A1 c1 w hwf hl hrng).mono fun e w' ⟨A9, c9, he, hg, hf, ho⟩ => ⟨A9, c9, by rw [heightsF_len]; exact he, hg, by rw [heightsF_len]; exact hf, by rw [heightsF_len]; exact ho⟩

end Go.Proofs.Ytnpgeohkmdcbkaa.Aq
