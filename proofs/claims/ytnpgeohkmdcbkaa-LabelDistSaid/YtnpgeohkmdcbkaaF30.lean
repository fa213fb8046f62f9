/- acequialow.Ints: two lists that are read: are they the same? -/
import Derived.Test.YtnpgeohkmdcbkaaEng6
namespace Go.Proofs.Ytnpgeohkmdcbkaa.Aq
open Go Go.RowKit

theorem ints_step {xs ys : List Int} {k : Nat} (h : xs.take k = ys.take k) (h1 : k < xs.length) (h2 : k < ys.length) (e : (!decide (xs.getD k 0 = ys.getD k 0)) = false) : xs.take (k + 1) = ys.take (k + 1) := by
  rw [List.take_succ_eq_append_getElem h1, List.take_succ_eq_append_getElem h2, h]
  simp [List.getD_eq_getElem?_getD, h1, h2] at e
  rw [e]
theorem ints_len {xs ys : List Int} (h : (!decide ((xs.length : Int) = ys.length)) = true) : decide (xs = ys) = false := by
  simp at h
  simp
  intro e
  subst e
  exact h rfl
theorem ints_diff {xs ys : List Int} {k : Nat} (h1 : k < xs.length) (h2 : k < ys.length) (e : (!decide (xs.getD k 0 = ys.getD k 0)) = true) : decide (xs = ys) = false := by
  simp
  intro h
  subst h
  simp at e
theorem ints_same {xs ys : List Int} {k : Nat} (hl : xs.length = ys.length) (h : xs.take k = ys.take k) (h1 : xs.length ≤ k) (h2 : k ≤ xs.length) : decide (xs = ys) = true := by
  simp
  rw [List.take_of_length_le h1, List.take_of_length_le (by omega)] at h
  exact h
set_option maxRecDepth 10000 in
/-- acequialow.Ints: are two lists the same? -/
theorem f30 (A1 : Option Addr) (c1 : Nat) (xs : List Int) (A2 : Option Addr) (c2 : Nat) (ys : List Int) (w : World) (h1 : (sl (eInt .i64) 1 A1 xs.length c1 xs).p w) (h2 : (sl (eInt .i64) 1 A2 ys.length c2 ys).p w) :
    Calls Try.prog 30 #[.slice A1 xs.length c1, .slice A2 ys.length c2] w fun e w' => e = .returned (.bool (decide (xs = ys))) ∧ Gr w w' := by
  refine calls_cw Try.func30 rfl Try.ntmps30 rfl ?_
  have hS := ((St.start w).arg _ h1 rfl (fun b hb => (sl (eInt .i64) 1 A1 xs.length c1 xs).lt h1 hb)).arg _ h2 rfl (fun b hb => (sl (eInt .i64) 1 A2 ys.length c2 ys).lt h2 hb)
  refine cw_seq ?_
  -- region 0
  refine cw_region ?_
  refine lw_v rfl rfl (ok_assign rfl (.n rfl) rfl) ?_
  refine lw_nil ?_
  refine Ends.keep [(0, .eq _), (1, .eq _)] (.cons rfl (.cons rfl .nil)) ?_
  refine ends_then ?_
  refine cw_seq ?_
  refine cw_seq ?_
  -- region 1
  refine cw_region ?_
  refine lw_v rfl rfl (ok_move rfl (.n rfl) rfl) ?_
  refine lw_v rfl rfl (ok_len rfl (.n rfl) Try.underlying26 rfl) ?_
  refine lw_v rfl rfl (ok_move rfl (.n rfl) rfl) ?_
  refine lw_v rfl rfl (ok_len rfl (.n rfl) Try.underlying26 rfl) ?_
  refine lw_v rfl rfl (ok_neq rfl (.n rfl) rfl rfl) ?_
  refine lw_nil ?_
  refine Ends.keep [(0, .eq _), (1, .eq _), (10, .eq _)] (.cons rfl (.cons rfl (.cons rfl .nil))) ?_
  refine ends_then ?_
  refine cw_cond rfl (fun h10 => ?_) (fun h10 => ?_)
  ·
    refine cw_seq ?_
    -- region 2
    refine cw_region ?_
    refine lw_v rfl rfl (ok_assign rfl (.n rfl) rfl) ?_
    refine lw_nil ?_
    refine Ends.keep [(4, .eq _)] (.cons rfl .nil) ?_
    refine ends_then ?_
    refine cw_ret ?_
    refine then_ret (?_)
    exact end_ret (res1 Try.results30 rfl) ⟨by exact congrArg (fun b => Ending.returned (.bool b)) (ints_len h10).symm, hS.below⟩
  ·
    have hlen : xs.length = ys.length := by simp at h10; omega
    have hb1 := h1.2.1
    refine cw_skip ?_
    refine ends_then ?_
    refine cw_seq ?_
    refine cw_seq ?_
    -- region 3
    refine cw_region ?_
    refine lw_v rfl rfl (ok_move rfl (.n rfl) rfl) ?_
    refine lw_v rfl rfl (ok_len rfl (.n rfl) Try.underlying26 rfl) ?_
    refine lw_v rfl rfl (ok_move rfl (.n rfl) rfl) ?_
    refine lw_nil ?_
    refine Ends.keep [(0, .eq _), (1, .eq _), (12, .eq _), (13, .eq _)] (.cons rfl (.cons rfl (.cons rfl (.cons rfl .nil)))) ?_
    refine ends_then ?_
    refine cw_block ?_
    -- LOOP at region 4: changed live slots [13], kept [0, 1, 12]
    refine cw_loop [(0, .eq _), (1, .eq _), (12, .eq _)] (fun k : Nat => [(13, .eq (.int .i64 k))]) (fun k w' => (k ≤ xs.length ∧ xs.take k = ys.take k) ∧ St w.heap.size w w' [sl (eInt .i64) 1 A2 ys.length c2 ys, sl (eInt .i64) 1 A1 xs.length c1 xs]) (fun k => xs.length - k) 0 (.cons rfl (.cons rfl (.cons rfl .nil))) (.cons rfl (.cons rfl (.cons rfl (.cons rfl .nil)))) ⟨⟨Nat.zero_le _, rfl⟩, hS⟩ ?_
    clear hS
    rintro k wr ⟨⟨hk, hpre⟩, hS⟩
    refine cw_seq ?_
    -- region 4
    refine cw_region ?_
    refine lw_v rfl rfl (ok_lss rfl (.n rfl) rfl rfl) ?_
    refine lw_nil ?_
    refine Ends.keep [(0, .eq _), (1, .eq _), (12, .eq _), (13, .eq _), (14, .eq _)] (.cons rfl (.cons rfl (.cons rfl (.cons rfl (.cons rfl .nil))))) ?_
    refine ends_then ?_
    refine cw_seq ?_
    refine cw_cond rfl (fun h14 => ?_) (fun h14 => ?_)
    ·
      have hlt : k < xs.length := by simpa using h14
      refine cw_skip ?_
      refine ends_then ?_
      refine cw_seq ?_
      refine cw_block ?_
      refine cw_seq ?_
      -- region 5
      refine cw_region ?_
      refine lw_v rfl rfl (ok_move rfl (.n rfl) rfl) ?_
      refine lw_v rfl rfl (ok_assign rfl (.n rfl) rfl) ?_
      refine lw_nil ?_
      refine Ends.keep [(0, .eq _), (1, .eq _), (5, .eq _), (12, .eq _), (13, .eq _)] (.cons rfl (.cons rfl (.cons rfl (.cons rfl (.cons rfl .nil))))) ?_
      refine ends_then ?_
      refine cw_seq ?_
      -- region 6
      refine cw_draw (by kernel_rfl) (List.take 8 _) (List.drop 8 _) (List.take_append_drop 8 _).symm (by kernel_rfl) ?_
      refine free_v (ok_move rfl (.n rfl) rfl) ?_
      refine free_v (ok_move rfl (.n rfl) rfl) ?_
      refine free_v (ok_ix rfl (.n rfl) Try.underlying26 Try.sizeOf3 rfl rfl hS (fun _ => ⟨by omega, by omega⟩)) ?_
      refine free_v (ok_ldx rfl (.n rfl) rfl Try.isAgg3 hS (fun _ => ⟨by omega, by omega⟩) (by rfl)) ?_
      refine free_v (ok_move rfl (.n rfl) rfl) ?_
      refine free_v (ok_move rfl (.n rfl) rfl) ?_
      refine free_v (ok_ix rfl (.n rfl) Try.underlying26 Try.sizeOf3 rfl rfl hS (fun _ => ⟨by omega, by omega⟩)) ?_
      refine free_v (ok_ldx rfl (.n rfl) rfl Try.isAgg3 hS (fun _ => ⟨by omega, by omega⟩) (by rfl)) ?_
      refine free_nil ?_
      intro w1 hg_; replace hS := hS.grow hg_; clear hg_
      refine lw_v rfl rfl (ok_neq rfl (.n rfl) rfl rfl) ?_
      refine lw_nil ?_
      refine Ends.keep [(0, .eq _), (1, .eq _), (12, .eq _), (13, .eq _), (24, .eq _)] (.cons rfl (.cons rfl (.cons rfl (.cons rfl (.cons rfl .nil))))) ?_
      refine ends_then ?_
      refine cw_cond rfl (fun h24 => ?_) (fun h24 => ?_)
      ·
        refine cw_seq ?_
        -- region 7
        refine cw_region ?_
        refine lw_v rfl rfl (ok_assign rfl (.n rfl) rfl) ?_
        refine lw_nil ?_
        refine Ends.keep [(4, .eq _)] (.cons rfl .nil) ?_
        refine ends_then ?_
        refine cw_ret ?_
        refine in_ret (then_ret (then_ret (in_ret (then_ret (?_)))))
        exact end_ret (res1 Try.results30 rfl) ⟨by exact congrArg (fun b => Ending.returned (.bool b)) (ints_diff (by omega) (by omega) h24).symm, hS.below⟩
      ·
        refine cw_skip ?_
        refine in_normal (?_)
        refine ends_then ?_
        -- region 8
        refine cw_region ?_
        refine lw_v rfl rfl (ok_addi rfl (.n rfl) rfl rfl (fun _ => ⟨by omega, by omega⟩)) ?_
        refine lw_v rfl rfl (ok_move rfl (.n rfl) rfl) ?_
        refine lw_nil ?_
        -- BACK
        refine ends_back (k + 1) (.cons rfl (.cons rfl (.cons rfl (.cons rfl .nil)))) ⟨⟨by omega, ints_step hpre (by omega) (by omega) h24⟩, hS⟩ (by omega)
    ·
      refine cw_exit ?_
      refine then_exit (then_exit (in_exit (?_)))
      refine Ends.keep [] .nil ?_
      refine ends_then ?_
      refine cw_seq ?_
      -- region 9
      refine cw_region ?_
      refine lw_v rfl rfl (ok_assign rfl (.n rfl) rfl) ?_
      refine lw_nil ?_
      refine Ends.keep [(4, .eq _)] (.cons rfl .nil) ?_
      refine ends_then ?_
      refine cw_ret ?_
      exact end_ret (res1 Try.results30 rfl) ⟨by exact congrArg (fun b => Ending.returned (.bool b)) (ints_same hlen hpre (by simpa using h14) hk).symm, hS.below⟩

end Go.Proofs.Ytnpgeohkmdcbkaa.Aq
