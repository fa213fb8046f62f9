/- The walks of slices.Repeat and of math/bits.Mul, of what is small. -/
import Derived.Test.YtnpgeohkmdcbkaaEng14
import Derived.Test.YtnpgeohkmdcbkaaLawK
namespace Go.Proofs.Ytnpgeohkmdcbkaa.Aq
open Go Go.RowKit

set_option maxRecDepth 10000 in
/-- math/bits.Mul64 of 1 and a small number. -/
theorem f113 (m : Nat) (hm : m ≤ 4294967295) (w : World) : RetV 113 [.int .u64 1, .int .u64 m] w (.tuple #[.int .u64 0, .int .u64 m]) := by
  refine calls_cw Try.func113 rfl Try.ntmps113 rfl ?_
  refine cw_seq ?_
  -- region 0
  refine cw_region ?_
  refine lw_v rfl rfl (ok_assign rfl (.n rfl) rfl) ?_
  refine lw_v rfl rfl (ok_assign rfl (.n rfl) rfl) ?_
  refine lw_nil ?_
  refine Ends.keep [(0, .eq _), (1, .eq _)] (.cons rfl (.cons rfl .nil)) ?_
  refine ends_then ?_
  refine cw_seq ?_
  -- region 1
  refine cw_region ?_
  refine lw_v rfl rfl (ok_move rfl (.n rfl) rfl) ?_
  refine lw_v rfl rfl (ok_lowu rfl (.n rfl) rfl rfl (by omega)) ?_
  refine lw_v rfl rfl (ok_assign rfl (.n rfl) rfl) ?_
  refine lw_nil ?_
  refine Ends.keep [(0, .eq _), (1, .eq _), (6, .eq _)] (.cons rfl (.cons rfl (.cons rfl .nil))) ?_
  refine ends_then ?_
  refine cw_seq ?_
  -- region 2
  refine cw_region ?_
  refine lw_v rfl rfl (ok_move rfl (.n rfl) rfl) ?_
  refine lw_v rfl rfl (ok_highu rfl (.n rfl) rfl rfl (by omega)) ?_
  refine lw_v rfl rfl (ok_assign rfl (.n rfl) rfl) ?_
  refine lw_nil ?_
  refine Ends.keep [(0, .eq _), (1, .eq _), (6, .eq _), (7, .eq _)] (.cons rfl (.cons rfl (.cons rfl (.cons rfl .nil)))) ?_
  refine ends_then ?_
  refine cw_seq ?_
  -- region 3
  refine cw_region ?_
  refine lw_v rfl rfl (ok_move rfl (.n rfl) rfl) ?_
  refine lw_v rfl rfl (ok_lowu rfl (.n rfl) rfl rfl (by omega)) ?_
  refine lw_v rfl rfl (ok_assign rfl (.n rfl) rfl) ?_
  refine lw_nil ?_
  refine Ends.keep [(0, .eq _), (1, .eq _), (6, .eq _), (7, .eq _), (8, .eq _)] (.cons rfl (.cons rfl (.cons rfl (.cons rfl (.cons rfl .nil))))) ?_
  refine ends_then ?_
  refine cw_seq ?_
  -- region 4
  refine cw_region ?_
  refine lw_v rfl rfl (ok_move rfl (.n rfl) rfl) ?_
  refine lw_v rfl rfl (ok_highu rfl (.n rfl) rfl rfl (by omega)) ?_
  refine lw_v rfl rfl (ok_assign rfl (.n rfl) rfl) ?_
  refine lw_nil ?_
  refine Ends.keep [(0, .eq _), (1, .eq _), (6, .eq _), (7, .eq _), (8, .eq _), (9, .eq _)] (.cons rfl (.cons rfl (.cons rfl (.cons rfl (.cons rfl (.cons rfl .nil)))))) ?_
  refine ends_then ?_
  refine cw_seq ?_
  -- region 5
  refine cw_region ?_
  refine lw_v rfl rfl (ok_move rfl (.n rfl) rfl) ?_
  refine lw_v rfl rfl (ok_move rfl (.n rfl) rfl) ?_
  refine lw_v rfl rfl (ok_eq (ok_mul rfl (.n rfl) rfl rfl) (c' := .int .u64 m) (fun _ => congrArg (Value.int .u64) (by rw [wrap_u (by omega)]; omega))) ?_
  refine lw_v rfl rfl (ok_assign rfl (.n rfl) rfl) ?_
  refine lw_nil ?_
  refine Ends.keep [(0, .eq _), (1, .eq _), (6, .eq _), (7, .eq _), (8, .eq _), (9, .eq _), (10, .eq _)] (.cons rfl (.cons rfl (.cons rfl (.cons rfl (.cons rfl (.cons rfl (.cons rfl .nil))))))) ?_
  refine ends_then ?_
  refine cw_seq ?_
  -- region 6
  refine cw_region ?_
  refine lw_v rfl rfl (ok_move rfl (.n rfl) rfl) ?_
  refine lw_v rfl rfl (ok_move rfl (.n rfl) rfl) ?_
  refine lw_v rfl rfl (ok_eq (ok_mul rfl (.n rfl) rfl rfl) (c' := .int .u64 0) (fun _ => congrArg (Value.int .u64) (by rw [wrap_u (by omega)]; omega))) ?_
  refine lw_v rfl rfl (ok_move rfl (.n rfl) rfl) ?_
  refine lw_v rfl rfl (ok_highu rfl (.n rfl) rfl rfl (by omega)) ?_
  refine lw_v rfl rfl (ok_eq (ok_add rfl (.n rfl) rfl rfl) (c' := .int .u64 0) (fun _ => congrArg (Value.int .u64) (by rw [wrap_u (by omega)]; omega))) ?_
  refine lw_v rfl rfl (ok_assign rfl (.n rfl) rfl) ?_
  refine lw_nil ?_
  refine Ends.keep [(0, .eq _), (1, .eq _), (6, .eq _), (7, .eq _), (9, .eq _), (11, .eq _)] (.cons rfl (.cons rfl (.cons rfl (.cons rfl (.cons rfl (.cons rfl .nil)))))) ?_
  refine ends_then ?_
  refine cw_seq ?_
  -- region 7
  refine cw_region ?_
  refine lw_v rfl rfl (ok_move rfl (.n rfl) rfl) ?_
  refine lw_v rfl rfl (ok_lowu rfl (.n rfl) rfl rfl (by omega)) ?_
  refine lw_v rfl rfl (ok_assign rfl (.n rfl) rfl) ?_
  refine lw_nil ?_
  refine Ends.keep [(0, .eq _), (1, .eq _), (6, .eq _), (7, .eq _), (9, .eq _), (11, .eq _), (12, .eq _)] (.cons rfl (.cons rfl (.cons rfl (.cons rfl (.cons rfl (.cons rfl (.cons rfl .nil))))))) ?_
  refine ends_then ?_
  refine cw_seq ?_
  -- region 8
  refine cw_region ?_
  refine lw_v rfl rfl (ok_move rfl (.n rfl) rfl) ?_
  refine lw_v rfl rfl (ok_highu rfl (.n rfl) rfl rfl (by omega)) ?_
  refine lw_v rfl rfl (ok_assign rfl (.n rfl) rfl) ?_
  refine lw_nil ?_
  refine Ends.keep [(0, .eq _), (1, .eq _), (6, .eq _), (7, .eq _), (9, .eq _), (12, .eq _), (13, .eq _)] (.cons rfl (.cons rfl (.cons rfl (.cons rfl (.cons rfl (.cons rfl (.cons rfl .nil))))))) ?_
  refine ends_then ?_
  refine cw_seq ?_
  -- region 9
  refine cw_region ?_
  refine lw_v rfl rfl (ok_move rfl (.n rfl) rfl) ?_
  refine lw_v rfl rfl (ok_move rfl (.n rfl) rfl) ?_
  refine lw_v rfl rfl (ok_move rfl (.n rfl) rfl) ?_
  refine lw_v rfl rfl (ok_eq (ok_mul rfl (.n rfl) rfl rfl) (c' := .int .u64 0) (fun _ => congrArg (Value.int .u64) (by rw [wrap_u (by omega)]; omega))) ?_
  refine lw_v rfl rfl (ok_eq (ok_add rfl (.n rfl) rfl rfl) (c' := .int .u64 0) (fun _ => congrArg (Value.int .u64) (by rw [wrap_u (by omega)]; omega))) ?_
  refine lw_v rfl rfl (ok_assign rfl (.n rfl) rfl) ?_
  refine lw_nil ?_
  refine Ends.keep [(0, .eq _), (1, .eq _), (7, .eq _), (9, .eq _), (12, .eq _), (13, .eq _)] (.cons rfl (.cons rfl (.cons rfl (.cons rfl (.cons rfl (.cons rfl .nil)))))) ?_
  refine ends_then ?_
  refine cw_seq ?_
  -- region 10
  refine cw_region ?_
  refine lw_v rfl rfl (ok_move rfl (.n rfl) rfl) ?_
  refine lw_v rfl rfl (ok_move rfl (.n rfl) rfl) ?_
  refine lw_v rfl rfl (ok_eq (ok_mul rfl (.n rfl) rfl rfl) (c' := .int .u64 0) (fun _ => congrArg (Value.int .u64) (by rw [wrap_u (by omega)]; omega))) ?_
  refine lw_v rfl rfl (ok_move rfl (.n rfl) rfl) ?_
  refine lw_v rfl rfl (ok_eq (ok_add rfl (.n rfl) rfl rfl) (c' := .int .u64 0) (fun _ => congrArg (Value.int .u64) (by rw [wrap_u (by omega)]; omega))) ?_
  refine lw_v rfl rfl (ok_move rfl (.n rfl) rfl) ?_
  refine lw_v rfl rfl (ok_highu rfl (.n rfl) rfl rfl (by omega)) ?_
  refine lw_v rfl rfl (ok_eq (ok_add rfl (.n rfl) rfl rfl) (c' := .int .u64 0) (fun _ => congrArg (Value.int .u64) (by rw [wrap_u (by omega)]; omega))) ?_
  refine lw_v rfl rfl (ok_assign rfl (.n rfl) rfl) ?_
  refine lw_nil ?_
  refine Ends.keep [(0, .eq _), (1, .eq _), (4, .eq _)] (.cons rfl (.cons rfl (.cons rfl .nil))) ?_
  refine ends_then ?_
  refine cw_seq ?_
  -- region 11
  refine cw_region ?_
  refine lw_v rfl rfl (ok_move rfl (.n rfl) rfl) ?_
  refine lw_v rfl rfl (ok_move rfl (.n rfl) rfl) ?_
  refine lw_v rfl rfl (ok_eq (ok_mul rfl (.n rfl) rfl rfl) (c' := .int .u64 m) (fun _ => congrArg (Value.int .u64) (by rw [wrap_u (by omega)]; omega))) ?_
  refine lw_v rfl rfl (ok_assign rfl (.n rfl) rfl) ?_
  refine lw_nil ?_
  refine Ends.keep [(4, .eq _), (5, .eq _)] (.cons rfl (.cons rfl .nil)) ?_
  refine ends_then ?_
  refine cw_ret ?_
  exact end_ret (res2 Try.results113 rfl rfl) ⟨rfl, Gr.refl _⟩

set_option maxRecDepth 10000 in
/-- math/bits.Mul of 1 and a small number. -/
theorem f100 (m : Nat) (hm : m ≤ 4294967295) (w : World) : RetV 100 [.int .u64 1, .int .u64 m] w (.tuple #[.int .u64 0, .int .u64 m]) := by
  refine calls_cw Try.func100 rfl Try.ntmps100 rfl ?_
  have hS := St.start w
  refine cw_seq ?_
  -- region 0
  refine cw_region ?_
  refine lw_v rfl rfl (ok_assign rfl (.n rfl) rfl) ?_
  refine lw_v rfl rfl (ok_assign rfl (.n rfl) rfl) ?_
  refine lw_nil ?_
  refine Ends.keep [(0, .eq _), (1, .eq _)] (.cons rfl (.cons rfl .nil)) ?_
  refine ends_then ?_
  refine cw_seq ?_
  refine cw_cond rfl (fun hcb_ => ?_) (fun hcb_ => ?_)
  ·
    cases hcb_
  ·
    refine cw_skip ?_
    refine ends_then ?_
    refine cw_seq ?_
    -- region 3
    refine cw_region ?_
    refine lw_v rfl rfl (ok_move rfl (.n rfl) rfl) ?_
    refine lw_v rfl rfl (ok_move rfl (.n rfl) rfl) ?_
    refine lw_call (f := 113) (xs := [_, _]) rfl rfl rfl Try.call113 rfl (Calls.mono (f113 m hm _) ?_)
    rintro e w' ⟨rfl, hg⟩
    replace hS := hS.grow hg; clear hg
    refine ⟨_, rfl, ?_⟩
    refine lw_v rfl rfl (ok_move rfl (.n rfl) rfl) ?_
    refine lw_v rfl rfl (ok_extract rfl (.n rfl) rfl rfl) ?_
    refine lw_v rfl rfl (ok_extract rfl (.n rfl) rfl rfl) ?_
    refine lw_v rfl rfl (ok_assign rfl (.n rfl) rfl) ?_
    refine lw_v rfl rfl (ok_assign rfl (.n rfl) rfl) ?_
    refine lw_nil ?_
    refine Ends.keep [(8, .eq _), (9, .eq _)] (.cons rfl (.cons rfl .nil)) ?_
    refine ends_then ?_
    refine cw_seq ?_
    -- region 4
    refine cw_region ?_
    refine lw_v rfl rfl (ok_move rfl (.n rfl) rfl) ?_
    refine lw_v rfl rfl (ok_move rfl (.n rfl) rfl) ?_
    refine lw_v rfl rfl (ok_assign rfl (.n rfl) rfl) ?_
    refine lw_v rfl rfl (ok_assign rfl (.n rfl) rfl) ?_
    refine lw_nil ?_
    refine Ends.keep [(4, .eq _), (5, .eq _)] (.cons rfl (.cons rfl .nil)) ?_
    refine ends_then ?_
    refine cw_ret ?_
    exact end_ret (res2 Try.results100 rfl rfl) ⟨rfl, hS.below⟩

theorem size3 : (Try.prog.info? 3).map (·.size) = some 1 := by kernel_rfl
/-- The first k of m are v, the others 0. -/
def repTo (v : Int) (m k : Nat) : List Int := List.replicate k v ++ List.replicate (m - k) 0
theorem repTo_end (v : Int) (m : Nat) : repTo v m m = List.replicate m v := by simp [repTo]
theorem repTo_step (v : Int) {m k : Nat} (h : k ≤ m) : (repTo v m k).take k ++ (repTo v m k).take (min k (m - k)) ++ (repTo v m k).drop (k + min k (m - k)) = repTo v m (k + min k (m - k)) := by
  have h1 : min k (m - k) ≤ k := Nat.min_le_left _ _
  unfold repTo
  rw [List.take_left' (List.length_replicate), List.take_append_of_le_length (by simpa using h1), List.take_replicate, List.drop_append, List.drop_of_length_le (by simp), List.nil_append, List.length_replicate, List.drop_replicate, List.replicate_append_replicate]
  congr 2
  · omega
  · omega
set_option maxRecDepth 10000 in
/-- slices.Repeat of a slice of one number. -/
theorem f83 (v : Int) (A : Option Addr) (c m : Nat) (h1 : 1 ≤ m) (hm : m ≤ 4096) (w : World) (hx : (sl (eInt .i64) 1 A 1 c [v]).p w) : RetL 83 [.slice A 1 c, .int .i64 m] w (List.replicate m v) := by
  refine calls_cw Try.func83 rfl Try.ntmps83 rfl ?_
  have hS := (St.start w).args (Nat.le_refl _) _ hx rfl
  refine cw_seq ?_
  -- region 0
  refine cw_region ?_
  refine lw_v rfl rfl (ok_assign rfl (.n rfl) rfl) ?_
  refine lw_nil ?_
  refine Ends.keep [(0, .eq _), (1, .eq _)] (.cons rfl (.cons rfl .nil)) ?_
  refine ends_then ?_
  refine cw_seq ?_
  refine cw_seq ?_
  -- region 1
  refine cw_region ?_
  refine lw_v rfl rfl (ok_move rfl (.n rfl) rfl) ?_
  refine lw_v rfl rfl (ok_lss rfl (.n rfl) rfl rfl) ?_
  refine lw_nil ?_
  refine Ends.keep [(0, .eq _), (1, .eq _), (10, .eq _)] (.cons rfl (.cons rfl (.cons rfl .nil))) ?_
  refine ends_then ?_
  refine cw_cond rfl (fun h10 => ?_) (fun h10 => ?_)
  ·
    exact absurd (of_decide_eq_true h10) (by omega)
  ·
    refine cw_skip ?_
    refine ends_then ?_
    refine cw_seq ?_
    -- region 3
    refine cw_region ?_
    refine lw_v rfl rfl (ok_move rfl (.n rfl) rfl) ?_
    refine lw_v rfl rfl (ok_len rfl (.n rfl) Try.underlying26 rfl) ?_
    refine lw_v rfl rfl (ok_eq (ok_conv rfl (.n rfl) Try.underlying3 Try.underlying118 rfl) (c' := .int .u64 1) (fun _ => congrArg (Value.int .u64) (by first | exact wrap_u (by omega) | exact wrap_in (by omega)))) ?_
    refine lw_v rfl rfl (ok_move rfl (.n rfl) rfl) ?_
    refine lw_v rfl rfl (ok_eq (ok_conv rfl (.n rfl) Try.underlying3 Try.underlying118 rfl) (c' := .int .u64 m) (fun _ => congrArg (Value.int .u64) (by first | exact wrap_u (by omega) | exact wrap_in (by omega)))) ?_
    refine lw_call (f := 100) (xs := [_, _]) rfl rfl rfl Try.call100 rfl (Calls.mono (f100 m (by omega) _) ?_)
    rintro e w' ⟨rfl, hg⟩
    replace hS := hS.grow hg; clear hg
    refine ⟨_, rfl, ?_⟩
    refine lw_v rfl rfl (ok_move rfl (.n rfl) rfl) ?_
    refine lw_v rfl rfl (ok_extract rfl (.n rfl) rfl rfl) ?_
    refine lw_v rfl rfl (ok_extract rfl (.n rfl) rfl rfl) ?_
    refine lw_v rfl rfl (ok_assign rfl (.n rfl) rfl) ?_
    refine lw_v rfl rfl (ok_assign rfl (.n rfl) rfl) ?_
    refine lw_nil ?_
    refine Ends.keep [(0, .eq _), (5, .eq _), (6, .eq _)] (.cons rfl (.cons rfl (.cons rfl .nil))) ?_
    refine ends_then ?_
    refine cw_seq ?_
    refine cw_seq ?_
    -- region 4
    refine cw_region ?_
    refine lw_v rfl rfl (ok_move rfl (.n rfl) rfl) ?_
    refine lw_v rfl rfl (ok_gtr rfl (.n rfl) rfl rfl) ?_
    refine lw_v rfl rfl (ok_move rfl (.n rfl) rfl) ?_
    refine lw_v rfl rfl (ok_move rfl (.s rfl rfl) rfl) ?_
    refine lw_v rfl rfl (ok_gtr rfl (.s rfl rfl) rfl rfl) ?_
    refine lw_v rfl rfl (ok_or rfl rfl rfl rfl) ?_
    refine lw_nil ?_
    refine Ends.keep [(0, .eq _), (6, .eq _), (26, .eq _)] (.cons rfl (.cons rfl (.cons rfl .nil))) ?_
    refine ends_then ?_
    refine cw_cond rfl (fun h26 => ?_) (fun h26 => ?_)
    ·
      rw [Bool.or_eq_true, decide_eq_true_eq, decide_eq_true_eq] at h26
      omega
    ·
      refine cw_skip ?_
      refine ends_then ?_
      refine cw_seq ?_
      -- region 6
      refine cw_region ?_
      refine lw_v rfl rfl (ok_move rfl (.n rfl) rfl) ?_
      refine lw_v rfl rfl (ok_eq (ok_conv rfl (.n rfl) Try.underlying118 Try.underlying3 rfl) (c' := .int .i64 m) (fun _ => congrArg (Value.int .i64) (by first | exact wrap_u (by omega) | exact wrap_in (by omega)))) ?_
      refine lw_make (enc := (eInt .i64)) rfl rfl rfl Try.underlying26 info3 rfl rfl rfl rfl (by omega) (by omega) hS ?_
      clear hS; intro A30 c30 w1 _ hS
      refine lw_v rfl rfl (ok_assign rfl (.n rfl) rfl) ?_
      refine lw_nil ?_
      refine Ends.keep [(0, .eq _), (7, .eq _)] (.cons rfl (.cons rfl .nil)) ?_
      refine ends_then ?_
      refine cw_seq ?_
      -- region 7
      refine cw_region ?_
      refine lw_v rfl rfl (ok_move rfl (.n rfl) rfl) ?_
      refine lw_v rfl rfl (ok_move rfl (.n rfl) rfl) ?_
      refine lw_copy (enc := eInt .i64) 0 rfl rfl rfl Try.underlying26 size3 rfl (add0 _) rfl hS (by omega) (by omega) (by omega) ?_
      intro wq hS1
      replace hS := hS1 _ Rep.r; clear hS1
      have emin : min 1 m = 1 := by omega
      rw [emin] at hS ⊢
      rw [show (List.replicate m (0 : Int)).take 0 ++ ([v] : List Int).take 1 ++ (List.replicate m (0 : Int)).drop (0 + 1) = repTo v m 1 from by simp [repTo, List.drop_replicate]] at hS
      have hcap := hS.cap (HasSl.mem (L := _) (A := A30) (enc := eInt .i64) (sz := 1) (m := m) (c := c30) (xs := repTo v m 1))
      refine lw_v rfl rfl (ok_assign rfl (.n rfl) rfl) ?_
      refine lw_nil ?_
      refine Ends.keep [(7, .eq _), (8, .eq _)] (.cons rfl (.cons rfl .nil)) ?_
      refine ends_then ?_
      refine cw_seq ?_
      refine cw_block ?_
      -- LOOP at region 8: changed live slots [8], kept [7]
      refine cw_loop [(7, .eq _)] (fun k : Nat => [(8, .eq (.int .i64 k))]) (fun k w' => (1 ≤ k ∧ k ≤ m) ∧ St w.heap.size w w' [own (eInt .i64) 1 3 A30 m c30 (repTo v m k), sl (eInt .i64) 1 A 1 c [v]]) (fun k => m - k) 1 (.cons rfl .nil) (.cons rfl (.cons rfl .nil)) ⟨⟨by omega, by omega⟩, hS⟩ ?_
      clear hS
      rintro k wr ⟨⟨hk1, hk⟩, hS⟩
      refine cw_seq ?_
      refine cw_seq ?_
      -- region 8
      refine cw_region ?_
      refine lw_v rfl rfl (ok_move rfl (.n rfl) rfl) ?_
      refine lw_v rfl rfl (ok_move rfl (.n rfl) rfl) ?_
      refine lw_v rfl rfl (ok_len rfl (.n rfl) Try.underlying26 rfl) ?_
      refine lw_v rfl rfl (ok_lss rfl (.n rfl) rfl rfl) ?_
      refine lw_nil ?_
      refine Ends.keep [(7, .eq _), (8, .eq _), (37, .eq _)] (.cons rfl (.cons rfl (.cons rfl .nil))) ?_
      refine ends_then ?_
      refine cw_cond rfl (fun h37 => ?_) (fun h37 => ?_)
      ·
        have hkm : k < m := by have := of_decide_eq_true h37; omega
        refine cw_skip ?_
        refine ends_then ?_
        refine cw_block ?_
        -- region 9
        refine cw_draw2 (by kernel_rfl) (List.take 8 _) (List.drop 8 _) [false, false, false, false, false, false, false, true] (List.take_append_drop 8 _).symm (by kernel_rfl) (fun _ => True) (fun vs w' => match vs with
              | [] => St w.heap.size w w' [own (eInt .i64) 1 3 A30 m c30 (repTo v m k), sl (eInt .i64) 1 A 1 c [v]]
              | [v1] => v1 = .int .i64 ((min k (m - k) : Nat) : Int) ∧ St w.heap.size w w' [own (eInt .i64) 1 3 A30 m c30 (repTo v m (k + min k (m - k))), sl (eInt .i64) 1 A 1 c [v]]
              | _ => False) (fun _ _ _ => trivial) hS.drew ?_
        refine free2_v (ok_each (w0 := w) trivial (fun w_ _ => ok_move rfl (.n rfl) rfl)) rfl ?_
        refine free2_v (ok_each (w0 := w) trivial (fun w_ _ => ok_move rfl (.n rfl) rfl)) rfl ?_
        refine free2_v (ok_each (w0 := w) trivial (fun w_ _ => ok_move rfl (.n rfl) rfl)) rfl ?_
        refine free2_v (ok_each (w0 := w) trivial (fun w_ _ => ok_slfrom' k rfl (.n rfl) Try.underlying26 Try.sizeOf3 rfl rfl hcap ⟨rfl, hkm⟩)) rfl ?_
        refine free2_v (ok_each (w0 := w) trivial (fun w_ _ => ok_move rfl (.n rfl) rfl)) rfl ?_
        refine free2_v (ok_each (w0 := w) trivial (fun w_ _ => ok_move rfl (.n rfl) rfl)) rfl ?_
        refine free2_v (ok_each (w0 := w) trivial (fun w_ _ => ok_slto' k rfl (.n rfl) Try.underlying26 Try.sizeOf3 rfl rfl hcap ⟨rfl, by omega⟩)) rfl ?_
        refine free2_w ?_ ?_
        ·
          intro vs wq hv hP
          obtain rfl : vs = [] := List.eq_nil_of_length_eq_zero hv
          have hS : St w.heap.size w wq [own (eInt .i64) 1 3 A30 m c30 (repTo v m k), sl (eInt .i64) 1 A 1 c [v]] := hP
          refine lw_copy (enc := eInt .i64) (m := m) (m2 := m) k rfl rfl rfl Try.underlying26 size3 rfl (by rw [Nat.mul_one]) rfl hS (by omega) (by omega) (by omega) ?_
          intro w' hS1
          replace hS := hS1 _ Rep.r
          rw [repTo_step v (by omega)] at hS
          refine lw_nil fun a ha _ hs => ⟨rfl, ha, ?_⟩
          have e1 : tm a 45 = _ := hs 45 _ rfl
          exact ⟨e1, hS⟩
        refine free2_nil ?_
        clear hS
        intro vs wq hv hP
        obtain ⟨v1, rfl⟩ := List.length_eq_one_iff.1 hv
        obtain ⟨rfl, hS⟩ := hP
        refine lw_v rfl rfl (ok_addi rfl (.n rfl) rfl rfl (fun _ => ⟨by omega, by omega⟩)) ?_
        refine lw_v rfl rfl (ok_assign rfl (.n rfl) rfl) ?_
        refine lw_nil ?_
        refine in_normal (?_)
        -- BACK
        refine ends_back (k + min k (m - k)) (.cons rfl (.cons rfl .nil)) ⟨⟨by omega, by omega⟩, hS⟩ (by omega)
      ·
        have hkm : k = m := by have := of_decide_eq_false h37; omega
        subst hkm
        refine cw_exit ?_
        refine then_exit (then_exit (in_exit (?_)))
        refine Ends.keep [(7, .eq _)] (.cons rfl .nil) ?_
        refine ends_then ?_
        refine cw_seq ?_
        -- region 10
        refine cw_region ?_
        refine lw_v rfl rfl (ok_move rfl (.n rfl) rfl) ?_
        refine lw_v rfl rfl (ok_assign rfl (.n rfl) rfl) ?_
        refine lw_nil ?_
        refine Ends.keep [(4, .eq _)] (.cons rfl .nil) ?_
        refine ends_then ?_
        refine cw_ret ?_
        refine end_ret (res1 Try.results83 rfl) ⟨A30, c30, ?_, hS.below, ?_, ?_⟩
        · rw [List.length_replicate]
        · rw [List.length_replicate]; exact fun b hb => hS.ge _ (.head _) rfl b hb
        · have := hS.ok _ (.head _)
          rw [repTo_end] at this
          rw [List.length_replicate]; exact this

end Go.Proofs.Ytnpgeohkmdcbkaa.Aq
